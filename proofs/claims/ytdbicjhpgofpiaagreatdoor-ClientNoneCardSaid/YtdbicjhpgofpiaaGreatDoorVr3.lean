/- Vr3: an environment whose functions are looked up without a check; the checks stand in a theorem of their own. -/
import Derived.Test.YtdbicjhpgofpiaaGreatDoorVr2
namespace Go.Vi
def planRaw (ops : Array Oper) : Plan :=
  { heavy := (List.range ops.size).filter fun i => match ops[i]? with | some o => heavyOp o | none => false
    lo := (List.range ops.size).map fun j => (((List.range ops.size).filter fun i => match ops[i]? with | some o => heavyOp o | none => false).filter fun c => ((befores ops).getD j 0).testBit c).length
    hi := (List.range ops.size).map fun j => (((List.range ops.size).filter fun i => match ops[i]? with | some o => heavyOp o | none => false).takeWhile fun c => !((befores ops).getD c 0).testBit j).length }
def plansRaw : Code → List (Nat × Plan)
  | .region id ops true => [(id, planRaw ops)]
  | .seq a b => plansRaw a ++ plansRaw b
  | .cond _ a b => plansRaw a ++ plansRaw b
  | .block _ b => plansRaw b
  | .loop b => plansRaw b
  | .rangeFunc _ _ a b => plansRaw a ++ plansRaw b
  | _ => []
def fnRaw (P : Program) (ex : List Nat) (f : FuncId) : Option Fun :=
  if ex.contains f then none else
  match P.funcs[f]? with
  | none => none
  | some fn => match fn.body with
    | none => none
    | some c => some { fn := fn, body := c, plan := lookP (plansRaw c) }
def okAt (P : Program) (ex : List Nat) (f : FuncId) : Bool :=
  match fnRaw P ex f with
  | some x => decide (x.fn.name ≠ "runtime.NumGoroutine") && planOk x.plan x.body && codeOk x.body
  | none => true
theorem fnRaw_ok {P : Program} {ex : List Nat} {f : FuncId} {x : Fun} (hx : fnRaw P ex f = some x) (h : okAt P ex f = true) : FunOk P f x := by
  unfold okAt at h
  rw [hx] at h
  simp only [Bool.and_eq_true, decide_eq_true_eq] at h
  unfold fnRaw at hx
  split at hx
  · cases hx
  · split at hx
    · cases hx
    · rename_i fn hf
      split at hx
      · cases hx
      · rename_i c hc
        cases hx
        exact ⟨hf, hc, h.1.1, h.1.2, h.2⟩
/-- the functions from one number on, so many of them, are fit. -/
def okFrom (P : Program) (ex : List Nat) (a n : Nat) : Bool := (List.range n).all fun i => okAt P ex (a + i)
theorem okFrom_at {P : Program} {ex : List Nat} {a n : Nat} (h : okFrom P ex a n = true) {f : Nat} (h1 : a ≤ f) (h2 : f < a + n) : okAt P ex f = true := by
  have := List.all_eq_true.1 h (f - a) (List.mem_range.2 (by omega))
  rwa [show a + (f - a) = f by omega] at this
theorem okAt_out {P : Program} {ex : List Nat} {f : Nat} (h : P.funcs.size ≤ f) : okAt P ex f = true := by
  have hn : P.funcs[f]? = none := Array.getElem?_eq_none h
  unfold okAt fnRaw
  rw [hn]
  split
  · rename_i hx; split at hx <;> cases hx
  · rfl
def envD (P : Program) (k : FuncId) (ex : List Nat) : Env := { ty := tyOf P, fn := fnRaw P ex, meth := methOf P, ext := fun _ => none, row := fun f => if f = k then some cloneV else none }
theorem envD_ok {P : Program} {k : FuncId} {ex : List Nat} {fn : Func} (hall : ∀ f, okAt P ex f = true) (mx : P.follows .mixedOrders = true) (hf : P.funcs[k]? = some fn) (hn : (fn.name == "runtime.NumGoroutine") = false) (hb : fn.body.isNone = true)
    (h1 : Extern.findNext fn = none) (h2 : Extern.find fn = some Extern.MapsClone.clone) : EnvOk P (envD P k ex) :=
  have e := envC_ok (k := k) mx hf hn hb h1 h2
  ⟨fun _ _ h => tyOf_ok h, fun _ _ _ h v w => methOf_ok h v w, fun f _ h => fnRaw_ok h (hall f), fun _ _ h => (nomatch h), mx, e.row⟩
end Go.Vi
