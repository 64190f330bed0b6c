/- Vr0: maps.clone, of which the model has no body; an environment with such functions. Vr1: from a run of the fast interpreter to a Go call that answers true and leaves the world's elder part alone. Vr2: functions that take and give no pointers, run once for all. Vr3: an environment whose functions are looked up without a check; the checks stand in a theorem of their own. Vr4: a long run cut in pieces: what one call does at one heap, told; what of its new blocks is out of reach is forgotten. Vr5: two more functions without a body: bytealg's CountString and IndexByteString. -/
import Derived.Test.YthkpbhdljbdliaaVgE
import Derived.Laws.Externs
import Derived.Below
namespace Go.Vi
variable {K : Known}
def cloneV (args : List Value) (h : Heap) : Option (Value × Heap) :=
  match args with
  | [.iface t (.map (some r))] => match mapOf h (.map (some r)) with
    | some (es, c) => some (.iface t (.map (some h.next)), h.new (.map es c))
    | none => none
  | _ => none
theorem run_clone {P : Program} {w : World} {r : Nat} {es : Array MapEntry} {clock : Nat} (t : TypeId) (hb : w.heap[r]? = some (.map es clock)) :
    (Extern.MapsClone.clone #[.iface t (.map (some r))]).run P w = .ok (.iface t (.map (some w.heap.size))) (w.alloc (.map es clock)) := by
  have e : Extern.MapsClone.clone #[.iface t (.map (some r))] = (getObj r >>= fun o => match o with
      | .map entries clock => (newObj (.map entries clock) >>= fun n => pure (.iface t (.map (some n))))
      | _ => stuck "maps.clone: a map expected") := rfl
  rw [e]
  simp [run_getObj_map hb, Result.andThen]
theorem clone_ok {P : Program} {f : FuncId} {fn : Func} (hf : P.funcs[f]? = some fn) (hn : (fn.name == "runtime.NumGoroutine") = false) (hb : fn.body.isNone = true) (h1 : Extern.findNext fn = none) (h2 : Extern.find fn = some Extern.MapsClone.clone)
    {args : List Value} {h h' : Heap} {v : Value} (hc : cloneV args h = some (v, h')) : h.next ≤ h'.next ∧
    ∀ (ρ : Map) (w : World) (args' : Array Value), Good K ρ h w → Win ρ h h' → VRels ρ args args'.toList → ∃ v' w' ρ', (callFunc f args').run P w = .ok (.value v') w' ∧ VRel ρ' v v' ∧ Good K ρ' h' w' ∧ Stp ρ h w ρ' h' w' := by
  unfold cloneV at hc
  split at hc
  · rename_i t r
    split at hc
    · rename_i es c hm
      cases hc
      refine ⟨Nat.le_succ _, fun ρ w args' g win hargs => ?_⟩
      obtain ⟨v', r', hl, hv, hr⟩ := hargs.cons_inv
      have := hr.nil_inv
      subst this
      cases hv with
      | iface _ _ u' hu =>
        obtain ⟨b, j, es', hb1, hb2, hget, rfl, hw, hrel⟩ := mapOf_run g hu hm
        cases hb1
        have hn0 := win h.next (Nat.le_refl _) (by show h.next < h.next + 1; omega)
        obtain ⟨g', s'⟩ := step_new (o := .map es c) (i := { blk := w.heap.size, base := 0, opn := none, tot := 0 }) (w' := w.alloc (.map es' c)) g hn0 rfl ⟨by rw [World.size_alloc], rfl, rfl⟩
          (fun r hr => alloc_old w _ r hr) ⟨es', alloc_new w _, hrel.ext (upd_ext _ hn0)⟩
        have ha : args' = #[.iface t (.map (some j.blk))] := by apply Array.ext'; rw [hl]
        refine ⟨_, _, _, ?_, .iface t _ _ (.map h.next _ upd_self), g', s'⟩
        rw [ha, run_callFunc_extern hf hn hb h1 h2, run_clone t hw]
        rfl
    · cases hc
  · cases hc
def methOf (P : Program) (t : TypeId) (n : String) : Option FuncId :=
  match P.info? t, P.underlying t with
  | some x, some u => match x.methods.find? (·.name == n) with
    | some m => match m.path.toList, m.func, u with
      | [], some (f, true), .pointer _ => some f
      | [], some (_, false), .pointer _ => none
      | [], some (f, false), _ => some f
      | _, _, _ => none
    | none => none
  | _, _ => none
theorem methOf_ok {P : Program} {t : TypeId} {n : String} {f : FuncId} (h : methOf P t n = some f) (v : Value) (w : World) : (method (P.types.size + Made.depth) t v n).run P w = .ok (f, v) w := by
  have h100 : Made.depth = 100 := rfl
  obtain ⟨k, hk⟩ : ∃ k, P.types.size + Made.depth = k + 1 := ⟨P.types.size + 99, by rw [h100]⟩
  rw [hk]
  unfold methOf at h
  split at h
  · rename_i x u hx hu
    split at h
    · rename_i m hm
      have hti : (typeInfo t).run P w = .ok x w := by simp [typeInfo, hx]
      have hun : (underlying t).run P w = .ok u w := by simp [underlying, hu]
      split at h
      · rename_i fid el hp hf
        cases h
        unfold method
        simp only [Sem.run_bind, hti, Result.andThen_ok, hm, hp, follow, Sem.run_pure, hf, receiverAt, hun, Place.get]
      · cases h
      · rename_i fid hp hf hnp
        cases h
        unfold method
        simp only [Sem.run_bind, hti, Result.andThen_ok, hm, hp, follow, Sem.run_pure, hf, receiverAt, hun, Place.get]
      · cases h
    · cases h
  · cases h
end Go.Vi
namespace Go.Vi
noncomputable def isTrue (x : Option (Value × Heap)) : Bool :=
  match x with
  | some (.bool b, _) => b
  | _ => false
theorem isTrue_inv {x : Option (Value × Heap)} (h : isTrue x = true) : ∃ h', x = some (.bool true, h') := by
  unfold isTrue at h
  split at h
  · subst h; exact ⟨_, rfl⟩
  · cases h
end Go.Vi
namespace Go.Vi
variable {K : Known}
theorem plains_inv {ρ : Map} {n : Nat} (ih : ∀ v v', plainB n v = true → VRel ρ v v' → v' = v) (l l' : List Value) (h : l.all (plainB n) = true) (r : VRels ρ l l') : l' = l := by
  apply List.ext_getElem r.1.symm
  intro j h1 h2
  exact ih _ _ (List.all_eq_true.1 h _ (List.getElem_mem h2)) (r.2 j h2 h1)
theorem plain_inv {ρ : Map} : ∀ (n : Nat) (v v' : Value), plainB n v = true → VRel ρ v v' → v' = v := by
  intro n
  induction n with
  | zero => intro v v' h; simp [plainB] at h
  | succ n ih =>
    intro v v' h r
    cases r with
    | bool b => rfl
    | int k n => rfl
    | string s => rfl
    | ptr0 => rfl
    | ptr b o i hb => simp [plainB] at h
    | slice0 => rfl
    | slice b o len cap i o' cap' => simp [plainB] at h
    | sliceE a => simp [plainB] at h
    | map0 => rfl
    | map b i hb => simp [plainB] at h
    | chan0 => rfl
    | chan b i hb => simp [plainB] at h
    | nilFunc => rfl
    | func g l l' c c' hl hr kl kr =>
      simp [plainB] at h
      obtain ⟨rfl, rfl⟩ := h
      have e1 : l' = #[] := Array.eq_empty_of_size_eq_zero (by simpa using hl.symm)
      have e2 : c' = #[] := Array.eq_empty_of_size_eq_zero (by simpa using kl.symm)
      rw [e1, e2]
    | yield b i hb => simp [plainB] at h
    | nilIface => rfl
    | iface t u u' hu => rw [ih _ _ (by simpa [plainB] using h) hu]
    | agg l l' hl hr =>
      have := plains_inv ih l.toList l'.toList (by simpa [plainB] using h) ⟨hl, hr⟩
      rw [show l' = l from by apply Array.ext'; exact this]
    | tuple l l' hl hr =>
      have := plains_inv ih l.toList l'.toList (by simpa [plainB] using h) ⟨hl, hr⟩
      rw [show l' = l from by apply Array.ext'; exact this]
def ExtOk (K : Known) (P : Program) (f : FuncId) (g : List Value → Heap → Option (Value × Heap)) : Prop := ∀ args h v h', g args h = some (v, h') → Enters P f ∧ h.next ≤ h'.next ∧
    ∀ ρ w (args' : Array Value), Good K ρ h w → Win ρ h h' → VRels ρ args args'.toList → Calls P f args' w (Post K ρ h w v h')
def memo (v : Value) : List Value → Heap → Option (Value × Heap) := fun a h => match a with
  | [] => some (v, h)
  | _ => none
theorem memo_ok {P : Program} {E : Env} (ok : EnvOk K P E) {n : Nat} {f : FuncId} {v : Value} {h1 : Heap} (hr : callV E n f [] h0 = some (v, h1)) (hp : plainB 100 v = true) : ExtOk K P f (memo v) := by
  intro args h u h' hm
  unfold memo at hm
  split at hm
  · cases hm
    have ck := call_ok ok n
    refine ⟨ck.enters _ _ _ _ _ hr, Nat.le_refl _, fun ρ w args' g _ hargs => ?_⟩
    have := hargs.nil_inv
    have ha : args' = #[] := by apply Array.ext'; simpa using this
    subst ha
    refine (ck.calls f [] h0 _ _ hr (fun _ => none) w #[] (good0' (K.down g.known)) (fun _ _ _ => rfl) .nil).mono ?_
    rintro e w' ⟨ρ', v', rfl, rv, g', s⟩
    have := plain_inv 100 _ _ hp rv
    subst this
    obtain ⟨g2, s2⟩ := step_grow g ⟨s.grow, s.side⟩ (fun r hr => s.rframe r hr (fun _ _ h => (nomatch h)))
    exact ⟨ρ, _, rfl, plain_rel 100 _ hp, g2, s2⟩
  · cases hm
def Env.tell (E : Env) (k : FuncId) (g : List Value → Heap → Option (Value × Heap)) : Env := { E with ext := fun f => if f = k then some g else E.ext f }
theorem tell_ok {P : Program} {E : Env} (ok : EnvOk K P E) {k : FuncId} {g : List Value → Heap → Option (Value × Heap)} (hg : ExtOk K P k g) : EnvOk K P (E.tell k g) :=
  ⟨ok.ty, ok.meth, ok.fn, fun f x h => by
    have h : (if f = k then some g else E.ext f) = some x := h
    split at h
    · rename_i e; cases h; subst e; exact hg
    · exact ok.ext f x h, ok.mixed, ok.row⟩
end Go.Vi
namespace Go.Vi
variable {K : Known}
def planRaw (ops : Array Oper) : Plan :=
  { heavy := (List.range ops.size).filter fun i => match ops[i]? with | some o => heavyOp o | none => false
    lo := (List.range ops.size).map fun j => (((List.range ops.size).filter fun i => match ops[i]? with | some o => heavyOp o | none => false).filter fun c => ((befores ops).getD j 0).testBit c).length
    hi := (List.range ops.size).map fun j => (((List.range ops.size).filter fun i => match ops[i]? with | some o => heavyOp o | none => false).takeWhile fun c => !((befores ops).getD c 0).testBit j).length }
def plansRaw : Code → List (Nat × Plan)
  | .region id ops true => [(id, planRaw ops)]
  | .seq a b => plansRaw a ++ plansRaw b
  | .cond _ a b => plansRaw a ++ plansRaw b
  | .block _ b => plansRaw b
  | .loop b => plansRaw b
  | .rangeFunc _ _ a b => plansRaw a ++ plansRaw b
  | _ => []
def fnRaw (P : Program) (ex : List Nat) (f : FuncId) : Option Fun :=
  if ex.contains f then none else
  match P.funcs[f]? with
  | none => none
  | some fn => match fn.body with
    | none => none
    | some c => some { fn := fn, body := c, plan := lookP (plansRaw c) }
def okAt (P : Program) (ex : List Nat) (f : FuncId) : Bool :=
  match fnRaw P ex f with
  | some x => decide (x.fn.name ≠ "runtime.NumGoroutine") && planOk x.plan x.body && codeOk x.body
  | none => true
theorem fnRaw_ok {P : Program} {ex : List Nat} {f : FuncId} {x : Fun} (hx : fnRaw P ex f = some x) (h : okAt P ex f = true) : FunOk P f x := by
  unfold okAt at h
  rw [hx] at h
  simp only [Bool.and_eq_true, decide_eq_true_eq] at h
  unfold fnRaw at hx
  split at hx
  · cases hx
  · split at hx
    · cases hx
    · rename_i fn hf
      split at hx
      · cases hx
      · rename_i c hc
        cases hx
        exact ⟨hf, hc, h.1.1, h.1.2, h.2⟩
def okFrom (P : Program) (ex : List Nat) (a n : Nat) : Bool := (List.range n).all fun i => okAt P ex (a + i)
theorem okFrom_at {P : Program} {ex : List Nat} {a n : Nat} (h : okFrom P ex a n = true) {f : Nat} (h1 : a ≤ f) (h2 : f < a + n) : okAt P ex f = true := by
  have := List.all_eq_true.1 h (f - a) (List.mem_range.2 (by omega))
  rwa [show a + (f - a) = f by omega] at this
theorem okAt_out {P : Program} {ex : List Nat} {f : Nat} (h : P.funcs.size ≤ f) : okAt P ex f = true := by
  have hn : P.funcs[f]? = none := Array.getElem?_eq_none h
  unfold okAt fnRaw
  rw [hn]
  split
  · rename_i hx; split at hx <;> cases hx
  · rfl
end Go.Vi
namespace Go.Vi
variable {K : Known}
end Go.Vi
namespace Go.Vi
variable {K : Known}
end Go.Vi
