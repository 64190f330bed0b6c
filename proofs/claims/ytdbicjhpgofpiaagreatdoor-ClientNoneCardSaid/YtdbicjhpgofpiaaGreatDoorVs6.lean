/- Vs6: the environment that a program gives: its types and functions, looked up in the program itself. -/
import Derived.Test.YtdbicjhpgofpiaaGreatDoorVs5
namespace Go.Vi
def tyOf (P : Program) (t : TypeId) : Option Ty :=
  match P.underlying t, P.info? t with
  | some u, some x =>
    if x.zero.all (plainB 100) then
      some { under := u, agg := aggD u, size := x.size, bytes := x.bytes, zero := x.zero, eqg := P.eqGuardType P.depth t, held := P.stoodInHeld t, cmp := x.comparable,
             tag := (match u with | .struct fs => (match fs[0]? with | some f => (match P.underlying f.type with | some (.pointer e) => Nat.beq e t | _ => false) | none => false) | _ => false) && liesAt P P.depth t 1 0 t 1,
             places := match u with | .struct fs => fs.toList.mapM (fun f => (P.info? f.type).map fun i => (f.offset, i.size)) | _ => none }
    else none
  | _, _ => none
theorem tyOf_ok {P : Program} {t : TypeId} {i : Ty} (h : tyOf P t = some i) : TyOk P t i := by
  unfold tyOf at h
  split at h
  · rename_i u x hu hx
    split at h
    · rename_i hz
      cases h
      refine ⟨hu, rfl, ⟨x, hx, rfl, rfl, rfl, rfl⟩, fun z h => ?_, fun h => h, fun h => h, fun h => (Bool.and_eq_true_iff.1 h).2, fun fs pl h1 h2 => ?_⟩
      · simp only at h; rw [h] at hz; simpa using hz
      · simp only at h1; subst h1; exact h2
    · cases h
  · cases h
def plansOf : Code → List (Nat × Plan)
  | .region id ops true => match mkPlan ops with | some p => [(id, p)] | none => []
  | .seq a b => plansOf a ++ plansOf b
  | .cond _ a b => plansOf a ++ plansOf b
  | .block _ b => plansOf b
  | .loop b => plansOf b
  | .rangeFunc _ _ a b => plansOf a ++ plansOf b
  | _ => []
def lookP : List (Nat × Plan) → Nat → Option Plan
  | [], _ => none
  | (i, p) :: r, id => if i = id then some p else lookP r id
def fnOf (P : Program) (f : FuncId) : Option Fun :=
  match P.funcs[f]? with
  | none => none
  | some fn => match fn.body with
    | none => none
    | some c => if fn.name ≠ "runtime.NumGoroutine" ∧ planOk (lookP (plansOf c)) c = true ∧ codeOk c = true then some { fn := fn, body := c, plan := lookP (plansOf c) } else none
theorem fnOf_ok {P : Program} {f : FuncId} {x : Fun} (h : fnOf P f = some x) : FunOk P f x := by
  unfold fnOf at h
  split at h
  · cases h
  · rename_i fn hf
    split at h
    · cases h
    · rename_i c hc
      split at h
      · rename_i hq
        cases h
        exact ⟨hf, hc, hq.1, hq.2.1, hq.2.2⟩
      · cases h
/-- no methods through interfaces, no functions that are told by hand. -/
def envP (P : Program) : Env := { ty := tyOf P, fn := fnOf P, meth := fun _ _ => none, ext := fun _ => none, row := fun _ => none }
theorem envP_ok {P : Program} (mx : P.follows .mixedOrders = true) : EnvOk P (envP P) :=
  ⟨fun _ _ h => tyOf_ok h, fun _ _ _ h => (nomatch h), fun _ _ h => fnOf_ok h, fun _ _ h => (nomatch h), mx, fun _ _ h => (nomatch h)⟩
end Go.Vi
