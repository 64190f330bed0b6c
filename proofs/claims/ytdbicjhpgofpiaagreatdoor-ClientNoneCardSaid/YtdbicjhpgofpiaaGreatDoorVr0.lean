/- Vr0: maps.clone, of which the model has no body; an environment with such functions. -/
import Derived.Test.YtdbicjhpgofpiaaGreatDoorVf4
import Derived.Laws.Externs
namespace Go.Vi
def cloneV (args : List Value) (h : Heap) : Option (Value × Heap) :=
  match args with
  | [.iface t (.map (some r))] => match mapOf h (.map (some r)) with
    | some (es, c) => some (.iface t (.map (some h.next)), h.new (.map es c))
    | none => none
  | _ => none
theorem run_clone {P : Program} {w : World} {r : Nat} {es : Array MapEntry} {clock : Nat} (t : TypeId) (hb : w.heap[r]? = some (.map es clock)) :
    (Extern.MapsClone.clone #[.iface t (.map (some r))]).run P w = .ok (.iface t (.map (some w.heap.size))) (w.alloc (.map es clock)) := by
  have e : Extern.MapsClone.clone #[.iface t (.map (some r))] = (getObj r >>= fun o => match o with
      | .map entries clock => (newObj (.map entries clock) >>= fun n => pure (.iface t (.map (some n))))
      | _ => stuck "maps.clone: a map expected") := rfl
  rw [e]
  simp [run_getObj_map hb, Result.andThen]
theorem clone_ok {P : Program} {f : FuncId} {fn : Func} (hf : P.funcs[f]? = some fn) (hn : (fn.name == "runtime.NumGoroutine") = false) (hb : fn.body.isNone = true) (h1 : Extern.findNext fn = none) (h2 : Extern.find fn = some Extern.MapsClone.clone)
    {args : List Value} {h h' : Heap} {v : Value} (hc : cloneV args h = some (v, h')) : h.next ≤ h'.next ∧
    ∀ (ρ : Map) (w : World) (args' : Array Value), Good ρ h w → Win ρ h h' → VRels ρ args args'.toList → ∃ v' w' ρ', (callFunc f args').run P w = .ok (.value v') w' ∧ VRel ρ' v v' ∧ Good ρ' h' w' ∧ Stp ρ h w ρ' h' w' := by
  unfold cloneV at hc
  split at hc
  · rename_i t r
    split at hc
    · rename_i es c hm
      cases hc
      refine ⟨Nat.le_succ _, fun ρ w args' g win hargs => ?_⟩
      obtain ⟨v', r', hl, hv, hr⟩ := hargs.cons_inv
      have := hr.nil_inv
      subst this
      cases hv with
      | iface _ _ u' hu =>
        obtain ⟨b, j, es', hb1, hb2, hget, rfl, hw, hrel⟩ := mapOf_run g hu hm
        cases hb1
        have hn0 := win h.next (Nat.le_refl _) (by show h.next < h.next + 1; omega)
        obtain ⟨g', s'⟩ := step_new (o := .map es c) (i := { blk := w.heap.size, base := 0, opn := none, tot := 0 }) (w' := w.alloc (.map es' c)) g hn0 rfl ⟨by rw [World.size_alloc], rfl, rfl⟩
          (fun r hr => alloc_old w _ r hr) ⟨es', alloc_new w _, hrel.ext (upd_ext _ hn0)⟩
        have ha : args' = #[.iface t (.map (some j.blk))] := by apply Array.ext'; rw [hl]
        refine ⟨_, _, _, ?_, .iface t _ _ (.map h.next _ upd_self), g', s'⟩
        rw [ha, run_callFunc_extern hf hn hb h1 h2, run_clone t hw]
        rfl
    · cases hc
  · cases hc
/-- methods by way of interfaces: those that stand in the type's own table, and take the value as it is. -/
def methOf (P : Program) (t : TypeId) (n : String) : Option FuncId :=
  match P.info? t, P.underlying t with
  | some x, some u => match x.methods.find? (·.name == n) with
    | some m => match m.path.toList, m.func, u with
      | [], some (f, true), .pointer _ => some f
      | [], some (_, false), .pointer _ => none
      | [], some (f, false), _ => some f
      | _, _, _ => none
    | none => none
  | _, _ => none
theorem methOf_ok {P : Program} {t : TypeId} {n : String} {f : FuncId} (h : methOf P t n = some f) (v : Value) (w : World) : (method (P.types.size + Made.depth) t v n).run P w = .ok (f, v) w := by
  have h100 : Made.depth = 100 := rfl
  obtain ⟨k, hk⟩ : ∃ k, P.types.size + Made.depth = k + 1 := ⟨P.types.size + 99, by rw [h100]⟩
  rw [hk]
  unfold methOf at h
  split at h
  · rename_i x u hx hu
    split at h
    · rename_i m hm
      have hti : (typeInfo t).run P w = .ok x w := by simp [typeInfo, hx]
      have hun : (underlying t).run P w = .ok u w := by simp [underlying, hu]
      split at h
      · rename_i fid el hp hf
        cases h
        unfold method
        simp only [Sem.run_bind, hti, Result.andThen_ok, hm, hp, follow, Sem.run_pure, hf, receiverAt, hun, Place.get]
      · cases h
      · rename_i fid hp hf hnp
        cases h
        unfold method
        simp only [Sem.run_bind, hti, Result.andThen_ok, hm, hp, follow, Sem.run_pure, hf, receiverAt, hun, Place.get]
      · cases h
    · cases h
  · cases h
/-- the environment of a program, of which one function is maps.clone. -/
def envC (P : Program) (k : FuncId) : Env := { ty := tyOf P, fn := fnOf P, meth := methOf P, ext := fun _ => none, row := fun f => if f = k then some cloneV else none }
theorem envC_ok {P : Program} {k : FuncId} {fn : Func} (mx : P.follows .mixedOrders = true) (hf : P.funcs[k]? = some fn) (hn : (fn.name == "runtime.NumGoroutine") = false) (hb : fn.body.isNone = true)
    (h1 : Extern.findNext fn = none) (h2 : Extern.find fn = some Extern.MapsClone.clone) : EnvOk P (envC P k) :=
  ⟨fun _ _ h => tyOf_ok h, fun _ _ _ h v w => methOf_ok h v w, fun _ _ h => fnOf_ok h, fun _ _ h => (nomatch h), mx, fun f g h => by
    have h : (if f = k then some cloneV else none) = some g := h
    split at h
    · rename_i hfk
      cases h
      subst hfk
      exact fun args h h' v hc => clone_ok hf hn hb h1 h2 hc
    · cases h⟩
end Go.Vi
