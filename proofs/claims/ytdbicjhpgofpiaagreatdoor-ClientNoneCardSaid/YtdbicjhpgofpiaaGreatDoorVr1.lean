/- Vr1: from a run of the fast interpreter to a Go call that answers true and leaves the world's elder part alone. -/
import Derived.Test.YtdbicjhpgofpiaaGreatDoorVr0
import Derived.Below
namespace Go.Vi
noncomputable def isTrue (x : Option (Value × Heap)) : Bool :=
  match x with
  | some (.bool b, _) => b
  | _ => false
theorem isTrue_inv {x : Option (Value × Heap)} (h : isTrue x = true) : ∃ h', x = some (.bool true, h') := by
  unfold isTrue at h
  split at h
  · subst h; exact ⟨_, rfl⟩
  · cases h
/-- arguments without pointers; the run says true. -/
theorem calls_true {P : Program} {E : Env} (ok : EnvOk P E) {n : Nat} {f : FuncId} {args : List Value} (hp : args.all (plainB 100) = true) (hv : isTrue ((callF E n).fn f args h0) = true) (w : World) :
    Calls P f ⟨args⟩ w fun e w' => e = .returned (.bool true) ∧ ∀ may : MemPlace → Prop, w.keptBut w' may := by
  obtain ⟨h', hr⟩ := isTrue_inv hv
  refine (calls_bool ok hp ((call_le E n).fn _ _ _ _ hr) w).mono fun e w' hh => ?_
  obtain ⟨he, h1, h2, _, h3⟩ := hh
  refine ⟨he, fun may => ⟨h1, h2, fun i hi => ?_⟩⟩
  rw [h3 i hi]
  split <;> simp_all
end Go.Vi
