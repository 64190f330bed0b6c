/- Vr2: functions that take and give no pointers, run once for all. -/
import Derived.Test.YtdbicjhpgofpiaaGreatDoorVr1
namespace Go.Vi
theorem plains_inv {ρ : Map} {n : Nat} (ih : ∀ v v', plainB n v = true → VRel ρ v v' → v' = v) (l l' : List Value) (h : l.all (plainB n) = true) (r : VRels ρ l l') : l' = l := by
  apply List.ext_getElem r.1.symm
  intro j h1 h2
  exact ih _ _ (List.all_eq_true.1 h _ (List.getElem_mem h2)) (r.2 j h2 h1)
theorem plain_inv {ρ : Map} : ∀ (n : Nat) (v v' : Value), plainB n v = true → VRel ρ v v' → v' = v := by
  intro n
  induction n with
  | zero => intro v v' h; simp [plainB] at h
  | succ n ih =>
    intro v v' h r
    cases r with
    | bool b => rfl
    | int k n => rfl
    | string s => rfl
    | ptr0 => rfl
    | ptr b o i hb => simp [plainB] at h
    | slice0 => rfl
    | slice b o len cap i o' cap' => simp [plainB] at h
    | map0 => rfl
    | map b i hb => simp [plainB] at h
    | chan0 => rfl
    | chan b i hb => simp [plainB] at h
    | nilFunc => rfl
    | func g l l' c c' hl hr kl kr =>
      simp [plainB] at h
      obtain ⟨rfl, rfl⟩ := h
      have e1 : l' = #[] := Array.eq_empty_of_size_eq_zero (by simpa using hl.symm)
      have e2 : c' = #[] := Array.eq_empty_of_size_eq_zero (by simpa using kl.symm)
      rw [e1, e2]
    | yield b i hb => simp [plainB] at h
    | nilIface => rfl
    | iface t u u' hu => rw [ih _ _ (by simpa [plainB] using h) hu]
    | agg l l' hl hr =>
      have := plains_inv ih l.toList l'.toList (by simpa [plainB] using h) ⟨hl, hr⟩
      rw [show l' = l from by apply Array.ext'; exact this]
    | tuple l l' hl hr =>
      have := plains_inv ih l.toList l'.toList (by simpa [plainB] using h) ⟨hl, hr⟩
      rw [show l' = l from by apply Array.ext'; exact this]
def ExtOk (P : Program) (f : FuncId) (g : List Value → Heap → Option (Value × Heap)) : Prop := ∀ args h v h', g args h = some (v, h') → Enters P f ∧ h.next ≤ h'.next ∧
    ∀ ρ w (args' : Array Value), Good ρ h w → Win ρ h h' → VRels ρ args args'.toList → Calls P f args' w (Post ρ h w v h')
/-- a function without arguments, whose result holds no pointer. -/
def memo (v : Value) : List Value → Heap → Option (Value × Heap) := fun a h => match a with
  | [] => some (v, h)
  | _ => none
theorem memo_ok {P : Program} {E : Env} (ok : EnvOk P E) {n : Nat} {f : FuncId} {v : Value} {h1 : Heap} (hr : callV E n f [] h0 = some (v, h1)) (hp : plainB 100 v = true) : ExtOk P f (memo v) := by
  intro args h u h' hm
  unfold memo at hm
  split at hm
  · cases hm
    have ck := call_ok ok n
    refine ⟨ck.enters _ _ _ _ _ hr, Nat.le_refl _, fun ρ w args' g _ hargs => ?_⟩
    have := hargs.nil_inv
    have ha : args' = #[] := by apply Array.ext'; simpa using this
    subst ha
    refine (ck.calls f [] h0 _ _ hr (fun _ => none) w #[] (good0 w) (fun _ _ _ => rfl) .nil).mono ?_
    rintro e w' ⟨ρ', v', rfl, rv, g', s⟩
    have := plain_inv 100 _ _ hp rv
    subst this
    obtain ⟨g2, s2⟩ := step_grow g ⟨s.grow, s.side⟩ (fun r hr => s.rframe r hr (fun _ _ h => (nomatch h)))
    exact ⟨ρ, _, rfl, plain_rel 100 _ hp, g2, s2⟩
  · cases hm
/-- what the interpreter says of one function, as a contract of its own. -/
theorem ext_of {P : Program} {E : Env} (ok : EnvOk P E) {f : FuncId} {g : List Value → Heap → Option (Value × Heap)} (hg : ∀ args h r, g args h = some r → ∃ n, callV E n f args h = some r) : ExtOk P f g := by
  intro args h v h' hm
  obtain ⟨n, hr⟩ := hg _ _ _ hm
  have ck := call_ok ok n
  exact ⟨ck.enters _ _ _ _ _ hr, ck.next _ _ _ _ _ hr, ck.calls _ _ _ _ _ hr⟩
/-- an environment with one more function told beside its text. -/
def Env.tell (E : Env) (k : FuncId) (g : List Value → Heap → Option (Value × Heap)) : Env := { E with ext := fun f => if f = k then some g else E.ext f }
theorem tell_ok {P : Program} {E : Env} (ok : EnvOk P E) {k : FuncId} {g : List Value → Heap → Option (Value × Heap)} (hg : ExtOk P k g) : EnvOk P (E.tell k g) :=
  ⟨ok.ty, ok.meth, ok.fn, fun f x h => by
    have h : (if f = k then some g else E.ext f) = some x := h
    split at h
    · rename_i e; cases h; subst e; exact hg
    · exact ok.ext f x h, ok.mixed, ok.row⟩
end Go.Vi
