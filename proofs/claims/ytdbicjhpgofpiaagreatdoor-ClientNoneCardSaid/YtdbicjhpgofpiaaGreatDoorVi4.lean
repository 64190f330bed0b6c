/- Vi4: operations that touch no memory, one by one, and all. -/
import Derived.Test.YtdbicjhpgofpiaaGreatDoorVi3
namespace Go.Vi
section
variable {P : Program} {E : Env} {ρ : Map}

theorem bind_some {α β : Type} {o : Option α} {f : α → Option β} {b : β} : (o >>= f) = some b ↔ ∃ a, o = some a ∧ f a = some b := by
  cases o <;> simp

theorem eqGuard_run (ko : TysOk P E) {op : BinOp} {t : TypeId} {x y : Operand} {a b a' b' : Value} (ha : VRel ρ a a') (hb : VRel ρ b b')
    (h : ((isNilIface a && isNilIface b && !(isConstO x || isConstO y)) || (isAggV a && isAggV b && ((E.ty t).map (·.eqg)).getD true)) = false) (w : World) :
    (eqGuard op t x y a' b').run P w = .ok () w := by
  unfold eqGuard
  cases op
  case eql =>
    simp only [Bool.not_true, Bool.false_eq_true, if_false]
    cases ha
    case nilIface =>
      cases hb
      case nilIface =>
        simp only [isNilIface, Bool.and_self, Bool.true_and, isAggV, Bool.false_and, Bool.or_false, Bool.not_eq_false'] at h
        cases x <;> cases y <;> simp_all [isConstO]
      all_goals simp
    case agg =>
      cases hb
      case agg =>
        simp only [isNilIface, isAggV, Bool.and_self, Bool.false_and, Bool.false_or, Bool.true_and] at h
        cases hi : E.ty t with
        | none => rw [hi] at h; simp at h
        | some i =>
          rw [hi] at h
          simp at h
          have := (ko _ _ hi).eqg h
          simp [this]
      all_goals simp
    all_goals simp
  case neq =>
    simp only [Bool.not_true, Bool.false_eq_true, if_false]
    cases ha
    case nilIface =>
      cases hb
      case nilIface =>
        simp only [isNilIface, Bool.and_self, Bool.true_and, isAggV, Bool.false_and, Bool.or_false, Bool.not_eq_false'] at h
        cases x <;> cases y <;> simp_all [isConstO]
      all_goals simp
    case agg =>
      cases hb
      case agg =>
        simp only [isNilIface, isAggV, Bool.and_self, Bool.false_and, Bool.false_or, Bool.true_and] at h
        cases hi : E.ty t with
        | none => rw [hi] at h; simp at h
        | some i =>
          rw [hi] at h
          simp at h
          have := (ko _ _ hi).eqg h
          simp [this]
      all_goals simp
    all_goals simp
  all_goals rfl
theorem eqV_bin (ko : TysOk P E) {op : BinOp} {t : TypeId} {a b a' b' : Value} {v : Value} (ha : VRel ρ a a') (hb : VRel ρ b b')
    (hint : ∀ k n k' m, ¬ (a = .int k n ∧ b = .int k' m)) (hstr : ∀ s u, ¬ (a = .string s ∧ b = .string u))
    (h : (match op with | .eql => (eqV E 10000 t a b).map Value.bool | .neq => (eqV E 10000 t a b).map fun b => Value.bool !b | _ => none) = some v) :
    (∀ w, (binOp op t a' b').run P w = .ok v w) ∧ VRel ρ v v := by
  cases op <;> simp only [reduceCtorEq, Option.map_eq_some_iff] at h
  · obtain ⟨z, hz, rfl⟩ := h
    refine ⟨fun w => ?_, .bool _⟩
    have := eq_run ko 10000 t a b a' b' z ha hb hz w
    cases ha <;> cases hb <;> first | exact absurd ⟨rfl, rfl⟩ (hint _ _ _ _) | exact absurd ⟨rfl, rfl⟩ (hstr _ _) | (simp [binOp, Op.equal, Op.maxDepth, this])
  · obtain ⟨z, hz, rfl⟩ := h
    refine ⟨fun w => ?_, .bool _⟩
    have := eq_run ko 10000 t a b a' b' z ha hb hz w
    cases ha <;> cases hb <;> first | exact absurd ⟨rfl, rfl⟩ (hint _ _ _ _) | exact absurd ⟨rfl, rfl⟩ (hstr _ _) | (simp [binOp, Op.equal, Op.maxDepth, this])
theorem bin_run (ko : TysOk P E) {op : BinOp} {t : TypeId} {x y : Operand} {a b a' b' : Value} {v : Value} (ha : VRel ρ a a') (hb : VRel ρ b b')
    (h : binV E op t (isConstO x || isConstO y) a b = some v) :
    RunsV P ρ (do eqGuard op t x y a' b'; binOp op t a' b') v := by
  refine ⟨v, ?_⟩
  unfold binV at h
  split at h
  · rename_i k n k' m
    rw [ha.int_inv, hb.int_inv]
    have hg : ∀ w, (eqGuard op t x y (.int k n) (.int k' m)).run P w = .ok () w := fun w => by
      cases op <;> rfl
    split at h
    · rename_i he; subst he
      have := arith_run (P := P) (ρ := ρ) (t := t) h
      exact ⟨this.2, fun w => by simp [hg, this.1]⟩
    · split at h
      · have := shift_run (P := P) (ρ := ρ) (t := t) (k' := k') (.inl rfl) h
        exact ⟨this.2, fun w => by simp [hg, this.1]⟩
      · have := shift_run (P := P) (ρ := ρ) (t := t) (k' := k') (.inr rfl) h
        exact ⟨this.2, fun w => by simp [hg, this.1]⟩
      · cases h
  · rename_i s u
    rw [ha.string_inv, hb.string_inv]
    have hg : ∀ w, (eqGuard op t x y (.string s) (.string u)).run P w = .ok () w := fun w => by
      cases op <;> rfl
    have := str_run (P := P) (ρ := ρ) h
    exact ⟨this.2, fun w => by
      have e : binOp op t (.string s) (.string u) = Op.stringOp op s u := by cases op <;> rfl
      simp [hg, e, this.1]⟩
  · rename_i hint hstr
    by_cases hg : ((isNilIface a && isNilIface b && !(isConstO x || isConstO y)) || (isAggV a && isAggV b && ((E.ty t).map (·.eqg)).getD true)) = true
    · rw [if_pos hg] at h; cases h
    · rw [if_neg hg] at h
      have hg := eqGuard_run ko (x := x) (y := y) ha hb (Bool.eq_false_iff.mpr hg) (op := op) (t := t)
      have := eqV_bin ko ha hb (fun k n k' m hh => hint _ _ _ _ hh.1 hh.2) (fun s u hh => hstr _ _ hh.1 hh.2) (op := op) (t := t) (v := v) (by cases op <;> exact h)
      exact ⟨this.2, fun w => by simp [hg, this.1]⟩
theorem un_run {op : UnOp} {x x' v : Value} (hx : VRel ρ x x') (h : unV op x = some v) : RunsV P ρ (Op.unary op x') v := by
  refine ⟨v, ?_⟩
  unfold unV at h
  split at h
  · rw [hx.int_inv]; cases h; exact ⟨.int _ _, fun w => rfl⟩
  · rw [hx.int_inv]; have := bit_run (P := P) (ρ := ρ) h; exact ⟨this.2, fun w => by simpa [Op.unary] using this.1 w⟩
  · rw [hx.bool_inv]; cases h; exact ⟨.bool _, fun w => rfl⟩
  · cases h

/-! ## Bounds -/
def ORelV (ρ : Map) (o o' : Option Value) : Prop := match o, o' with
  | none, none => True
  | some v, some v' => VRel ρ v v'
  | _, _ => False
theorem bound_run {x x' : Value} {y y' n : Nat} {c : BoundsCode} (hx : VRel ρ x x') (hy : y ≤ y') (h : boundV x y = some n) : n ≤ y ∧ ∀ w, (Instr.sliceBound x' y' c).run P w = .ok n w := by
  unfold boundV at h
  obtain ⟨i, hi, h2⟩ := bind_some.1 h
  obtain ⟨k, rfl, rfl⟩ := intOf_inv hx hi
  by_cases hb : 0 ≤ i ∧ i ≤ (y : Int)
  · rw [if_pos hb] at h2
    cases h2
    have : 0 ≤ i ∧ i ≤ (y' : Int) := ⟨hb.1, by omega⟩
    exact ⟨by omega, fun w => by simp [Instr.sliceBound, asIntOf, this]⟩
  · rw [if_neg hb] at h2; cases h2
/-- the bounds on both sides: alike, but for an open end. -/
theorem bounds_run {isS : Bool} {len cap cap' : Nat} {lo hi mx lo' hi' mx' : Option Value} {l h m : Nat} (hc : cap ≤ cap') (rl : ORelV ρ lo lo') (rh : ORelV ρ hi hi') (rm : ORelV ρ mx mx')
    (e : boundsV len cap lo hi mx = some (l, h, m)) :
    ∃ m', l ≤ h ∧ (hi ≠ none → h ≤ m) ∧ (hi = none → h = len) ∧ m ≤ cap ∧ m ≤ m' ∧ m' ≤ cap' ∧ (mx ≠ none → m' = m) ∧ (mx = none → m = cap ∧ m' = cap') ∧ ∀ w, (Instr.sliceBounds isS len cap' lo' hi' mx').run P w = .ok (l, h, m') w := by
  unfold boundsV at e
  simp only [Option.bind_eq_some_iff, Option.some.injEq, Prod.mk.injEq] at e
  obtain ⟨m0, hm, h0, hh, l0, hl, rfl, rfl, rfl⟩ := e
  have hmax : ∃ m', m0 ≤ cap ∧ m0 ≤ m' ∧ m' ≤ cap' ∧ (mx ≠ none → m' = m0) ∧ (mx = none → m0 = cap ∧ m' = cap') ∧
      (match mx' with | some v => ∀ c w, (Instr.sliceBound v cap' c).run P w = .ok m' w | none => m' = cap') := by
    cases mx with
    | none => cases mx' <;> simp [ORelV] at rm; cases hm; exact ⟨cap', Nat.le_refl _, hc, Nat.le_refl _, fun h => absurd rfl h, fun _ => ⟨rfl, rfl⟩, rfl⟩
    | some v =>
      cases mx' with
      | none => simp [ORelV] at rm
      | some v' => exact ⟨m0, (bound_run (P := P) (c := .slice3B) rm hc hm).1, Nat.le_refl _, by have := (bound_run (P := P) (c := .slice3B) rm hc hm).1; omega, fun _ => rfl, fun h => by simp at h, fun c => (bound_run rm hc hm).2⟩
  obtain ⟨m', q1, q2, q3, q4, q5, q6⟩ := hmax
  have hhi : (hi ≠ none → h0 ≤ m0) ∧ (hi = none → h0 = len ∧ mx = none) ∧ (match hi' with | some v => ∀ c w, (Instr.sliceBound v m' c).run P w = .ok h0 w | none => h0 = len) := by
    cases hi with
    | none =>
      cases hi' <;> simp [ORelV] at rh
      cases mx with
      | none => simp [hiB] at hh; exact ⟨fun h => absurd rfl h, fun _ => ⟨hh.symm, rfl⟩, hh.symm⟩
      | some v => simp [hiB] at hh
    | some v =>
      cases hi' with
      | none => simp [ORelV] at rh
      | some v' => exact ⟨fun _ => (bound_run (P := P) (c := .slice3B) rh q2 hh).1, fun h => by simp at h, fun c => (bound_run rh q2 hh).2⟩
  obtain ⟨p1, p2, p3⟩ := hhi
  have hlo : l0 ≤ h0 ∧ (match lo' with | some v => ∀ c w, (Instr.sliceBound v h0 c).run P w = .ok l0 w | none => l0 = 0) := by
    cases lo with
    | none => cases lo' <;> simp [ORelV] at rl; cases hl; exact ⟨Nat.zero_le _, rfl⟩
    | some v =>
      cases lo' with
      | none => simp [ORelV] at rl
      | some v' => exact ⟨(bound_run (P := P) (c := .slice3B) rl (Nat.le_refl h0) hl).1, fun c => (bound_run rl (Nat.le_refl h0) hl).2⟩
  obtain ⟨r1, r2⟩ := hlo
  refine ⟨m', r1, p1, fun h => (p2 h).1, q1, q2, q3, q4, q5, fun w => ?_⟩
  unfold Instr.sliceBounds
  cases mx' with
  | none =>
    simp only at q6; subst q6
    cases hi' with
    | none =>
      simp only at p3; subst p3
      cases lo' with
      | none => simp only at r2; subst r2; simp
      | some v => simp [r2]
    | some u =>
      simp only at p3
      cases lo' with
      | none => simp only at r2; subst r2; simp [p3]
      | some v => simp [r2, p3]
  | some s =>
    simp only at q6
    cases hi' with
    | none =>
      have : hi = none := by cases hi with | none => rfl | some v => simp [ORelV] at rh
      have := (p2 this).2
      rw [this] at rm; simp [ORelV] at rm
    | some u =>
      simp only at p3
      cases lo' with
      | none => simp only at r2; subst r2; simp [p3, q6]
      | some v => simp [r2, p3, q6]
end
end Go.Vi
