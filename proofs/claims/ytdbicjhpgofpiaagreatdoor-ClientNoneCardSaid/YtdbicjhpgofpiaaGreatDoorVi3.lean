/- Vi3: operations that touch no memory, against the model. -/
import Derived.Test.YtdbicjhpgofpiaaGreatDoorVi2
import Derived.Laws.Strings2
namespace Go.Vi

def aggD (d : TypeDesc) : Bool := match d with | .struct _ | .array _ _ => true | _ => false
structure TyOk (P : Program) (t : TypeId) (i : Ty) : Prop where
  under : P.underlying t = some i.under
  agg : i.agg = aggD i.under
  info : ∃ x, P.info? t = some x ∧ x.size = i.size ∧ x.bytes = i.bytes ∧ x.zero = i.zero ∧ x.comparable = i.cmp
  zero : ∀ z, i.zero = some z → plainB 100 z = true
  eqg : i.eqg = false → P.eqGuardType P.depth t = false
  held : i.held = false → P.stoodInHeld t = false
  tag : i.tag = true → liesAt P P.depth t 1 0 t 1 = true
  places : ∀ fs pl, i.under = .struct fs → i.places = some pl → fs.toList.mapM (fun f => (P.info? f.type).map fun i => (f.offset, i.size)) = some pl
def TysOk (P : Program) (E : Env) : Prop := ∀ t i, E.ty t = some i → TyOk P t i

section
variable {P : Program} {E : Env} {t : TypeId} {i : Ty} {w : World}
theorem run_und (k : TyOk P t i) : (underlying t).run P w = .ok i.under w := by
  simp [underlying, k.under]
theorem run_size (k : TyOk P t i) : (sizeOf t).run P w = .ok i.size w := by
  obtain ⟨x, hx, hs, _⟩ := k.info
  simp [sizeOf, typeInfo, hx, hs]
theorem run_agg (k : TyOk P t i) : (isAgg t).run P w = .ok i.agg w := by
  simp only [isAgg, Sem.run_bind, run_und k, Result.andThen_ok, k.agg, aggD]
  cases i.under <;> rfl
theorem run_zero (k : TyOk P t i) {z : Value} (hz : i.zero = some z) : (zeroValue t).run P w = .ok z w := by
  obtain ⟨x, hx, _, _, hz', _⟩ := k.info
  simp [zeroValue, typeInfo, hx, hz', hz]
theorem run_info (k : TyOk P t i) : ∃ x, (∀ w, (typeInfo t).run P w = .ok x w) ∧ x.bytes = i.bytes ∧ x.size = i.size ∧ x.comparable = i.cmp := by
  obtain ⟨x, hx, hs, hb, _, hc⟩ := k.info
  exact ⟨x, fun w => by simp [typeInfo, hx], hb, hs, hc⟩
theorem zero_rel {ρ : Map} (k : TyOk P t i) {z : Value} (hz : i.zero = some z) : VRel ρ z z := plain_rel _ _ (k.zero z hz)
end

/-- what a value of the abstract side comes to on the other: a run that leaves the world alone. -/
def RunsV (P : Program) (ρ : Map) (s : Sem Value) (v : Value) : Prop := ∃ v', VRel ρ v v' ∧ ∀ w, s.run P w = .ok v' w

theorem strL_list (s : ByteArray) : s.toList = strL s := ByteArray.toList_eq s
theorem str_beq (a b : ByteArray) : (a == b) = (strL a == strL b) := by
  cases a; cases b
  rename_i x y
  show (x == y) = (x.toList == y.toList)
  rw [Bool.eq_iff_iff, beq_iff_eq, beq_iff_eq]
  exact ⟨fun h => by rw [h], fun h => Array.ext' h⟩
theorem strOf_strL (s : ByteArray) : strOf (strL s) = s := rfl
theorem strL_size (s : ByteArray) : (strL s).length = s.size := rfl
theorem extract_eq (s : ByteArray) (l h : Nat) : s.extract l h = strOf (((strL s).drop l).take (h - l)) := by
  have := ByteArray.extract_mk (strL s) l h
  exact this
theorem append_eq (a b : ByteArray) : a ++ b = strOf (strL a ++ strL b) := by
  apply ByteArray.ext
  simp [strOf, strL, ByteArray.data_append]

section
variable {P : Program} {E : Env} {ρ : Map}

theorem VRel.int_inv {k : IntKind} {n : Int} {v' : Value} (h : VRel ρ (.int k n) v') : v' = .int k n := by cases h; rfl
theorem VRel.bool_inv {b : Bool} {v' : Value} (h : VRel ρ (.bool b) v') : v' = .bool b := by cases h; rfl
theorem VRel.string_inv {s : ByteArray} {v' : Value} (h : VRel ρ (.string s) v') : v' = .string s := by cases h; rfl
theorem intOf_inv {v v' : Value} {n : Int} (hr : VRel ρ v v') (h : intOf v = some n) : ∃ k, v = .int k n ∧ v' = .int k n := by
  cases v <;> simp [intOf] at h
  subst h; exact ⟨_, rfl, hr.int_inv⟩

theorem cmp_run {op : BinOp} {x y : Int} {v : Value} (h : cmpV op x y = some v) : (∀ w, (Op.intCmp op x y).run P w = .ok v w) ∧ VRel ρ v v := by
  cases op <;> simp [cmpV] at h <;> subst h <;> exact ⟨fun w => rfl, .bool _⟩
theorem bit_run {op : BinOp} {k : IntKind} {x y : Int} {v : Value} (h : bitV op k x y = some v) : (∀ w, (Op.intBits op k x y).run P w = .ok v w) ∧ VRel ρ v v := by
  cases op <;> simp only [bitV, Option.some.injEq, reduceCtorEq] at h <;> subst h <;> exact ⟨fun w => rfl, .int _ _⟩
theorem str_run {op : BinOp} {x y : ByteArray} {v : Value} (h : strV op x y = some v) : (∀ w, (Op.stringOp op x y).run P w = .ok v w) ∧ VRel ρ v v := by
  unfold strV at h
  unfold Op.stringOp
  simp only [strL_list]
  cases op <;> simp only [Option.some.injEq, reduceCtorEq] at h
  case add =>
    split at h
    · cases h
      rename_i hle
      refine ⟨fun w => ?_, .string _⟩
      rw [if_neg (by simp only [IntKind.max, IntKind.signed, IntKind.bits]; simp; omega), append_eq]; rfl
    · cases h
  all_goals (subst h; exact ⟨fun w => rfl, .bool _⟩)
theorem arith_run {op : BinOp} {t : TypeId} {k : IntKind} {x y : Int} {v : Value} (h : arithV op k x y = some v) : (∀ w, (binOp op t (.int k x) (.int k y)).run P w = .ok v w) ∧ VRel ρ v v := by
  cases op <;> simp only [arithV] at h
  case add => cases h; exact ⟨fun w => by simp [binOp, Op.intArith], .int _ _⟩
  case sub => cases h; exact ⟨fun w => by simp [binOp, Op.intArith], .int _ _⟩
  case mul => cases h; exact ⟨fun w => by simp [binOp, Op.intArith], .int _ _⟩
  case quo => split at h; cases h; cases h; rename_i hy; exact ⟨fun w => by simp [binOp, Op.intDiv, hy], .int _ _⟩
  case rem => split at h; cases h; cases h; rename_i hy; exact ⟨fun w => by simp [binOp, Op.intDiv, hy], .int _ _⟩
  case shl => split at h; cases h; cases h; rename_i hy; exact ⟨fun w => by simp [binOp, Op.shift, hy], .int _ _⟩
  case shr => split at h; cases h; cases h; rename_i hy; exact ⟨fun w => by simp [binOp, Op.shift, hy], .int _ _⟩
  case and => have := bit_run (P := P) (ρ := ρ) h; exact ⟨fun w => by simpa [binOp] using this.1 w, this.2⟩
  case or => have := bit_run (P := P) (ρ := ρ) h; exact ⟨fun w => by simpa [binOp] using this.1 w, this.2⟩
  case xor => have := bit_run (P := P) (ρ := ρ) h; exact ⟨fun w => by simpa [binOp] using this.1 w, this.2⟩
  case andNot => have := bit_run (P := P) (ρ := ρ) h; exact ⟨fun w => by simpa [binOp] using this.1 w, this.2⟩
  all_goals (have := cmp_run (P := P) (ρ := ρ) h; exact ⟨fun w => by simpa [binOp] using this.1 w, this.2⟩)
theorem shift_run {op : BinOp} {t : TypeId} {k k' : IntKind} {x y : Int} {v : Value} (hs : op = .shl ∨ op = .shr) (h : arithV op k x y = some v) :
    (∀ w, (binOp op t (.int k x) (.int k' y)).run P w = .ok v w) ∧ VRel ρ v v := by
  rcases hs with rfl | rfl <;> simp only [arithV] at h <;> split at h <;> cases h <;> rename_i hy <;> exact ⟨fun w => by simp [binOp, Op.shift, hy], .int _ _⟩

theorem part_run {t : TypeId} {i : Ty} (k : TyOk P t i) {cs : List Value} {cs' : Array Value} {off : Nat} {v : Value} (hr : VRels ρ cs cs'.toList) (h : partV i cs off = some v) :
    ∃ v', VRel ρ v v' ∧ ∀ w, (part t cs' off).run P w = .ok v' w := by
  unfold partV at h
  unfold part
  by_cases ha : i.agg = true
  · rw [if_pos ha] at h
    split at h
    · cases h
      refine ⟨.agg (cs'.extract off (off + i.size)), ?_, fun w => by simp [run_agg k, run_size k, ha]⟩
      have : (cs'.extract off (off + i.size)) = ⟨(cs'.toList.drop off).take i.size⟩ := by
        apply Array.ext'; simp [Array.toList_extract, List.extract_eq_take_drop]
      rw [this]
      exact VRel.agg' ((hr.drop off).take i.size)
    · cases h
  · rw [if_neg ha] at h
    obtain ⟨v', hv', hrel⟩ := hr.get h
    refine ⟨v', hrel, fun w => ?_⟩
    have ha' : i.agg = false := by simpa using ha
    have : cs'[off]? = some v' := by rw [← Array.getElem?_toList]; exact hv'
    simp [run_agg k, ha', this]

/-! ## Equality -/
theorem fields_run {E : Env} (ko : TysOk P E) {eq : TypeId → Value → Value → Option Bool} {eq' : TypeId → Value → Value → Sem Bool} {xs ys : List Value} {xs' ys' : Array Value}
    (hx : VRels ρ xs xs'.toList) (hy : VRels ρ ys ys'.toList)
    (he : ∀ t x y x' y' b, VRel ρ x x' → VRel ρ y y' → eq t x y = some b → ∀ w, (eq' t x' y').run P w = .ok b w) :
    ∀ (fs : List Field) (b : Bool), eqFields E eq xs ys fs = some b → ∃ r : Option Bool, r.getD true = b ∧ ∀ w,
      (forIn fs ((none, ()) : Option Bool × Unit) fun f _ =>
          if f.name = "_" then pure (ForInStep.yield (none, ())) else do
            let x ← part f.type xs' f.offset
            let y ← part f.type ys' f.offset
            let z ← eq' f.type x y
            if z = false then pure (ForInStep.done (some false, ())) else pure (ForInStep.yield (none, ())) : Sem (Option Bool × Unit)).run P w = .ok (r, ()) w := by
  intro fs
  induction fs with
  | nil => intro b h; simp [eqFields] at h; subst h; exact ⟨none, rfl, fun w => by simp⟩
  | cons f r ih =>
    intro b h
    unfold eqFields at h
    by_cases hn : f.name = "_"
    · rw [if_pos hn] at h
      obtain ⟨q, hq, hrun⟩ := ih b h
      refine ⟨q, hq, fun w => ?_⟩
      simp only [List.forIn_cons, hn, if_true, pure_bind]
      exact hrun w
    · rw [if_neg hn] at h
      simp only [Option.bind_eq_bind, Option.bind_eq_some_iff] at h
      obtain ⟨i, hi, x, hpx, y, hpy, h⟩ := h
      obtain ⟨x', rx, runx⟩ := part_run (ko _ _ hi) hx hpx
      obtain ⟨y', ry, runy⟩ := part_run (ko _ _ hi) hy hpy
      cases hq : eq f.type x y with
      | none => rw [hq] at h; cases h
      | some z =>
        rw [hq] at h
        have hz := he _ _ _ _ _ _ rx ry hq
        cases z with
        | true =>
          obtain ⟨q, hq, hrun⟩ := ih b h
          refine ⟨q, hq, fun w => ?_⟩
          simp only [List.forIn_cons, hn, if_false, bind_assoc, Sem.run_bind, runx, runy, Result.andThen_ok, hz]
          simpa using hrun w
        | false =>
          cases h
          exact ⟨some false, rfl, fun w => by simp [List.forIn_cons, hn, runx, runy, hz]⟩
theorem elems_run {e : TypeId} {i : Ty} (k : TyOk P e i) {eq : Value → Value → Option Bool} {eq' : Value → Value → Sem Bool} {xs ys : List Value} {xs' ys' : Array Value}
    (hx : VRels ρ xs xs'.toList) (hy : VRels ρ ys ys'.toList)
    (he : ∀ x y x' y' b, VRel ρ x x' → VRel ρ y y' → eq x y = some b → ∀ w, (eq' x' y').run P w = .ok b w) :
    ∀ (n s : Nat) (b : Bool), eqElems i eq xs ys n s = some b → ∃ r : Option Bool, r.getD true = b ∧ ∀ w,
      (forIn (List.range' s n) ((none, ()) : Option Bool × Unit) fun j _ => do
            let x ← part e xs' (j * i.size)
            let y ← part e ys' (j * i.size)
            let z ← eq' x y
            if z = false then pure (ForInStep.done (some false, ())) else pure (ForInStep.yield (none, ())) : Sem (Option Bool × Unit)).run P w = .ok (r, ()) w := by
  intro n
  induction n with
  | zero => intro s b h; simp [eqElems] at h; subst h; exact ⟨none, rfl, fun w => by simp⟩
  | succ n ih =>
    intro s b h
    unfold eqElems at h
    simp only [Option.bind_eq_bind, Option.bind_eq_some_iff] at h
    obtain ⟨x, hpx, y, hpy, h⟩ := h
    obtain ⟨x', rx, runx⟩ := part_run k hx hpx
    obtain ⟨y', ry, runy⟩ := part_run k hy hpy
    cases hq : eq x y with
    | none => rw [hq] at h; cases h
    | some z =>
      rw [hq] at h
      have hz := he _ _ _ _ _ rx ry hq
      cases z with
      | true =>
        obtain ⟨q, hq, hrun⟩ := ih (s + 1) b h
        refine ⟨q, hq, fun w => ?_⟩
        simp only [List.range'_succ, List.forIn_cons, bind_assoc, Sem.run_bind, runx, runy, Result.andThen_ok, hz]
        simpa using hrun w
      | false =>
        cases h
        exact ⟨some false, rfl, fun w => by simp [List.range'_succ, List.forIn_cons, runx, runy, hz]⟩

theorem eq_run (ko : TysOk P E) : ∀ (d : Nat) (t : TypeId) (x y x' y' : Value) (b : Bool), VRel ρ x x' → VRel ρ y y' → eqV E d t x y = some b → ∀ w, (Op.equalIn d t x' y').run P w = .ok b w := by
  intro d
  induction d with
  | zero => intro t x y x' y' b _ _ h; simp [eqV] at h
  | succ d ih =>
    intro t x y x' y' b hx hy h w
    unfold eqV at h
    simp only [Option.bind_eq_bind, Option.bind_eq_some_iff] at h
    obtain ⟨i, hi, h⟩ := h
    have k := ko _ _ hi
    unfold Op.equalIn
    simp only [Sem.run_bind, run_und k, Result.andThen_ok]
    split at h
    · rename_i hu; cases hx; cases hy; simp only [hu]; cases h; rfl
    · rename_i hu
      split at h
      · rename_i he; subst he; cases hx; cases hy; simp only [hu]; cases h; simp
      · cases h
    · rename_i hu; cases hx; cases hy; simp only [hu, str_beq]; cases h; rfl
    · rename_i hu; cases hx; simp only [hu]; cases h; cases hy <;> rfl
    · rename_i hu; cases hx; cases hy; simp only [hu]; cases h; rfl
    · rename_i hu; cases hx; cases hy; simp only [hu]; cases h; rfl
    · rename_i hu; cases hx; cases hy; simp only [hu]; cases h; rfl
    · rename_i hu; cases hx; cases hy; simp only [hu]; cases h; rfl
    · rename_i hu; cases hx; simp only [hu]; cases h; cases hy <;> rfl
    · rename_i hu; cases hx; cases hy; simp only [hu]; cases h; rfl
    · rename_i hu; cases hx; simp only [hu]; cases h; cases hy <;> rfl
    · rename_i hu; cases hx; cases hy; simp only [hu]; cases h; rfl
    · rename_i hu; cases hx; cases hy; simp only [hu]; cases h; rfl
    · rename_i hu; cases hx; cases hy <;> (simp only [hu]; cases h; rfl)
    · rename_i hu; cases hx <;> cases hy <;> (simp only [hu]; cases h; rfl)
    · rename_i fs xs ys hu
      split at h
      · cases h
      · rename_i hh
        obtain ⟨xs', rfl, rx⟩ := hx.agg_inv
        obtain ⟨ys', rfl, ry⟩ := hy.agg_inv
        obtain ⟨q, rfl, hz⟩ := fields_run ko rx ry (eq := eqV E d) (eq' := Op.equalIn d) (fun t x y x' y' b hx hy he => ih t x y x' y' b hx hy he) fs.toList b h
        simp only [hu, Sem.run_bind, run_program, Result.andThen_ok, k.held (by simpa using hh), Bool.false_eq_true, if_false]
        rw [← Array.forIn_toList]
        simp [hz, -Array.forIn_toList]
        cases q <;> rfl
    · rename_i n e xs ys hu
      simp only [Option.bind_eq_some_iff] at h
      obtain ⟨j, hj, h⟩ := h
      obtain ⟨xs', rfl, rx⟩ := hx.agg_inv
      obtain ⟨ys', rfl, ry⟩ := hy.agg_inv
      obtain ⟨q, rfl, hz⟩ := elems_run (ko _ _ hj) rx ry (eq := eqV E d e) (eq' := Op.equalIn d e) (fun x y x' y' b hx hy he => ih e x y x' y' b hx hy he) n 0 b h
      simp only [hu, Sem.run_bind, run_size (ko _ _ hj), Result.andThen_ok]
      simp [Std.Legacy.Range.forIn_eq_forIn_range', hz]
      cases q <;> rfl
    · rename_i tx vx ty vy hu
      cases hx; cases hy
      simp only [hu]
      split at h
      · rename_i hne; cases h; simp [hne]
      · rename_i heq
        have heq : tx = ty := by simpa using heq
        subst heq
        simp only [Option.bind_eq_some_iff] at h
        obtain ⟨j, hj, h⟩ := h
        split at h
        · rename_i hc
          rename_i vx' rx vy' ry
          obtain ⟨q, hq, _, _, hcmp⟩ := run_info (ko _ _ hj)
          have := ih tx vx vy vx' vy' b rx ry h w
          simp [hq, hcmp, hc, this]
        · cases h
    · cases h
end
end Go.Vi
