/- Vi6: all operations that touch no memory; those that only read. -/
import Derived.Test.YtdbicjhpgofpiaaGreatDoorVi5
namespace Go.Vi
section
variable {P : Program} {E : Env} {ρ : Map}

theorem orel_map {ev ev' : Operand → Value} (he : ∀ x, VRel ρ (ev x) (ev' x)) (o : Option Operand) : ORelV ρ (o.map ev) (o.map ev') := by
  cases o with
  | none => exact trivial
  | some x => exact he x
theorem slice_run (ko : TysOk P E) {t : TypeId} {x x' : Value} {lo hi mx lo' hi' mx' : Option Value} {v : Value} (hx : VRel ρ x x') (rl : ORelV ρ lo lo') (rh : ORelV ρ hi hi') (rm : ORelV ρ mx mx')
    (h : sliceV E t x lo hi mx = some v) : RunsV P ρ (Instr.sliceAt t x' lo' hi' mx') v := by
  unfold sliceV at h
  replace h := bind_some.1 h; obtain ⟨i, hi0, h⟩ := h
  split at h
  · rename_i s hu
    rw [hx.string_inv]
    cases mx with
    | some u => simp at h
    | none =>
      simp only [Option.isSome_none, Bool.false_eq_true, if_false] at h
      replace h := bind_some.1 h; obtain ⟨⟨l, hh, m⟩, hb, h⟩ := h
      cases h
      cases mx' with
      | some u => simp [ORelV] at rm
      | none =>
        obtain ⟨m', _, _, _, _, _, _, _, _, run⟩ := bounds_run (P := P) (isS := false) (Nat.le_refl s.size) rl rh (mx' := none) (by exact trivial) hb
        refine ⟨_, .string _, fun w => ?_⟩
        simp [Instr.sliceAt, Instr.slice, run_und (ko _ _ hi0), hu, run, extract_eq]
  · cases h
theorem conv_run (ko : TysOk P E) {s d : TypeId} {x x' v : Value} (hx : VRel ρ x x') (h : convV E s d x = some v) : RunsV P ρ (convert s d x') v := by
  unfold convV at h
  replace h := bind_some.1 h; obtain ⟨i, hi, h⟩ := h
  replace h := bind_some.1 h; obtain ⟨j, hj, h⟩ := h
  split at h
  · rename_i k n hu hv
    cases h
    rw [hx.int_inv]
    exact ⟨_, .int _ _, fun w => by simp [convert, run_und (ko _ _ hi), run_und (ko _ _ hj), hu, hv, Conv.intToInt]⟩
  · rename_i u hu hv
    cases h
    rw [hx.string_inv]
    exact ⟨_, .string _, fun w => by simp [convert, run_und (ko _ _ hi), run_und (ko _ _ hj), hu, hv]⟩
  · cases h
theorem tuple2 {v v' : Value} {b : Bool} (h : VRel ρ v v') : VRel ρ (.tuple #[v, .bool b]) (.tuple #[v', .bool b]) :=
  VRel.tuple' (VRels.cons h (VRels.cons (.bool b) VRels.nil))
theorem assert_run (ko : TysOk P E) {x x' : Value} {xt asserted : TypeId} {ok : Bool} {v : Value} (hx : VRel ρ x x') (h : assertV E x asserted ok = some v) :
    RunsV P ρ (Instr.typeAssert x' xt asserted ok) v := by
  unfold assertV at h
  replace h := bind_some.1 h; obtain ⟨i, hi, h⟩ := h
  split at h
  · cases h
  · rename_i hni
    cases hx
    cases ok with
    | false => simp at h
    | true =>
      simp only [if_true, Option.map_eq_some_iff] at h
      obtain ⟨z, hz, rfl⟩ := h
      refine ⟨_, tuple2 (zero_rel (ko _ _ hi) hz), fun w => ?_⟩
      unfold Instr.typeAssert
      simp only [Sem.run_bind, run_und (ko _ _ hi), Result.andThen_ok]
      cases hu : i.under <;> first | exact absurd hu (hni _) | simp [run_zero (ko _ _ hi) hz]
  · rename_i t u hni
    obtain ⟨u', rfl, ru⟩ : ∃ u', x' = .iface t u' ∧ VRel ρ u u' := by cases hx; exact ⟨_, rfl, by assumption⟩
    by_cases ht : t = asserted
    · rw [if_pos ht] at h
      cases h
      cases ok with
      | true =>
        refine ⟨_, tuple2 ru, fun w => ?_⟩
        unfold Instr.typeAssert
        simp only [Sem.run_bind, run_und (ko _ _ hi), Result.andThen_ok]
        cases hu : i.under <;> first | exact absurd hu (hni _) | simp [ht]
      | false =>
        refine ⟨_, ru, fun w => ?_⟩
        unfold Instr.typeAssert
        simp only [Sem.run_bind, run_und (ko _ _ hi), Result.andThen_ok]
        cases hu : i.under <;> first | exact absurd hu (hni _) | simp [ht]
    · rw [if_neg ht] at h
      cases ok with
      | false => simp at h
      | true =>
        simp only [if_true, Option.map_eq_some_iff] at h
        obtain ⟨z, hz, rfl⟩ := h
        refine ⟨_, tuple2 (zero_rel (ko _ _ hi) hz), fun w => ?_⟩
        unfold Instr.typeAssert
        simp only [Sem.run_bind, run_und (ko _ _ hi), Result.andThen_ok]
        cases hu : i.under <;> first | exact absurd hu (hni _) | simp [ht, run_zero (ko _ _ hi) hz]
  · cases h
theorem mn_run : ∀ (l l' : List Value) (x x' : Value) (v : Value), VRel ρ x x' → VRels ρ l l' → mnV x l = some v → VRel ρ v v ∧ ∀ w, (l'.foldlM Builtin.min2 x').run P w = .ok v w := by
  intro l
  induction l with
  | nil =>
    intro l' x x' v hx hl h
    cases hl.nil_inv
    cases x <;> simp [mnV] at h
    subst h
    rw [hx.int_inv]
    exact ⟨.int _ _, fun w => rfl⟩
  | cons y l ih =>
    intro l' x x' v hx hl h
    obtain ⟨y', r', rfl, hy, hr⟩ := hl.cons_inv
    cases x <;> cases y <;> simp [mnV] at h
    obtain ⟨rfl, h⟩ := h
    rw [hx.int_inv, hy.int_inv]
    have := ih r' _ _ v (.int _ _) hr h
    exact ⟨this.1, fun w => by simp [List.foldlM_cons, Builtin.min2, this.2]⟩
theorem mx_run : ∀ (l l' : List Value) (x x' : Value) (v : Value), VRel ρ x x' → VRels ρ l l' → mxV x l = some v → VRel ρ v v ∧ ∀ w, (l'.foldlM Builtin.max2 x').run P w = .ok v w := by
  intro l
  induction l with
  | nil =>
    intro l' x x' v hx hl h
    cases hl.nil_inv
    cases x <;> simp [mxV] at h
    subst h
    rw [hx.int_inv]
    exact ⟨.int _ _, fun w => rfl⟩
  | cons y l ih =>
    intro l' x x' v hx hl h
    obtain ⟨y', r', rfl, hy, hr⟩ := hl.cons_inv
    cases x <;> cases y <;> simp [mxV] at h
    obtain ⟨rfl, h⟩ := h
    rw [hx.int_inv, hy.int_inv]
    have := ih r' _ _ v (.int _ _) hr h
    exact ⟨this.1, fun w => by simp [List.foldlM_cons, Builtin.max2, this.2]⟩

theorem args_rel {ev ev' : Operand → Value} (he : ∀ x, VRel ρ (ev x) (ev' x)) (xs : Array Operand) : VRels ρ (xs.map ev).toList (xs.map ev').toList := by
  refine .of_get (by simp) fun j v v' h h' => ?_
  simp only [Array.toList_map, List.getElem?_map, Option.map_eq_some_iff] at h h'
  obtain ⟨q, hq, rfl⟩ := h
  obtain ⟨q', hq', rfl⟩ := h'
  rw [hq] at hq'; cases hq'
  exact he _

/-- an operation's run that gives a value and leaves the world alone. -/
def OpRuns (P : Program) (ρ : Map) (ev' : Operand → Value) (o : Oper) (v : Value) : Prop := ∃ v', VRel ρ v v' ∧ ∀ w, (execOp ev' o).run P w = .ok (.value v') w
theorem OpRuns.of {ev' : Operand → Value} {o : Oper} {v : Value} {s : Sem Value} (h : RunsV P ρ s v) (e : execOp ev' o = (do pure (.value (← s)))) : OpRuns P ρ ev' o v := by
  obtain ⟨v', hv, run⟩ := h
  exact ⟨v', hv, fun w => by rw [e]; simp [run]⟩

theorem pure_sound (ko : TysOk P E) {ev ev' : Operand → Value} (he : ∀ x, VRel ρ (ev x) (ev' x)) {o : Oper} {v : Value} (h : pureV E ev o = some v) : OpRuns P ρ ev' o v := by
  obtain ⟨dst, op, ty, pos, after, guard⟩ := o
  unfold pureV at h
  cases op <;> simp only [reduceCtorEq] at h
  case move x => cases h; exact ⟨_, he x, fun w => rfl⟩
  case assign x => cases h; exact ⟨_, he x, fun w => rfl⟩
  case pick c a b =>
    split at h
    · rename_i t ht
      cases h
      have hc := he c; rw [ht] at hc
      refine ⟨if t then ev' a else ev' b, by cases t <;> exact he _, fun w => ?_⟩
      simp [execOp, hc.bool_inv, asBool]
    · cases h
  case build t ps => exact .of (build_run ko he h) rfl
  case nilCheck x =>
    have hx := he x
    split at h
    · rename_i hv; rw [hv] at hx
      cases h
      obtain ⟨i, hi, hsp, hp⟩ := ptr_inv hx
      exact ⟨_, hx, fun w => by simp [execOp, hp]⟩
    · rename_i hv; rw [hv] at hx
      cases h
      refine ⟨ev' x, hx, fun w => ?_⟩
      cases hx' : ev' x <;> rw [hx'] at hx <;> cases hx
      simp [execOp, hx']
    · rename_i hv; rw [hv] at hx
      cases h
      refine ⟨ev' x, hx, fun w => ?_⟩
      cases hx' : ev' x <;> rw [hx'] at hx <;> cases hx
      simp [execOp, hx']
    · cases h
  case binOp op t x y yt => exact .of (bin_run ko (x := x) (y := y) (he x) (he y) h) rfl
  case unOp op t x => exact .of (un_run (he x) h) rfl
  case convert s d x =>
    split at h
    · cases h
    · exact .of (conv_run ko (he x) h) rfl
  case makeInterface t x =>
    replace h := bind_some.1 h; obtain ⟨i, hi, h⟩ := h
    split at h
    · cases h
    · rename_i hn
      cases h
      refine .of (s := Instr.makeInterface t (ev' x)) ⟨_, .iface t _ _ (he x), fun w => ?_⟩ rfl
      unfold Instr.makeInterface
      simp only [Sem.run_bind, run_und (ko _ _ hi), Result.andThen_ok]
      cases hu : i.under <;> first | (rw [hu] at hn; exact absurd rfl hn) | rfl
  case makeFunc fn first captured =>
    cases fn <;> simp only [reduceCtorEq] at h
    cases h
    have r1 := args_rel he first
    have r2 := args_rel he captured
    exact .of (s := Instr.makeFunc _ (first.map ev') (captured.map ev')) ⟨_, .func _ _ _ _ _ r1.1 r1.2 r2.1 r2.2, fun w => rfl⟩ rfl
  case slice t x lo hi mx => exact .of (slice_run ko (he x) (orel_map he lo) (orel_map he hi) (orel_map he mx) h) rfl
  case fieldAddr s x f => exact .of (fieldAddr_run ko (he x) h) rfl
  case field t x f => exact .of (field_run ko (he x) h) rfl
  case indexAddr t x ix => exact .of (indexAddr_run ko (he x) (he ix) h) rfl
  case index t x ix => exact .of (index_run ko (he x) (he ix) h) rfl
  case typeAssert x xt asserted ok => exact .of (assert_run ko (he x) h) rfl
  case extract t ix =>
    have hx := he t
    split at h
    · rename_i vs hv
      rw [hv] at hx
      obtain ⟨vs', hvs', rv⟩ := hx.tuple_inv
      obtain ⟨v', hv', r⟩ := rv.get (j := ix) (v := v) (by simpa using h)
      refine .of (s := Instr.extract (ev' t) ix) ⟨v', r, fun w => ?_⟩ rfl
      have : vs'[ix]? = some v' := by simpa using hv'
      simp [Instr.extract, hvs', this]
    · cases h
  case call c =>
    obtain ⟨callee, args, ats⟩ := c
    simp only at h
    cases callee with
    | value f => simp at h
    | invoke r m => simp at h
    | builtin b =>
      cases b <;> simp only [reduceCtorEq] at h
      case len =>
        split at h
        · rename_i t x ht hx0
          replace h := bind_some.1 h; obtain ⟨i, hi, h⟩ := h
          have hx := he x
          have ha : ats[0]? = some t := ht
          have hb : (args.map ev')[0]? = some (ev' x) := by simp [hx0]
          refine .of (s := Builtin.len_ ats ty (args.map ev')) ?_ rfl
          split at h
          · rename_i s hu hv
            cases h
            rw [hv] at hx
            exact ⟨_, .int _ _, fun w => by simp [Builtin.len_, ha, hb, run_und (ko _ _ hi), hu, hx.string_inv, goInt]⟩
          · rename_i n _ hu
            cases h
            exact ⟨_, .int _ _, fun w => by simp [Builtin.len_, ha, hb, run_und (ko _ _ hi), hu, goInt]⟩
          · rename_i a n c hu hv
            cases h
            rw [hv] at hx
            refine ⟨_, .int _ _, fun w => ?_⟩
            cases hx' : ev' x <;> rw [hx'] at hx <;> cases hx <;> simp [Builtin.len_, ha, hb, run_und (ko _ _ hi), hu, hx', goInt]
          · rename_i hu hv
            cases h
            rw [hv] at hx
            refine ⟨_, .int _ _, fun w => ?_⟩
            cases hx' : ev' x <;> rw [hx'] at hx <;> cases hx
            simp [Builtin.len_, ha, hb, run_und (ko _ _ hi), hu, hx', goInt]
          · cases h
        · cases h
      case min =>
        split at h
        · rename_i x r hl
          have hr := args_rel he args
          rw [hl] at hr
          obtain ⟨x', r', hl', hx, hr⟩ := hr.cons_inv
          have := mn_run (P := P) r r' x x' v hx hr h
          exact .of (s := Builtin.min_ ats ty (args.map ev')) ⟨v, this.1, fun w => by unfold Builtin.min_; rw [hl']; exact this.2 w⟩ rfl
        · cases h
      case max =>
        split at h
        · rename_i x r hl
          have hr := args_rel he args
          rw [hl] at hr
          obtain ⟨x', r', hl', hx, hr⟩ := hr.cons_inv
          have := mx_run (P := P) r r' x x' v hx hr h
          exact .of (s := Builtin.max_ ats ty (args.map ev')) ⟨v, this.1, fun w => by unfold Builtin.max_; rw [hl']; exact this.2 w⟩ rfl
        · cases h
end
end Go.Vi
