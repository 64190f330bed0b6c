/- Vi6: all operations that touch no memory; those that only read. Vi7: operations that only read memory. Vi8: the heap's laws; steps that make, change and drop a block. Vi9: operations that make a block; rows of cells written. Vi10: operations that write: stores, append, copy, clear. Vi11: copy, clear; maps written. -/
import Derived.Test.YtenhhbammadpbaaGreatDoorVgA
import Derived.Lib.Builder
import Derived.Lib.UnsafeStr
namespace Go.Vi
section
variable {P : Program} {E : Env} {ρ : Map}
theorem orel_map {ev ev' : Operand → Value} (he : ∀ x, VRel ρ (ev x) (ev' x)) (o : Option Operand) : ORelV ρ (o.map ev) (o.map ev') := by
  cases o with
  | none => exact trivial
  | some x => exact he x
theorem slice_run (ko : TysOk P E) {t : TypeId} {x x' : Value} {lo hi mx lo' hi' mx' : Option Value} {v : Value} (hx : VRel ρ x x') (rl : ORelV ρ lo lo') (rh : ORelV ρ hi hi') (rm : ORelV ρ mx mx')
    (h : sliceV E t x lo hi mx = some v) : RunsV P ρ (Instr.sliceAt t x' lo' hi' mx') v := by
  unfold sliceV at h
  replace h := bind_some.1 h; obtain ⟨i, hi0, h⟩ := h
  split at h
  · rename_i s hu
    rw [hx.string_inv]
    cases mx with
    | some u => simp at h
    | none =>
      simp only [Option.isSome_none, Bool.false_eq_true, if_false] at h
      replace h := bind_some.1 h; obtain ⟨⟨l, hh, m⟩, hb, h⟩ := h
      cases h
      cases mx' with
      | some u => simp [ORelV] at rm
      | none =>
        obtain ⟨m', _, _, _, _, _, _, _, _, run⟩ := bounds_run (P := P) (isS := false) (Nat.le_refl s.size) rl rh (mx' := none) (by exact trivial) hb
        refine ⟨_, .string _, fun w => ?_⟩
        simp [Instr.sliceAt, Instr.slice, run_und (ko _ _ hi0), hu, run, extract_eq]
  · cases h
theorem conv_run (ko : TysOk P E) {s d : TypeId} {x x' v : Value} (hx : VRel ρ x x') (h : convV E s d x = some v) : RunsV P ρ (convert s d x') v := by
  unfold convV at h
  replace h := bind_some.1 h; obtain ⟨i, hi, h⟩ := h
  replace h := bind_some.1 h; obtain ⟨j, hj, h⟩ := h
  split at h
  · rename_i k n hu hv
    cases h
    rw [hx.int_inv]
    exact ⟨_, .int _ _, fun w => by simp [convert, run_und (ko _ _ hi), run_und (ko _ _ hj), hu, hv, Conv.intToInt]⟩
  · rename_i u hu hv
    cases h
    rw [hx.string_inv]
    exact ⟨_, .string _, fun w => by simp [convert, run_und (ko _ _ hi), run_und (ko _ _ hj), hu, hv]⟩
  · cases h
theorem tuple2 {v v' : Value} {b : Bool} (h : VRel ρ v v') : VRel ρ (.tuple #[v, .bool b]) (.tuple #[v', .bool b]) :=
  VRel.tuple' (VRels.cons h (VRels.cons (.bool b) VRels.nil))
theorem assert_run (ko : TysOk P E) {x x' : Value} {xt asserted : TypeId} {ok : Bool} {v : Value} (hx : VRel ρ x x') (h : assertV E x asserted ok = some v) :
    RunsV P ρ (Instr.typeAssert x' xt asserted ok) v := by
  unfold assertV at h
  replace h := bind_some.1 h; obtain ⟨i, hi, h⟩ := h
  split at h
  · cases h
  · rename_i hni
    cases hx
    cases ok with
    | false => simp at h
    | true =>
      simp only [if_true, Option.map_eq_some_iff] at h
      obtain ⟨z, hz, rfl⟩ := h
      refine ⟨_, tuple2 (zero_rel (ko _ _ hi) hz), fun w => ?_⟩
      unfold Instr.typeAssert
      simp only [Sem.run_bind, run_und (ko _ _ hi), Result.andThen_ok]
      cases hu : i.under <;> first | exact absurd hu (hni _) | simp [run_zero (ko _ _ hi) hz]
  · rename_i t u hni
    obtain ⟨u', rfl, ru⟩ : ∃ u', x' = .iface t u' ∧ VRel ρ u u' := by cases hx; exact ⟨_, rfl, by assumption⟩
    by_cases ht : t = asserted
    · rw [if_pos ht] at h
      cases h
      cases ok with
      | true =>
        refine ⟨_, tuple2 ru, fun w => ?_⟩
        unfold Instr.typeAssert
        simp only [Sem.run_bind, run_und (ko _ _ hi), Result.andThen_ok]
        cases hu : i.under <;> first | exact absurd hu (hni _) | simp [ht]
      | false =>
        refine ⟨_, ru, fun w => ?_⟩
        unfold Instr.typeAssert
        simp only [Sem.run_bind, run_und (ko _ _ hi), Result.andThen_ok]
        cases hu : i.under <;> first | exact absurd hu (hni _) | simp [ht]
    · rw [if_neg ht] at h
      cases ok with
      | false => simp at h
      | true =>
        simp only [if_true, Option.map_eq_some_iff] at h
        obtain ⟨z, hz, rfl⟩ := h
        refine ⟨_, tuple2 (zero_rel (ko _ _ hi) hz), fun w => ?_⟩
        unfold Instr.typeAssert
        simp only [Sem.run_bind, run_und (ko _ _ hi), Result.andThen_ok]
        cases hu : i.under <;> first | exact absurd hu (hni _) | simp [ht, run_zero (ko _ _ hi) hz]
  · cases h
theorem mn_run : ∀ (l l' : List Value) (x x' : Value) (v : Value), VRel ρ x x' → VRels ρ l l' → mnV x l = some v → VRel ρ v v ∧ ∀ w, (l'.foldlM Builtin.min2 x').run P w = .ok v w := by
  intro l
  induction l with
  | nil =>
    intro l' x x' v hx hl h
    cases hl.nil_inv
    cases x <;> simp [mnV] at h
    subst h
    rw [hx.int_inv]
    exact ⟨.int _ _, fun w => rfl⟩
  | cons y l ih =>
    intro l' x x' v hx hl h
    obtain ⟨y', r', rfl, hy, hr⟩ := hl.cons_inv
    cases x <;> cases y <;> simp [mnV] at h
    obtain ⟨rfl, h⟩ := h
    rw [hx.int_inv, hy.int_inv]
    have := ih r' _ _ v (.int _ _) hr h
    exact ⟨this.1, fun w => by simp [List.foldlM_cons, Builtin.min2, this.2]⟩
theorem mx_run : ∀ (l l' : List Value) (x x' : Value) (v : Value), VRel ρ x x' → VRels ρ l l' → mxV x l = some v → VRel ρ v v ∧ ∀ w, (l'.foldlM Builtin.max2 x').run P w = .ok v w := by
  intro l
  induction l with
  | nil =>
    intro l' x x' v hx hl h
    cases hl.nil_inv
    cases x <;> simp [mxV] at h
    subst h
    rw [hx.int_inv]
    exact ⟨.int _ _, fun w => rfl⟩
  | cons y l ih =>
    intro l' x x' v hx hl h
    obtain ⟨y', r', rfl, hy, hr⟩ := hl.cons_inv
    cases x <;> cases y <;> simp [mxV] at h
    obtain ⟨rfl, h⟩ := h
    rw [hx.int_inv, hy.int_inv]
    have := ih r' _ _ v (.int _ _) hr h
    exact ⟨this.1, fun w => by simp [List.foldlM_cons, Builtin.max2, this.2]⟩
theorem args_rel {ev ev' : Operand → Value} (he : ∀ x, VRel ρ (ev x) (ev' x)) (xs : Array Operand) : VRels ρ (xs.map ev).toList (xs.map ev').toList := by
  refine .of_get (by simp) fun j v v' h h' => ?_
  simp only [Array.toList_map, List.getElem?_map, Option.map_eq_some_iff] at h h'
  obtain ⟨q, hq, rfl⟩ := h
  obtain ⟨q', hq', rfl⟩ := h'
  rw [hq] at hq'; cases hq'
  exact he _
def OpRuns (P : Program) (ρ : Map) (ev' : Operand → Value) (o : Oper) (v : Value) : Prop := ∃ v', VRel ρ v v' ∧ ∀ w, (execOp ev' o).run P w = .ok (.value v') w
theorem OpRuns.of {ev' : Operand → Value} {o : Oper} {v : Value} {s : Sem Value} (h : RunsV P ρ s v) (e : execOp ev' o = (do pure (.value (← s)))) : OpRuns P ρ ev' o v := by
  obtain ⟨v', hv, run⟩ := h
  exact ⟨v', hv, fun w => by rw [e]; simp [run]⟩
theorem pure_sound (ko : TysOk P E) {ev ev' : Operand → Value} (he : ∀ x, VRel ρ (ev x) (ev' x)) {o : Oper} {v : Value} (h : pureV E ev o = some v) : OpRuns P ρ ev' o v := by
  obtain ⟨dst, op, ty, pos, after, guard⟩ := o
  unfold pureV at h
  cases op <;> simp only [reduceCtorEq] at h
  case move x => cases h; exact ⟨_, he x, fun w => rfl⟩
  case assign x => cases h; exact ⟨_, he x, fun w => rfl⟩
  case pick c a b =>
    split at h
    · rename_i t ht
      cases h
      have hc := he c; rw [ht] at hc
      refine ⟨if t then ev' a else ev' b, by cases t <;> exact he _, fun w => ?_⟩
      simp [execOp, hc.bool_inv, asBool]
    · cases h
  case build t ps => exact .of (build_run ko he h) rfl
  case nilCheck x =>
    have hx := he x
    split at h
    · rename_i hv; rw [hv] at hx
      cases h
      obtain ⟨i, hi, hsp, hp⟩ := ptr_inv hx
      exact ⟨_, hx, fun w => by simp [execOp, hp]⟩
    · rename_i hv; rw [hv] at hx
      cases h
      refine ⟨ev' x, hx, fun w => ?_⟩
      cases hx' : ev' x <;> rw [hx'] at hx <;> cases hx
      simp [execOp, hx']
    · rename_i hv; rw [hv] at hx
      cases h
      refine ⟨ev' x, hx, fun w => ?_⟩
      cases hx' : ev' x <;> rw [hx'] at hx <;> cases hx
      simp [execOp, hx']
    · cases h
  case binOp op t x y yt => exact .of (bin_run ko (x := x) (y := y) (he x) (he y) h) rfl
  case unOp op t x => exact .of (un_run (he x) h) rfl
  case convert s d x =>
    split at h
    · cases h
    · exact .of (conv_run ko (he x) h) rfl
  case makeInterface t x =>
    replace h := bind_some.1 h; obtain ⟨i, hi, h⟩ := h
    split at h
    · cases h
    · rename_i hn
      cases h
      refine .of (s := Instr.makeInterface t (ev' x)) ⟨_, .iface t _ _ (he x), fun w => ?_⟩ rfl
      unfold Instr.makeInterface
      simp only [Sem.run_bind, run_und (ko _ _ hi), Result.andThen_ok]
      cases hu : i.under <;> first | (rw [hu] at hn; exact absurd rfl hn) | rfl
  case makeFunc fn first captured =>
    cases fn <;> simp only [reduceCtorEq] at h
    cases h
    have r1 := args_rel he first
    have r2 := args_rel he captured
    exact .of (s := Instr.makeFunc _ (first.map ev') (captured.map ev')) ⟨_, .func _ _ _ _ _ r1.1 r1.2 r2.1 r2.2, fun w => rfl⟩ rfl
  case slice t x lo hi mx => exact .of (slice_run ko (he x) (orel_map he lo) (orel_map he hi) (orel_map he mx) h) rfl
  case fieldAddr s x f => exact .of (fieldAddr_run ko (he x) h) rfl
  case field t x f => exact .of (field_run ko (he x) h) rfl
  case indexAddr t x ix => exact .of (indexAddr_run ko (he x) (he ix) h) rfl
  case index t x ix => exact .of (index_run ko (he x) (he ix) h) rfl
  case typeAssert x xt asserted ok => exact .of (assert_run ko (he x) h) rfl
  case extract t ix =>
    have hx := he t
    split at h
    · rename_i vs hv
      rw [hv] at hx
      obtain ⟨vs', hvs', rv⟩ := hx.tuple_inv
      obtain ⟨v', hv', r⟩ := rv.get (j := ix) (v := v) (by simpa using h)
      refine .of (s := Instr.extract (ev' t) ix) ⟨v', r, fun w => ?_⟩ rfl
      have : vs'[ix]? = some v' := by simpa using hv'
      simp [Instr.extract, hvs', this]
    · cases h
  case call c =>
    obtain ⟨callee, args, ats⟩ := c
    simp only at h
    cases callee with
    | value f => simp at h
    | invoke r m => simp at h
    | builtin b =>
      cases b <;> simp only [reduceCtorEq] at h
      case len =>
        split at h
        · rename_i t x ht hx0
          replace h := bind_some.1 h; obtain ⟨i, hi, h⟩ := h
          have hx := he x
          have ha : ats[0]? = some t := ht
          have hb : (args.map ev')[0]? = some (ev' x) := by simp [hx0]
          refine .of (s := Builtin.len_ ats ty (args.map ev')) ?_ rfl
          split at h
          · rename_i s hu hv
            cases h
            rw [hv] at hx
            exact ⟨_, .int _ _, fun w => by simp [Builtin.len_, ha, hb, run_und (ko _ _ hi), hu, hx.string_inv, goInt]⟩
          · rename_i n _ hu
            cases h
            exact ⟨_, .int _ _, fun w => by simp [Builtin.len_, ha, hb, run_und (ko _ _ hi), hu, goInt]⟩
          · rename_i a n c hu hv
            cases h
            rw [hv] at hx
            refine ⟨_, .int _ _, fun w => ?_⟩
            cases hx' : ev' x <;> rw [hx'] at hx <;> cases hx <;> simp [Builtin.len_, ha, hb, run_und (ko _ _ hi), hu, hx', goInt]
          · rename_i hu hv
            cases h
            rw [hv] at hx
            refine ⟨_, .int _ _, fun w => ?_⟩
            cases hx' : ev' x <;> rw [hx'] at hx <;> cases hx
            simp [Builtin.len_, ha, hb, run_und (ko _ _ hi), hu, hx', goInt]
          · cases h
        · cases h
      case min =>
        split at h
        · rename_i x r hl
          have hr := args_rel he args
          rw [hl] at hr
          obtain ⟨x', r', hl', hx, hr⟩ := hr.cons_inv
          have := mn_run (P := P) r r' x x' v hx hr h
          exact .of (s := Builtin.min_ ats ty (args.map ev')) ⟨v, this.1, fun w => by unfold Builtin.min_; rw [hl']; exact this.2 w⟩ rfl
        · cases h
      case max =>
        split at h
        · rename_i x r hl
          have hr := args_rel he args
          rw [hl] at hr
          obtain ⟨x', r', hl', hx, hr⟩ := hr.cons_inv
          have := mx_run (P := P) r r' x x' v hx hr h
          exact .of (s := Builtin.max_ ats ty (args.map ev')) ⟨v, this.1, fun w => by unfold Builtin.max_; rw [hl']; exact this.2 w⟩ rfl
        · cases h
end
end Go.Vi
namespace Go.Vi
variable {K : Known}
section
variable {P : Program} {E : Env} {ρ : Map}
theorem add_cell (b o j : Nat) : (Addr.add ⟨b, o, none⟩ j) = ⟨b, o + j, none⟩ := by
  unfold Addr.add; split
  · rename_i h; subst h; rfl
  · rfl
theorem cell_eq {w : World} {b o : Nat} {c : Array Value} {e : TypeId} {fr : Nat × Nat} (h : w.heap[b]? = some (.cells c e fr)) : w.cell? ⟨b, o, none⟩ = c[o]? := by
  simp [World.cell?, h]
theorem rd_real {h : Heap} {w : World} (g : Good K ρ h w) {a : Addr} {n : Nat} {l : List Value} {i : Info} (hi : ρ a.block = some i) (hr : rdN h a n = some l) (o' : Nat) (ho : o' = i.base + a.off) :
    ∃ l', VRels ρ l l' ∧ l.length = n ∧ ∀ (j : Nat) (v' : Value), l'[j]? = some v' → w.cell? (Addr.add ⟨i.blk, o', none⟩ j) = some v' := by
  unfold rdN at hr
  split at hr
  · rename_i cs wr opn hsp hget
    split at hr
    · rename_i hle
      cases hr
      obtain ⟨_, c, e, fr, hc, hsz, hb, rel, _⟩ := g.rel _ _ _ hi hget
      refine ⟨(((c.toList.drop i.base).take cs.length).drop a.off).take n, (rel.drop _).take _, by simp; omega, fun j v' hj => ?_⟩
      rw [add_cell, cell_eq hc]
      rw [List.getElem?_take] at hj
      split at hj
      · rw [List.getElem?_drop, List.getElem?_take] at hj
        split at hj
        · rw [List.getElem?_drop] at hj
          rw [← Array.getElem?_toList, ← hj]; congr 1; omega
        · cases hj
      · cases hj
    · cases hr
  · cases hr
theorem load_run (ko : TysOk P E) {h : Heap} {w : World} (g : Good K ρ h w) {t : TypeId} {p p' v : Value} (hp : VRel ρ p p') (hl : loadV E t p h = some v) :
    ∃ v', VRel ρ v v' ∧ (Instr.loadAt t p').run P w = .ok v' w := by
  unfold loadV at hl
  replace hl := bind_some.1 hl; obtain ⟨i, hi, hl⟩ := hl
  replace hl := bind_some.1 hl; obtain ⟨a, ha, hl⟩ := hl
  replace hl := bind_some.1 hl; obtain ⟨l, hrd, hl⟩ := hl
  obtain ⟨rfl, hspot⟩ : p = .pointer (some a) ∧ a.spot = none := by
    unfold ptrOf at ha
    split at ha
    · split at ha
      · cases ha; rename_i hs; exact ⟨rfl, by simpa using hs⟩
      · cases ha
    · cases ha
  obtain ⟨j, hj, _, rfl⟩ := ptr_inv hp
  obtain ⟨l', rl, hlen, hcell⟩ := rd_real g hj hrd _ rfl
  by_cases hag : i.agg = true
  · rw [if_pos hag] at hl
    cases hl
    refine ⟨.agg l'.toArray, VRel.agg' rl, ?_⟩
    have := run_loadCells_list (P := P) (w := w) ⟨j.blk, j.base + a.off, none⟩ l' hcell
    have hl' : l'.length = i.size := by rw [← rl.1, hlen]
    rw [hl'] at this
    simp [Instr.loadAt, Instr.sureAddr, loadVar, run_agg (ko _ _ hi), hag, run_size (ko _ _ hi), this]
  · rw [if_neg hag] at hl
    split at hl
    · rename_i h1
      unfold ofCells at hl
      simp only [Bool.false_eq_true, if_false] at hl
      split at hl
      · cases hl
        obtain ⟨v', r', rfl, rv, _⟩ := rl.cons_inv
        refine ⟨v', rv, ?_⟩
        have hc := hcell 0 v' rfl
        rw [add_cell] at hc
        simp at hc
        simp only [Bool.not_eq_true] at hag
        simp [Instr.loadAt, Instr.sureAddr, loadVar, run_agg (ko _ _ hi), hag, hc]
      · cases hl
    · cases hl
theorem unbytes_eq (f : Value → ByteArray → Sem (ForInStep ByteArray)) (hf : ∀ n s w, (f (.int .u8 n) s).run P w = .ok (ForInStep.yield (s.push (UInt8.ofNat n.toNat))) w) :
    ∀ (l : List Value) (b : List UInt8), unbytes l = some b → ∀ (acc : ByteArray) (w : World), (forIn l acc f : Sem ByteArray).run P w = .ok ⟨acc.data ++ b.toArray⟩ w := by
  intro l
  induction l with
  | nil => intro b h acc w; simp [unbytes] at h; subst h; simp
  | cons v l ih =>
    intro b h acc w
    unfold unbytes at h
    cases v <;> simp only [unbyte, reduceCtorEq] at h
    rename_i k n
    cases k <;> simp only [reduceCtorEq] at h
    cases hr : unbytes l with
    | none => rw [hr] at h; cases h
    | some r =>
      rw [hr] at h; cases h
      have := ih r hr (acc.push (UInt8.ofNat n.toNat)) w
      simp only [List.forIn_cons, Sem.run_bind, hf, Result.andThen_ok]
      rw [this]
      congr 2
      simp [ByteArray.push]
theorem same_bytes : ∀ (l l' : List Value) (b : List UInt8), VRels ρ l l' → unbytes l = some b → l' = l := by
  intro l
  induction l with
  | nil => intro l' b hr _; exact hr.nil_inv
  | cons v l ih =>
    intro l' b hr h
    obtain ⟨v', r', rfl, hv, hr2⟩ := hr.cons_inv
    unfold unbytes at h
    cases v <;> simp only [unbyte, reduceCtorEq] at h
    rename_i k n
    rw [hv.int_inv]
    cases k <;> simp only [reduceCtorEq] at h
    cases hq : unbytes l with
    | none => rw [hq] at h; cases h
    | some r => rw [ih r' r hr2 hq]
theorem bytes_run (ko : TysOk P E) {h : Heap} {w : World} (g : Good K ρ h w) {s d : TypeId} {i j e : Ty} {et : TypeId} (hi : E.ty s = some i) (hj : E.ty d = some j) (he : E.ty et = some e)
    (hu : i.under = .slice et) (hv : j.under = .string) (hw : e.under = .int .u8) {a : Addr} {len cap : Nat} {x' : Value} {l : List Value} {b : List UInt8}
    (hx : VRel ρ (.slice (some a) len cap) x') (hl : rdE h a len = some l) (hb : unbytes l = some b) : (convert s d x').run P w = .ok (.string (strOf b)) w := by
  cases hx with
  | sliceE a' =>
    have hl : some ([] : List Value) = some l := hl
    cases hl
    have hb : some ([] : List UInt8) = some b := hb
    cases hb
    unfold convert
    simp only [Sem.run_bind, run_und (ko _ _ hi), run_und (ko _ _ hj), Result.andThen_ok, hu, hv, run_und (ko _ _ he), hw]
    unfold Conv.bytesToString
    simp [loadCells, loadCellsFrom]
    rfl
  | slice b0 o _ _ q o' cap' hq hlc ho hc hn hr =>
    have hl : rdN h ⟨b0, o, none⟩ len = some l := hl
    have ho' : o' = q.base + o ∨ len = 0 := by rcases ho with ho | ho; exact .inl ho; exact .inr ho.1
    have key : ∃ l', l' = l ∧ ∀ (j : Nat) (v' : Value), l'[j]? = some v' → w.cell? (Addr.add ⟨q.blk, o', none⟩ j) = some v' := by
      rcases ho' with ho' | h0
      · obtain ⟨l', rl, _, hcell⟩ := rd_real g (a := ⟨b0, o, none⟩) hq hl o' ho'
        exact ⟨l', same_bytes l l' b rl hb, hcell⟩
      · subst h0
        have : l = [] := by
          unfold rdN at hl
          split at hl
          · split at hl
            · cases hl; simp
            · cases hl
          · cases hl
        subst this
        exact ⟨[], rfl, fun j v' hj => by simp at hj⟩
    obtain ⟨l', rfl, hcell⟩ := key
    have hlen : l'.length = len := by
      unfold rdN at hl
      split at hl
      · split at hl
        · rename_i hle; cases hl; simp only [List.length_take, List.length_drop] at hle ⊢; omega
        · cases hl
      · cases hl
    have hrun := run_loadCells_list (P := P) (w := w) ⟨q.blk, o', none⟩ l' hcell
    rw [hlen] at hrun
    unfold convert
    simp only [Sem.run_bind, run_und (ko _ _ hi), run_und (ko _ _ hj), Result.andThen_ok, hu, hv, run_und (ko _ _ he), hw]
    unfold Conv.bytesToString
    simp only [Sem.run_bind, hrun, Result.andThen_ok, List.forIn_toArray]
    rw [unbytes_eq (P := P) _ ?_ l' b hb ByteArray.empty w]
    · simp; rfl
    · intro n s w; rfl
theorem find_run : ∀ (es : List MapEntry) (es' : List MapEntry) (k : Value) (d : TypeDesc) (j : Nat) (r : Option (Nat × Value)), MRel ρ es es' → plainKey d k = true → findV k es j = some r →
    ∃ r', Instr.findNow d k es' j = some r' ∧ (match r, r' with | none, none => True | some (a, v), some (b, v') => a = b ∧ VRel ρ v v' | _, _ => False) := by
  intro es
  induction es with
  | nil =>
    intro es' k d j r hm hk h
    have : es' = [] := by have := hm.1; cases es' <;> simp_all
    subst this
    simp [findV] at h; subst h
    exact ⟨none, rfl, trivial⟩
  | cons e es ih =>
    intro es' k d j r hm hk h
    cases es' with
    | nil => have := hm.1; simp at this
    | cons e' es' =>
      have h0 := hm.2 0 e e' rfl rfl
      have hm' : MRel ρ es es' := ⟨by simpa using hm.1, fun j a b ha hb => hm.2 (j + 1) a b (by simpa using ha) (by simpa using hb)⟩
      have hkey : ∀ z, keyEq k e.key = some z → Instr.sameNow d k e'.key = some z := by
        intro z hz
        have hr := h0.key
        unfold keyEq at hz
        split at hz
        · rename_i k1 a k2 b hk2
          rw [hk2] at hr
          rw [hr.int_inv]
          split at hz
          · rename_i hkk
            cases hz
            cases d <;> simp [plainKey] at hk
            simp [Instr.sameNow, hkk]
          · cases hz
        · rename_i a b hk2
          rw [hk2] at hr
          rw [hr.string_inv]
          cases hz
          cases d <;> simp [plainKey] at hk
          simp [Instr.sameNow, str_beq]
        · cases hz
      simp only [findV] at h
      split at h
      · rename_i hz
        cases h
        exact ⟨some (j, e'.val), by simp only [Instr.findNow, hkey _ hz], rfl, h0.val⟩
      · rename_i hz
        obtain ⟨r', hr', hrel⟩ := ih es' k d (j + 1) r hm' hk h
        exact ⟨r', by simp only [Instr.findNow, hkey _ hz]; exact hr', hrel⟩
      · cases h
theorem check_run {b : Bool} {t : TypeId} {i : Ty} (k : TyOk P t i) {v : Value} (hk : plainKey i.under v = true) (w : World) : (Instr.checkKey b 10000 t v).run P w = .ok () w := by
  unfold Instr.checkKey
  simp only [Sem.run_bind, run_und k, Result.andThen_ok]
  cases hu : i.under <;> rw [hu] at hk <;> cases v <;> simp [plainKey] at hk <;> rfl
theorem key_self {d : TypeDesc} {v v' : Value} (hk : plainKey d v = true) (h : VRel ρ v v') : v' = v := by
  cases d <;> cases v <;> simp [plainKey] at hk
  · exact h.int_inv
  · exact h.string_inv
theorem mapOf_run {h : Heap} {w : World} (g : Good K ρ h w) {x x' : Value} {es : List MapEntry} {c : Nat} (hx : VRel ρ x x') (hm : mapOf h x = some (es, c)) :
    ∃ b i, ∃ es' : Array MapEntry, x = .map (some b) ∧ ρ b = some i ∧ h.get b = some (.map es c) ∧ x' = .map (some i.blk) ∧ w.heap[i.blk]? = some (.map es' c) ∧ MRel ρ es es'.toList := by
  unfold mapOf at hm
  split at hm
  · split at hm
    · rename_i r es0 c0 hget
      cases hm
      cases hx with
      | map b i hb =>
        obtain ⟨es', he, hr⟩ := g.rel _ _ _ hb hget
        exact ⟨_, i, es', rfl, hb, hget, rfl, he, hr⟩
    · cases hm
  · cases hm
theorem allOf_inv {h : Heap} {x : Value} {es : List MapEntry} (hm : allOf h x = some es) : (∃ c, mapOf h x = some (es, c)) ∨ ∃ b, x = .map (some b) ∧ h.get b = some (.umap es) := by
  unfold allOf at hm
  split at hm
  · rename_i es0 c hm0
    cases hm
    exact .inl ⟨c, hm0⟩
  · unfold umapOf at hm
    split at hm
    · split at hm
      · rename_i hg
        cases hm
        exact .inr ⟨_, rfl, hg⟩
      · cases hm
    · cases hm
theorem allOf_run {h : Heap} {w : World} (g : Good K ρ h w) {x x' : Value} {es : List MapEntry} (hx : VRel ρ x x') (hm : allOf h x = some es) :
    ∃ b i, ∃ (es2 : List MapEntry) (c : Nat) (es' : Array MapEntry), x = .map (some b) ∧ ρ b = some i ∧ x' = .map (some i.blk) ∧ w.heap[i.blk]? = some (.map es' c) ∧ MRel ρ es2 es'.toList ∧ es.length = es2.length ∧
      ∀ k r, findV k es 0 = some r → ∃ r2, findV k es2 0 = some r2 ∧ (match r, r2 with | none, none => True | some (_, v), some (_, v') => v = v' | _, _ => False) := by
  rcases allOf_inv hm with ⟨c, hm⟩ | ⟨b, rfl, hget⟩
  · obtain ⟨b, i, es', h1, h2, h3, h4, h5, h6⟩ := mapOf_run g hx hm
    exact ⟨b, i, es, c, es', h1, h2, h4, h5, h6, rfl, fun k r hr => ⟨r, hr, by cases r <;> simp⟩⟩
  · cases hx with
    | map b i hb =>
      obtain ⟨es2, c, u, es', h1, h2⟩ := g.rel _ _ _ hb hget
      refine ⟨b, i, es2, c, es', rfl, hb, rfl, h1, h2, u.len, fun k r hr => ?_⟩
      rcases u.find hr with ⟨rfl, h3, _⟩ | ⟨j, v, j2, e, e2, rfl, _, _, _, _, h3⟩
      · exact ⟨none, h3, trivial⟩
      · exact ⟨some (j2, v), h3, rfl⟩
theorem run_getObj_map {w : World} {r c : Nat} {es : Array MapEntry} (h : w.heap[r]? = some (.map es c)) : (getObj r).run P w = .ok (.map es c) w := by
  simp [getObj, Sem.run, h]
theorem slice_addr {b o len cap l h m m' size : Nat} {i : Info} {o' cap' : Nat} (hq : ρ b = some i) (ho : o' = i.base + o ∨ (len = 0 ∧ cap = 0 ∧ i.opn ≠ none ∧ i.base ≤ o'))
    (hr : ∀ z, i.opn = some z → o' + cap' * z.1 ≤ i.tot) (hz : ∀ z, i.opn = some z → z.1 = size)
    (hlh : l ≤ h) (hhm : h ≤ m) (hm : m ≤ cap) (hmm : m ≤ m') (hm' : m' ≤ cap') (hcl : i.opn = none → m' = m) :
    VRel ρ (.slice (some (if m = l then ⟨b, o, none⟩ else Addr.add ⟨b, o, none⟩ (l * size))) (h - l) (m - l))
      (.slice (some (if m' = l then ⟨i.blk, o', none⟩ else Addr.add ⟨i.blk, o', none⟩ (l * size))) (h - l) (m' - l)) := by
  have e1 : (if m = l then (⟨b, o, none⟩ : Addr) else Addr.add ⟨b, o, none⟩ (l * size)) = ⟨b, if m = l then o else o + l * size, none⟩ := by
    split
    · rfl
    · rw [add_cell]
  have e2 : (if m' = l then (⟨i.blk, o', none⟩ : Addr) else Addr.add ⟨i.blk, o', none⟩ (l * size)) = ⟨i.blk, if m' = l then o' else o' + l * size, none⟩ := by
    split
    · rfl
    · rw [add_cell]
  rw [e1, e2]
  refine .slice b _ _ _ i _ _ hq (by omega) ?_ (by omega) (fun h => by rw [hcl h]) (fun z hz' => ?_)
  · by_cases hml : m = l
    · cases ho' : i.opn with
      | none =>
        have := hcl ho'
        left
        rcases ho with ho | ho
        · simp [hml, this, ho]
        · exact absurd ho' ho.2.2.1
      | some z =>
        right
        refine ⟨by omega, by omega, by simp, ?_⟩
        split <;> (rcases ho with ho | ho <;> omega)
    · rcases ho with ho | ho
      · left
        rw [if_neg hml, if_neg (by omega)]; omega
      · omega
  · have hz2 := hz z hz'
    have hr2 := hr z hz'
    subst hz2
    split
    · rename_i h; subst h
      have : (m' - m') * z.1 = 0 := by simp
      omega
    · have e : l * z.1 + (m' - l) * z.1 = m' * z.1 := by rw [← Nat.add_mul]; congr 1; omega
      have := Nat.mul_le_mul_right z.1 hm'
      omega
theorem bounds_of {isS : Bool} {len cap cap' : Nat} {lo hi mx lo' hi' mx' : Option Value} {l h m : Nat} (hlc : len ≤ cap) (hc : cap ≤ cap') (rl : ORelV ρ lo lo') (rh : ORelV ρ hi hi') (rm : ORelV ρ mx mx')
    (e : boundsV len cap lo hi mx = some (l, h, m)) :
    ∃ m', l ≤ h ∧ h ≤ m ∧ m ≤ cap ∧ m ≤ m' ∧ m' ≤ cap' ∧ (cap' = cap → m' = m) ∧ ∀ w, (Instr.sliceBounds isS len cap' lo' hi' mx').run P w = .ok (l, h, m') w := by
  obtain ⟨m', h1, h2, h3, h4, h5, h6, h7, h8, run⟩ := bounds_run (P := P) (isS := isS) hc rl rh rm e
  refine ⟨m', h1, ?_, h4, h5, h6, ?_, run⟩
  · cases hhi : hi with
    | some v => exact h2 (by rw [hhi]; simp)
    | none =>
      have e1 := h3 hhi
      cases hmx : mx with
      | none => have := (h8 hmx).1; omega
      | some v =>
        subst hhi; subst hmx
        unfold boundsV hiB at e
        simp at e
  · intro hcc
    cases hmx : mx with
    | none => have := h8 hmx; omega
    | some v => exact h7 (by rw [hmx]; simp)
theorem okSize_info {h : Heap} {w : World} (g : Good K ρ h w) {b size : Nat} {i : Info} (hi : ρ b = some i) (hk : okSize h b size = true) : ∀ z, i.opn = some z → z.1 = size := by
  intro z hz
  unfold okSize at hk
  cases hg : h.get b with
  | none => rw [hg] at hk; simp at hk
  | some o =>
    rw [hg] at hk
    have hr := g.rel _ _ _ hi hg
    cases o with
    | map es c => simp at hk
    | loop r => simp at hk
    | sit s p => simp at hk
    | mit m a b c => simp at hk
    | chan c b => simp at hk
    | umap es => simp at hk
    | cells cs wr opn =>
      have := hr.1
      rw [hz] at this
      subst this
      simpa using hk
theorem closed_info {h : Heap} {w : World} (g : Good K ρ h w) {b : Nat} {i : Info} (hi : ρ b = some i) (hk : closed h b = true) : i.opn = none := by
  unfold closed at hk
  cases hg : h.get b with
  | none => rw [hg] at hk; simp at hk
  | some o =>
    rw [hg] at hk
    have hr := g.rel _ _ _ hi hg
    cases o with
    | map es c => simp at hk
    | loop r => simp at hk
    | sit s p => simp at hk
    | mit m a b c => simp at hk
    | chan c b => simp at hk
    | umap es => simp at hk
    | cells cs wr opn =>
      have := hr.1
      cases opn with
      | none => exact this.symm
      | some z => simp at hk
theorem sliceS_run (ko : TysOk P E) {h : Heap} {w : World} (g : Good K ρ h w) {t : TypeId} {x x' : Value} {lo hi mx lo' hi' mx' : Option Value} {v : Value} (hx : VRel ρ x x') (rl : ORelV ρ lo lo') (rh : ORelV ρ hi hi') (rm : ORelV ρ mx mx')
    (hs : sliceS E t x lo hi mx h = some v) : ∃ v', VRel ρ v v' ∧ (Instr.sliceAt t x' lo' hi' mx').run P w = .ok v' w := by
  unfold sliceS at hs
  replace hs := bind_some.1 hs; obtain ⟨i, hi0, hs⟩ := hs
  split at hs
  · rename_i elem a len cap hu
    replace hs := bind_some.1 hs; obtain ⟨e, he, hs⟩ := hs
    replace hs := bind_some.1 hs; obtain ⟨⟨l, hh, m⟩, hb, hs⟩ := hs
    simp only at hs
    split at hs
    · cases hs
    · rename_i hsz
      cases a with
      | none =>
        simp only at hs
        split at hs
        · rename_i hml
          cases hs
          cases hx
          obtain ⟨m', h1, h2, h3, h4, h5, h6, run⟩ := bounds_of (P := P) (isS := true) (Nat.le_refl 0) (Nat.le_refl 0) rl rh rm hb
          have : l = 0 ∧ hh = 0 ∧ m = 0 ∧ m' = 0 := by omega
          obtain ⟨rfl, rfl, rfl, rfl⟩ := this
          exact ⟨_, .slice0, by simp [Instr.sliceAt, Instr.slice, run_und (ko _ _ hi0), hu, run, run_size (ko _ _ he)]⟩
        · cases hs
      | some a =>
        simp only at hs
        split at hs
        · rename_i hok
          cases hs
          cases hx with
          | sliceE a' =>
            obtain ⟨m', h1, h2, h3, h4, h5, h6, run⟩ := bounds_of (P := P) (isS := true) (Nat.le_refl 0) (Nat.le_refl 0) rl rh rm hb
            have : l = 0 ∧ hh = 0 ∧ m = 0 ∧ m' = 0 := by omega
            obtain ⟨rfl, rfl, rfl, rfl⟩ := this
            exact ⟨_, .sliceE a', by simp [Instr.sliceAt, Instr.slice, run_und (ko _ _ hi0), hu, run, run_size (ko _ _ he)]⟩
          | slice b o _ _ q o' cap' hq hlc ho hc hn hr =>
            obtain ⟨m', h1, h2, h3, h4, h5, h6, run⟩ := bounds_of (P := P) (isS := true) hlc hc rl rh rm hb
            refine ⟨_, slice_addr (size := e.size) hq ho hr (okSize_info g hq hok) h1 h2 h3 h4 h5 (fun hcl => h6 (hn hcl)), ?_⟩
            simp only [Instr.sliceAt, Instr.slice, Sem.run_bind, run_und (ko _ _ hi0), hu, run, run_size (ko _ _ he), Result.andThen_ok, Sem.run_pure]
            congr 2
            split <;> rfl
        · cases hs
  · rename_i n elem a hu
    replace hs := bind_some.1 hs; obtain ⟨e, he, hs⟩ := hs
    replace hs := bind_some.1 hs; obtain ⟨⟨l, hh, m⟩, hb, hs⟩ := hs
    simp only at hs
    split at hs
    · rename_i hok
      cases hs
      obtain ⟨q, hq, hsp, rfl⟩ := ptr_inv hx
      obtain ⟨b, o, sp⟩ := a
      simp only at hsp hq; subst hsp
      have hcl := closed_info g hq hok.2
      obtain ⟨m', h1, h2, h3, h4, h5, h6, run⟩ := bounds_of (P := P) (isS := false) (Nat.le_refl n) (Nat.le_refl n) rl rh rm hb
      have hm := h6 rfl
      subst hm
      refine ⟨_, slice_addr (len := n) (size := e.size) (cap' := n) hq (.inl rfl) (fun z hz => by rw [hcl] at hz; cases hz) (fun z hz => by rw [hcl] at hz; cases hz) h1 h2 h3 h4 h5 (fun _ => rfl), ?_⟩
      simp only [Instr.sliceAt, Instr.sureAddr, Sem.run_bind, run_und (ko _ _ hi0), hu, run, run_size (ko _ _ he), Result.andThen_ok, Sem.run_pure]
    · cases hs
  · rename_i arr a hu
    replace hs := bind_some.1 hs; obtain ⟨j, hj, hs⟩ := hs
    split at hs
    · rename_i n elem hv
      replace hs := bind_some.1 hs; obtain ⟨e, he, hs⟩ := hs
      replace hs := bind_some.1 hs; obtain ⟨⟨l, hh, m⟩, hb, hs⟩ := hs
      simp only at hs
      split at hs
      · rename_i hok
        cases hs
        obtain ⟨q, hq, hsp, rfl⟩ := ptr_inv hx
        obtain ⟨b, o, sp⟩ := a
        simp only at hsp hq; subst hsp
        have hcl := closed_info g hq hok.2
        obtain ⟨m', h1, h2, h3, h4, h5, h6, run⟩ := bounds_of (P := P) (isS := false) (Nat.le_refl n) (Nat.le_refl n) rl rh rm hb
        have hm := h6 rfl
        subst hm
        refine ⟨_, slice_addr (len := n) (size := e.size) (cap' := n) hq (.inl rfl) (fun z hz => by rw [hcl] at hz; cases hz) (fun z hz => by rw [hcl] at hz; cases hz) h1 h2 h3 h4 h5 (fun _ => rfl), ?_⟩
        simp only [Instr.sliceAt, Instr.slice, asAddr, Sem.run_bind, run_und (ko _ _ hi0), hu, run_und (ko _ _ hj), hv, run, run_size (ko _ _ he), Result.andThen_ok, Sem.run_pure]
      · cases hs
    · cases hs
  · cases hs
theorem lookup_run (ko : TysOk P E) {h : Heap} {w : World} (g : Good K ρ h w) {t : TypeId} {x x' ix ix' : Value} {ok : Bool} {v : Value} (hx : VRel ρ x x') (hix : VRel ρ ix ix')
    (hl : lookupV E t x ix ok h = some v) : ∃ v', VRel ρ v v' ∧ (Instr.lookup t x' ix' ok).run P w = .ok v' w := by
  unfold lookupV at hl
  replace hl := bind_some.1 hl; obtain ⟨i, hi, hl⟩ := hl
  split at hl
  · rename_i key elem hu
    replace hl := bind_some.1 hl; obtain ⟨k, hk, hl⟩ := hl
    replace hl := bind_some.1 hl; obtain ⟨e, he, hl⟩ := hl
    split at hl
    · cases hl
    · rename_i hpk
      have hpk : plainKey k.under ix = true := by simpa using hpk
      replace hl := bind_some.1 hl; obtain ⟨es, hes, hl⟩ := hl
      have hixe : ix' = ix := key_self hpk hix
      subst hixe
      have hent : ∃ (es2 : List MapEntry) (es' : Array MapEntry), MRel ρ es2 es'.toList ∧ (∀ k r, findV k es 0 = some r → ∃ r2, findV k es2 0 = some r2 ∧ (match r, r2 with | none, none => True | some (_, v), some (_, v') => v = v' | _, _ => False)) ∧ ((x' = .map none ∧ es' = #[]) ∨ ∃ r c, x' = .map (some r) ∧ w.heap[r]? = some (.map es' c)) := by
        unfold entriesOf at hes
        split at hes
        · cases hes; cases hx
          exact ⟨[], #[], ⟨rfl, fun j a b ha => by simp at ha⟩, (fun k r hr => ⟨r, hr, by cases r <;> simp⟩), .inl ⟨rfl, rfl⟩⟩
        · obtain ⟨b, q, es2, c, es', rfl, hb, rfl, hw, hr, _, hfs⟩ := allOf_run g hx hes
          exact ⟨es2, es', hr, hfs, .inr ⟨_, c, rfl, hw⟩⟩
      obtain ⟨es2, es', hr, hfs, hrun⟩ := hent
      have main : ∀ r, findV ix' es 0 = some r → ∃ r', Instr.findNow k.under ix' es'.toList 0 = some r' ∧ (match r, r' with | none, none => True | some (a, v), some (b, v') => VRel ρ v v' | _, _ => False) := fun r hf => by
        obtain ⟨r2, hf2, hm2⟩ := hfs _ _ hf
        obtain ⟨r', h1, h2⟩ := find_run _ _ _ _ _ _ hr hpk hf2
        refine ⟨r', h1, ?_⟩
        cases r with
        | none =>
          cases r2 with
          | none =>
            cases r' with
            | none => trivial
            | some p' => exact h2.elim
          | some p => exact hm2.elim
        | some p =>
          cases r2 with
          | none => exact hm2.elim
          | some p2 =>
            cases r' with
            | none => exact h2.elim
            | some p' =>
              have e : p.2 = p2.2 := hm2
              have h2 : p2.1 = p'.1 ∧ VRel ρ p2.2 p'.2 := h2
              show VRel ρ p.2 p'.2
              rw [e]
              exact h2.2
      split at hl
      · rename_i j u hf
        cases hl
        obtain ⟨r', hr', hrel⟩ := main _ hf
        cases r' with
        | none => exact hrel.elim
        | some p =>
          obtain ⟨j', u'⟩ := p
          have hu' : VRel ρ u u' := hrel
          refine ⟨if ok then .tuple #[u', .bool true] else u', by cases ok; exact hu'; exact tuple2 hu', ?_⟩
          unfold Instr.lookup
          rcases hrun with ⟨rfl, rfl⟩ | ⟨r, c, rfl, hw⟩
          · simp [Instr.findNow] at hr'
          · simp [run_und (ko _ _ hi), hu, run_getObj_map hw, check_run (ko _ _ hk) hpk, Instr.findKey, run_und (ko _ _ hk), hr']
      · rename_i hf
        obtain ⟨z, hz, rfl⟩ := Option.map_eq_some_iff.1 hl
        obtain ⟨r', hr', hrel⟩ := main _ hf
        cases r' with
        | some p => exact hrel.elim
        | none =>
          have hzr := zero_rel (ρ := ρ) (ko _ _ he) hz
          refine ⟨if ok then .tuple #[z, .bool false] else z, by cases ok; exact hzr; exact tuple2 hzr, ?_⟩
          unfold Instr.lookup
          rcases hrun with ⟨rfl, rfl⟩ | ⟨r, c, rfl, hw⟩
          · simp [run_und (ko _ _ hi), hu, check_run (ko _ _ hk) hpk, Instr.findKey, run_und (ko _ _ hk), Instr.findNow, run_zero (ko _ _ he) hz]
          · simp [run_und (ko _ _ hi), hu, run_getObj_map hw, check_run (ko _ _ hk) hpk, Instr.findKey, run_und (ko _ _ hk), hr', run_zero (ko _ _ he) hz]
      · cases hl
  · cases hl
theorem seen_run (ko : TysOk P E) {h : Heap} {w : World} (g : Good K ρ h w) {e : TypeId} {x x' v : Value} (hx : VRel ρ x x') (hv : seenV E e x h = some v) :
    v = x ∧ ∃ (a : Addr) (cells : Nat) (j : TypeInfo), x' = .pointer (some a) ∧ P.info? e = some j ∧ j.size ≠ 0 ∧ w.shape? a.block = some (e, cells) ∧ a.off < cells ∧ liesAt P P.depth e (cells / P.cellsOf e) a.off e 1 = true := by
  unfold seenV at hv
  split at hv
  · rename_i b
    replace hv := bind_some.1 hv; obtain ⟨i, hi, hv⟩ := hv
    split at hv
    · rename_i htag
      split at hv
      · rename_i cs wr z hget
        split at hv
        · rename_i hz
          obtain ⟨rfl, hl, h0⟩ := hz
          cases hv
          refine ⟨rfl, ?_⟩
          obtain ⟨q, hq, _, rfl⟩ := ptr_inv hx
          have hq : ρ b = some q := hq
          obtain ⟨h1, c, el, fr, hc, hsz, hb, rel, hfz, hty⟩ := g.rel _ _ _ hq hget
          obtain ⟨hel, h3⟩ := hty _ rfl
          have hel : e = el := hel.symm
          subst hel
          obtain ⟨hbase, htot⟩ := h3 rfl
          have kt := ko _ _ hi
          obtain ⟨j, hj, hjs, _⟩ := kt.info
          have hcell : P.cellsOf e = i.size := by unfold Program.cellsOf; rw [hj]; simpa using hjs
          have hc1 : c.size = i.size := by omega
          have hpos : 0 < i.size := Nat.pos_of_ne_zero h0
          refine ⟨_, c.size, j, rfl, hj, by rw [hjs]; exact h0, by unfold World.shape?; rw [hc], by show q.base + 0 < c.size; omega, ?_⟩
          show liesAt P P.depth e (c.size / P.cellsOf e) (q.base + 0) e 1 = true
          rw [hcell, hc1, Nat.div_self hpos, hbase]
          exact kt.tag htag
        · cases hv
      · cases hv
    · cases hv
  · cases hv
def OpReads (P : Program) (ρ : Map) (ev' : Operand → Value) (o : Oper) (v : Value) (w : World) : Prop := ∃ v', VRel ρ v v' ∧ (execOp ev' o).run P w = .ok (.value v') w
theorem OpReads.of {ev' : Operand → Value} {o : Oper} {v : Value} {w : World} {s : Sem Value} (h : ∃ v', VRel ρ v v' ∧ s.run P w = .ok v' w) (e : execOp ev' o = (do pure (.value (← s)))) : OpReads P ρ ev' o v w := by
  obtain ⟨v', hv, run⟩ := h
  exact ⟨v', hv, by rw [e]; simp [run]⟩
theorem read_sound (ko : TysOk P E) {h : Heap} {w : World} (g : Good K ρ h w) {ev ev' : Operand → Value} (he : ∀ x, VRel ρ (ev x) (ev' x)) {o : Oper} {v : Value} (hr : readV E ev h o = some v) : OpReads P ρ ev' o v w := by
  obtain ⟨dst, op, ty, pos, after, guard⟩ := o
  unfold readV at hr
  cases op <;> simp only [reduceCtorEq] at hr
  case load t a => exact .of (load_run ko g (he a) hr) rfl
  case slice t x lo hi mx => exact .of (sliceS_run ko g (he x) (orel_map he lo) (orel_map he hi) (orel_map he mx) hr) rfl
  case lookup t x ix ok => exact .of (lookup_run ko g (he x) (he ix) hr) rfl
  case convert s d x =>
    split at hr
    · cases hr
    replace hr := bind_some.1 hr; obtain ⟨i, hi, hr⟩ := hr
    replace hr := bind_some.1 hr; obtain ⟨j, hj, hr⟩ := hr
    split at hr
    · rename_i et hu hv
      replace hr := bind_some.1 hr; obtain ⟨e, he', hr⟩ := hr
      split at hr
      · rename_i hw
        have hx := he x
        split at hr
        · rename_i hxv
          cases hr
          rw [hxv] at hx
          refine .of (s := convert s d (ev' x)) ⟨_, .string _, ?_⟩ rfl
          cases hx' : ev' x <;> rw [hx'] at hx <;> cases hx
          simp [convert, run_und (ko _ _ hi), run_und (ko _ _ hj), hu, hv, run_und (ko _ _ he'), hw, Conv.bytesToString]
        · rename_i a len cap hxv
          rw [hxv] at hx
          replace hr := bind_some.1 hr; obtain ⟨l, hl, hr⟩ := hr
          replace hr := bind_some.1 hr; obtain ⟨b, hb, hr⟩ := hr
          cases hr
          exact .of (s := convert s d (ev' x)) ⟨_, .string _, bytes_run ko g hi hj he' hu hv hw hx hl hb⟩ rfl
        · cases hr
      · cases hr
    · rename_i e hu hv
      obtain ⟨rfl, a, cells, jj, hx', hj', hs', hsh, hoff, _⟩ := seen_run ko g (he x) hr
      have hx := he x
      rw [hx'] at hx
      exact .of (s := convert s d (ev' x)) ⟨_, hx, by rw [hx']; exact Lib.run_to_unsafe w a (by rw [(ko _ _ hi).under, hu]) (by rw [(ko _ _ hj).under, hv]) hj' hs' hsh hoff⟩ rfl
    · rename_i e hu hv
      obtain ⟨rfl, a, cells, jj, hx', hj', hs', hsh, _, hlies⟩ := seen_run ko g (he x) hr
      have hx := he x
      rw [hx'] at hx
      exact .of (s := convert s d (ev' x)) ⟨_, hx, by rw [hx']; exact Lib.run_from_unsafe w a (by rw [(ko _ _ hi).under, hu]) (by rw [(ko _ _ hj).under, hv]) hj' hsh hlies⟩ rfl
    · cases hr
  case call c =>
    obtain ⟨callee, args, ats⟩ := c
    simp only at hr
    cases callee with
    | value f => simp at hr
    | invoke r m => simp at hr
    | builtin b =>
      cases b <;> simp only [reduceCtorEq] at hr
      case len =>
        split at hr
        · rename_i t x ht hx0
          replace hr := bind_some.1 hr; obtain ⟨i, hi, hr⟩ := hr
          have hx := he x
          have ha : ats[0]? = some t := ht
          have hb : (args.map ev')[0]? = some (ev' x) := by simp [hx0]
          split at hr
          · rename_i k e hu
            replace hr := bind_some.1 hr; obtain ⟨es, hm, hr⟩ := hr
            cases hr
            obtain ⟨b, q, es2, c, es', _, hb', hx', hw, hrel, hle, _⟩ := allOf_run g hx hm
            refine .of (s := Builtin.len_ ats ty (args.map ev')) ⟨_, .int _ _, ?_⟩ rfl
            have : es.length = es'.size := by rw [hle, hrel.1]; simp
            simp [Builtin.len_, ha, hb, run_und (ko _ _ hi), hu, hx', run_getObj_map hw, goInt, this]
          · rename_i k e hu
            unfold chanLen at hr
            split at hr
            · rename_i r0 hxv
              rw [hxv] at hx
              split at hr
              · rename_i cp buf hget
                cases hr
                generalize hy : ev' x = y at hx hb
                cases hx with
                | chan _ q hq =>
                  obtain ⟨buf', sn, rc, hw, hrel⟩ := g.rel _ _ _ hq hget
                  refine .of (s := Builtin.len_ ats ty (args.map ev')) ⟨_, .int _ _, ?_⟩ rfl
                  have hsz : buf'.size = buf.length := by rw [hrel.1]; simp
                  have hgo : (getObj q.blk).run P w = .ok (.chan cp buf' false sn rc false) w := by simp only [getObj, Sem.run, hw]
                  simp [Builtin.len_, ha, run_und (ko _ _ hi), hu, hx0, hy, hgo, goInt, hsz]
              · cases hr
            · cases hr
          · cases hr
        · cases hr
      case cap =>
        split at hr
        · rename_i t x ht hx0
          replace hr := bind_some.1 hr; obtain ⟨i, hi, hr⟩ := hr
          have hx := he x
          have ha : ats[0]? = some t := ht
          have hb : (args.map ev')[0]? = some (ev' x) := by simp [hx0]
          split at hr
          · rename_i e n c hu hv
            cases hr
            rw [hv] at hx
            refine .of (s := Builtin.cap_ ats ty (args.map ev')) ⟨_, .int _ _, ?_⟩ rfl
            cases hx' : ev' x <;> rw [hx'] at hx <;> cases hx
            simp [Builtin.cap_, ha, hb, run_und (ko _ _ hi), hu, hx', goInt]
          · rename_i e a n c hu hv
            rw [hv] at hx
            split at hr
            · rename_i cs wr hget
              cases hr
              refine .of (s := Builtin.cap_ ats ty (args.map ev')) ⟨_, .int _ _, ?_⟩ rfl
              generalize hy : ev' x = y at hx hb
              cases hx with
              | sliceE a' => simp [Builtin.cap_, ha, run_und (ko _ _ hi), hu, goInt, hx0, hy]
              | slice b o _ _ q o' cap' hq hlc ho hc hn hroom =>
                have := hn (closed_info g hq (by unfold closed; rw [hget]))
                subst this
                simp [Builtin.cap_, ha, run_und (ko _ _ hi), hu, goInt, hx0, hy]
            · cases hr
          · cases hr
        · cases hr
end
end Go.Vi
namespace Go.Vi
variable {K : Known}
def valB : List Bool → Nat
  | [] => 0
  | b :: p => (if b then 1 else 0) + 2 * valB p
theorem valB_bitsAt : ∀ (f n : Nat), n ≤ f → valB (bitsAt f n) = n := by
  intro f
  induction f with
  | zero => intro n h; have : n = 0 := by omega
            subst this; rfl
  | succ f ih =>
    intro n h
    unfold bitsAt
    by_cases hn : n = 0
    · rw [if_pos hn, hn]; rfl
    · rw [if_neg hn]
      simp only [valB]
      rw [ih (n / 2) (by omega)]
      by_cases h2 : n % 2 = 1
      · simp [h2]; omega
      · simp [h2]; omega
theorem bits_inj {n m : Nat} (h : bits n = bits m) : n = m := by
  rw [← valB_bitsAt n n (Nat.le_refl _), ← valB_bitsAt m m (Nat.le_refl _)]
  unfold bits at h; rw [h]
theorem Trie.get_leaf {α : Type} (p : List Bool) : (Trie.leaf : Trie α).get p = none := by cases p <;> rfl
theorem Trie.get_put {α : Type} (x : Option α) : ∀ (p : List Bool) (t : Trie α) (q : List Bool), (Trie.put x p t).get q = if q = p then x else t.get q := by
  intro p
  induction p with
  | nil =>
    intro t q
    cases t with
    | leaf => cases q with
      | nil => rfl
      | cons b q => cases b <;> simp [Trie.put, Trie.get]
    | node l v r => cases q with
      | nil => rfl
      | cons b q => cases b <;> simp [Trie.put, Trie.get]
  | cons b p ih =>
    intro t q
    cases t with
    | leaf =>
      cases b
      · cases q with
        | nil => simp [Trie.put, Trie.get]
        | cons c q => cases c
                      · simp [Trie.put, Trie.get, ih]
                      · simp [Trie.put, Trie.get]
      · cases q with
        | nil => simp [Trie.put, Trie.get]
        | cons c q => cases c
                      · simp [Trie.put, Trie.get]
                      · simp [Trie.put, Trie.get, ih]
    | node l v r =>
      cases b
      · cases q with
        | nil => simp [Trie.put, Trie.get]
        | cons c q => cases c <;> simp [Trie.put, Trie.get, ih]
      · cases q with
        | nil => simp [Trie.put, Trie.get]
        | cons c q => cases c <;> simp [Trie.put, Trie.get, ih]
theorem bits_eq {n m : Nat} : (bits n = bits m) = (n = m) := propext ⟨bits_inj, fun h => by rw [h]⟩
theorem get_set (h : Heap) (b : Nat) (o : Blk) (c : Nat) : (h.set b o).get c = if c = b then some o else h.get c := by
  simp only [Heap.get, Heap.set, Trie.get_put, bits_eq]
theorem get_kill (h : Heap) (b : Nat) (c : Nat) : (h.kill b).get c = if c = b then none else h.get c := by
  simp only [Heap.get, Heap.kill, Trie.get_put, bits_eq]
theorem get_new (h : Heap) (o : Blk) (c : Nat) : (h.new o).get c = if c = h.next then some o else h.get c := by
  simp only [Heap.get, Heap.new, Trie.get_put, bits_eq]
section
variable {ρ : Map}
theorem MRel.ext {ρ ρ' : Map} (e : Ext ρ ρ') {l l' : List MapEntry} (h : MRel ρ l l') : MRel ρ' l l' :=
  ⟨h.1, fun j a b ha hb => let m := h.2 j a b ha hb; ⟨m.key.ext e, m.val.ext e, m.born⟩⟩
theorem ORel.move {ρ ρ' : Map} (e : Ext ρ ρ') {o : Blk} {i : Info} {w w' : World} (hw : w'.heap[i.blk]? = w.heap[i.blk]?) (h : ORel ρ o i w) : ORel ρ' o i w' := by
  cases o with
  | cells cs wr opn =>
    obtain ⟨h1, c, el, fr, h2, h3, h4, h5, h6⟩ := h
    exact ⟨h1, c, el, fr, by rw [hw]; exact h2, h3, h4, h5.ext e, h6⟩
  | map es c =>
    obtain ⟨es', h1, h2⟩ := h
    exact ⟨es', by rw [hw]; exact h1, h2.ext e⟩
  | umap es =>
    obtain ⟨es2, c, u, es', h1, h2⟩ := h
    exact ⟨es2, c, u, es', by rw [hw]; exact h1, h2.ext e⟩
  | loop r =>
    obtain ⟨h0, c1, c2, c3, c4, c5, c6, L, h1, e1, e2, e3, e4, e5, h2⟩ := h
    exact ⟨h0, c1, c2, c3, c4, c5, c6, L, by rw [hw]; exact h1, e1, e2, e3, e4, e5, h2.ext e⟩
  | sit s pos => exact ⟨h.1, by rw [hw]; exact h.2⟩
  | mit m since seen last =>
    obtain ⟨h0, m', h1, h2⟩ := h
    refine ⟨h0, m', by rw [hw]; exact h1, ?_⟩
    cases m with
    | none => exact h2
    | some b => obtain ⟨j, hj, e2⟩ := h2; exact ⟨j, e _ _ hj, e2⟩
  | chan cap buf =>
    obtain ⟨buf', s, r, h1, h2⟩ := h
    exact ⟨buf', s, r, by rw [hw]; exact h1, h2.ext e⟩
def upd (ρ : Map) (n : Nat) (i : Info) : Map := fun b => if b = n then some i else ρ b
theorem upd_ext {n : Nat} (i : Info) (h : ρ n = none) : Ext ρ (upd ρ n i) := by
  intro b j hb
  unfold upd
  rw [if_neg (fun e => by rw [e, h] at hb; cases hb)]
  exact hb
theorem upd_self {n : Nat} {i : Info} : upd ρ n i n = some i := by simp [upd]
structure Gets (K : Known) (ρ : Map) (h : Heap) (w : World) (h' : Heap) (v v' : Value) (w' : World) : Prop where
  out : ∃ ρ', VRel ρ' v v' ∧ Good K ρ' h' w' ∧ Stp ρ h w ρ' h' w'
theorem step_new0 {h : Heap} {w w' : World} {o : Blk} {i : Info} (g : Good0 ρ h w) (hn : ρ h.next = none) (hb : i.blk = w.heap.size) (hsz2 : w'.heap.size = w.heap.size + 1 ∧ w'.os = w.os ∧ w'.output = w.output)
    (hold : ∀ r, r < w.heap.size → w'.heap[r]? = w.heap[r]?) (ho : ORel (upd ρ h.next i) o i w') (hro : i.ro = false) :
    Good0 (upd ρ h.next i) (h.new o) w' ∧ Stp ρ h w (upd ρ h.next i) (h.new o) w' := by
  obtain ⟨hsz, hside⟩ := hsz2
  have e := upd_ext (ρ := ρ) i hn
  refine ⟨⟨?_, ?_, ?_, ?_, ?_⟩, ⟨e, ?_, ?_, ?_, ?_, ?_, ?_, ?_, ?_, hside⟩⟩
  · intro b j p hj hp
    rw [get_new] at hp
    unfold upd at hj
    split at hp
    · rename_i hbn; rw [if_pos hbn] at hj; cases hj; cases hp; exact ho
    · rename_i hbn; rw [if_neg hbn] at hj
      exact ORel.move e (hold _ (g.ltL hj (by rw [hp]; simp))) (g.rel _ _ _ hj hp)
  · intro b c j k hj hk pb pc hz he
    unfold upd at hj hk
    rw [get_new] at pb pc
    by_cases h1 : b = h.next
    · rw [if_pos h1] at hj; cases hj
      by_cases h2 : c = h.next
      · omega
      · rw [if_neg h2] at hk pc; have := g.ltL hk pc; omega
    · rw [if_neg h1] at hj pb
      by_cases h2 : c = h.next
      · rw [if_pos h2] at hk; cases hk; have := g.ltL hj pb; omega
      · rw [if_neg h2] at hk pc; exact g.inj _ _ _ _ hj hk pb pc hz he
  · intro b j hj hz
    unfold upd at hj
    split at hj
    · cases hj; omega
    · have := g.lt _ _ hj hz; omega
  · intro b hb'
    have hb'' : h.next + 1 ≤ b := hb'
    rw [get_new, if_neg (by omega)]; exact g.fresh b (by omega)
  · intro b j p hj hp hr
    rw [get_new] at hp
    unfold upd at hj
    split at hp
    · rename_i hbn; rw [if_pos hbn] at hj; cases hj; rw [hro] at hr; cases hr
    · rename_i hbn; rw [if_neg hbn] at hj
      exact g.ro _ _ _ hj hp hr
  · intro b hb' hb''
    unfold upd at hb''
    split at hb''
    · rename_i hx; exact ⟨by omega, by show b < h.next + 1; omega⟩
    · exact absurd hb' hb''
  · intro b h1 h2
    have h2' : b < h.next + 1 := h2
    have : b = h.next := by omega
    rw [this]; exact hn
  · show h.next ≤ h.next + 1; omega
  · intro b hb' _; rw [get_new, if_neg (by omega)]
  · intro b hb' hx; rw [get_new, if_neg (by omega)]; exact hx
  · omega
  · intro r hr _; exact hold r hr
  · intro b j hb' hj
    unfold upd at hj
    split at hj
    · cases hj; exact ⟨hro, .inl (by omega)⟩
    · rw [hb'] at hj; cases hj
theorem step_new {h : Heap} {w w' : World} {o : Blk} {i : Info} (g : Good K ρ h w) (hn : ρ h.next = none) (hb : i.blk = w.heap.size) (hsz2 : w'.heap.size = w.heap.size + 1 ∧ w'.os = w.os ∧ w'.output = w.output)
    (hold : ∀ r, r < w.heap.size → w'.heap[r]? = w.heap[r]?) (ho : ORel (upd ρ h.next i) o i w') (hro : i.ro = false := by rfl) :
    Good K (upd ρ h.next i) (h.new o) w' ∧ Stp ρ h w (upd ρ h.next i) (h.new o) w' := Good0.with g.known (step_new0 g.toGood0 hn hb hsz2 hold ho hro)
theorem step_set0 {h : Heap} {w w' : World} {o : Blk} {b : Nat} {i : Info} (g : Good0 ρ h w) (hi : ρ b = some i) (hp : h.get b ≠ none) (hsz2 : w'.heap.size = w.heap.size ∧ w'.os = w.os ∧ w'.output = w.output)
    (hold : ∀ r, r ≠ i.blk → w'.heap[r]? = w.heap[r]?) (ho : ORel ρ o i w') (hro : i.ro = false) :
    Good0 ρ (h.set b o) w' ∧ Stp ρ h w ρ (h.set b o) w' := by
  have hlt : b < h.next := Nat.lt_of_not_le fun hx => hp (g.fresh b hx)
  obtain ⟨hsz, hside⟩ := hsz2
  refine ⟨⟨?_, ?_, ?_, ?_, ?_⟩, ⟨.refl _, fun _ a b => absurd a b, fun c h1 h2 => ?_, Nat.le_refl _, ?_, ?_, by omega, ?_, fun _ _ a b => (by rw [a] at b; cases b), hside⟩⟩
  · intro c j p hj hp'
    rw [get_set] at hp'
    split at hp'
    · rename_i hc; subst hc; rw [hi] at hj; cases hj; cases hp'; exact ho
    · rename_i hc
      have hne : j.blk ≠ i.blk := fun he => hc (g.inj _ _ _ _ hi hj hp (by rw [hp']; simp) hro he.symm).symm
      exact ORel.move (.refl _) (hold _ hne) (g.rel _ _ _ hj hp')
  · intro c d j k hj hk pc pd hz he
    rw [get_set] at pc pd
    refine g.inj _ _ _ _ hj hk ?_ ?_ hz he
    · split at pc
      · rename_i hx; rw [hx]; exact hp
      · exact pc
    · split at pd
      · rename_i hx; rw [hx]; exact hp
      · exact pd
  · intro c j hj hz; have := g.lt _ _ hj hz; omega
  · intro c hc
    have hc' : h.next ≤ c := hc
    rw [get_set, if_neg (by omega)]; exact g.fresh c hc'
  · intro c j p hj hp' hr
    rw [get_set] at hp'
    split at hp'
    · rename_i hc; subst hc; rw [hi] at hj; cases hj; rw [hro] at hr; cases hr
    · exact g.ro _ _ _ hj hp' hr
  · have h2' : c < h.next := h2
    omega
  · intro c hc hn; rw [get_set, if_neg (fun e => by rw [e, hi] at hn; cases hn)]
  · intro c hc hx; rw [get_set, if_neg (fun e => hp (by rw [← e]; exact hx))]; exact hx
  · intro r hr hq; exact hold r (fun e => hq b i hi hp hro e.symm)
theorem step_set {h : Heap} {w w' : World} {o : Blk} {b : Nat} {i : Info} (g : Good K ρ h w) (hi : ρ b = some i) (hp : h.get b ≠ none) (hsz2 : w'.heap.size = w.heap.size ∧ w'.os = w.os ∧ w'.output = w.output)
    (hold : ∀ r, r ≠ i.blk → w'.heap[r]? = w.heap[r]?) (ho : ORel ρ o i w') (hro : i.ro = false) :
    Good K ρ (h.set b o) w' ∧ Stp ρ h w ρ (h.set b o) w' := Good0.with g.known (step_set0 g.toGood0 hi hp hsz2 hold ho hro)
theorem step_grow0 {h : Heap} {w w' : World} (g : Good0 ρ h w) (hsz : w.heap.size ≤ w'.heap.size ∧ w'.os = w.os ∧ w'.output = w.output) (hold : ∀ r, r < w.heap.size → w'.heap[r]? = w.heap[r]?) :
    Good0 ρ h w' ∧ Stp ρ h w ρ h w' :=
  ⟨⟨fun b i o hb ho => ORel.move (.refl _) (hold _ (g.ltL hb (by rw [ho]; simp))) (g.rel b i o hb ho), g.inj, fun b i hb hz => Nat.lt_of_lt_of_le (g.lt b i hb hz) hsz.1, g.fresh, g.ro⟩,
   ⟨.refl _, fun _ a b => absurd a b, fun _ a b => by omega, Nat.le_refl _, fun _ _ _ => rfl, fun _ _ h => h, hsz.1, fun r hr _ => hold r hr, fun _ _ a b => (by rw [a] at b; cases b), hsz.2⟩⟩
theorem step_grow {h : Heap} {w w' : World} (g : Good K ρ h w) (hsz : w.heap.size ≤ w'.heap.size ∧ w'.os = w.os ∧ w'.output = w.output) (hold : ∀ r, r < w.heap.size → w'.heap[r]? = w.heap[r]?) :
    Good K ρ h w' ∧ Stp ρ h w ρ h w' := Good0.with g.known (step_grow0 g.toGood0 hsz hold)
theorem good_apart {h : Heap} {w w' : World} (g : Good K ρ h w) {r : Nat} (hr : ∀ b i, ρ b = some i → h.get b ≠ none → i.blk ≠ r) (hsz : w'.heap.size = w.heap.size) (hold : ∀ k, k ≠ r → w'.heap[k]? = w.heap[k]?) (kn : K.is ρ w') : Good K ρ h w' :=
  ⟨⟨fun b i o hb ho => ORel.move (.refl _) (hold _ (hr b i hb (by rw [ho]; simp))) (g.rel b i o hb ho), g.inj, fun b i hb hz => by rw [hsz]; exact g.lt b i hb hz, g.fresh, g.ro⟩, kn⟩
theorem step_kill0 {h : Heap} {w : World} {b : Nat} {i : Info} (g : Good0 ρ h w) (hi : ρ b = some i) (_hlt : b < h.next) : Good0 ρ (h.kill b) w ∧ Stp ρ h w ρ (h.kill b) w := by
  refine ⟨⟨?_, ?_, g.lt, ?_, ?_⟩, ⟨.refl _, fun _ a b => absurd a b, fun c h1 h2 => ?_, Nat.le_refl _, ?_, ?_, Nat.le_refl _, fun _ _ _ => rfl, fun _ _ a b => (by rw [a] at b; cases b), ⟨rfl, rfl⟩⟩⟩
  · intro c j p hj hp'
    rw [get_kill] at hp'
    split at hp'
    · cases hp'
    · exact g.rel _ _ _ hj hp'
  · intro c d j k hj hk pc pd hz he
    rw [get_kill] at pc pd
    refine g.inj _ _ _ _ hj hk ?_ ?_ hz he
    · split at pc
      · exact absurd rfl pc
      · exact pc
    · split at pd
      · exact absurd rfl pd
      · exact pd
  · intro c hc
    have hc' : h.next ≤ c := hc
    rw [get_kill]; split
    · rfl
    · exact g.fresh c hc'
  · intro c j p hj hp' hr
    rw [get_kill] at hp'
    split at hp'
    · cases hp'
    · exact g.ro _ _ _ hj hp' hr
  · have h2' : c < h.next := h2
    omega
  · intro c hc hn; rw [get_kill, if_neg (fun e => by rw [e, hi] at hn; cases hn)]
  · intro c hc hx; rw [get_kill]; split
    · rfl
    · exact hx
theorem step_kill {h : Heap} {w : World} {b : Nat} {i : Info} (g : Good K ρ h w) (hi : ρ b = some i) (_hlt : b < h.next) : Good K ρ (h.kill b) w ∧ Stp ρ h w ρ (h.kill b) w := Good0.with g.known (step_kill0 g.toGood0 hi _hlt)
theorem step_over0 {h : Heap} {w w' : World} {o : Blk} {b : Nat} {i j : Info} (g : Good0 ρ h w) (hi : ρ b = some i) (hp : h.get b ≠ none) (hn : ρ h.next = none) (hj : j.blk = i.blk) (hsz2 : w'.heap.size = w.heap.size ∧ w'.os = w.os ∧ w'.output = w.output)
    (hold : ∀ r, r ≠ i.blk → w'.heap[r]? = w.heap[r]?) (ho : ORel (upd ρ h.next j) o j w') (hri : i.ro = false) (hrj : j.ro = false) :
    Good0 (upd ρ h.next j) ((h.new o).kill b) w' ∧ Stp ρ h w (upd ρ h.next j) ((h.new o).kill b) w' := by
  have hlt : b < h.next := Nat.lt_of_not_le fun hx => hp (g.fresh b hx)
  have e := upd_ext (ρ := ρ) j hn
  have hget : ∀ c, ((h.new o).kill b).get c = if c = b then none else if c = h.next then some o else h.get c := fun c => by rw [get_kill, get_new]
  obtain ⟨hsz, hside⟩ := hsz2
  refine ⟨⟨?_, ?_, ?_, ?_, ?_⟩, ⟨e, ?_, ?_, ?_, ?_, ?_, ?_, ?_, ?_, hside⟩⟩
  · intro c k p hk hp'
    rw [hget] at hp'
    split at hp'
    · cases hp'
    · rename_i hcb
      unfold upd at hk
      split at hp'
      · rename_i hc; rw [if_pos hc] at hk; cases hk; cases hp'; exact ho
      · rename_i hc; rw [if_neg hc] at hk
        have hne : k.blk ≠ i.blk := fun he => hcb (g.inj _ _ _ _ hi hk hp (by rw [hp']; simp) hri he.symm).symm
        exact ORel.move e (hold _ hne) (g.rel _ _ _ hk hp')
  · intro c d k l hk hl pc pd hz he
    rw [hget] at pc pd
    unfold upd at hk hl
    by_cases c1 : c = b
    · rw [if_pos c1] at pc; exact absurd rfl pc
    by_cases d1 : d = b
    · rw [if_pos d1] at pd; exact absurd rfl pd
    rw [if_neg c1] at pc; rw [if_neg d1] at pd
    by_cases c2 : c = h.next
    · rw [if_pos c2] at hk; cases hk
      by_cases d2 : d = h.next
      · omega
      · rw [if_neg d2] at hl pd; exact absurd (g.inj _ _ _ _ hi hl hp pd hri (by omega)).symm d1
    · rw [if_neg c2] at hk pc
      by_cases d2 : d = h.next
      · rw [if_pos d2] at hl; cases hl; exact absurd (g.inj _ _ _ _ hi hk hp pc hri (by omega)).symm c1
      · rw [if_neg d2] at hl pd; exact g.inj _ _ _ _ hk hl pc pd hz he
  · intro c k hk hz
    unfold upd at hk
    split at hk
    · cases hk; have := g.lt _ _ hi hri; omega
    · have := g.lt _ _ hk hz; omega
  · intro c hc
    have hc' : h.next + 1 ≤ c := hc
    rw [hget]; split
    · rfl
    · rw [if_neg (by omega)]; exact g.fresh c (by omega)
  · intro c k p hk hp' hr
    rw [hget] at hp'
    split at hp'
    · cases hp'
    · unfold upd at hk
      split at hp'
      · rename_i hc; rw [if_pos hc] at hk; cases hk; rw [hrj] at hr; cases hr
      · rename_i hc; rw [if_neg hc] at hk; exact g.ro _ _ _ hk hp' hr
  · intro c hc hc2
    unfold upd at hc2
    split at hc2
    · rename_i hx; exact ⟨by omega, by show c < h.next + 1; omega⟩
    · exact absurd hc hc2
  · intro c h1 h2
    have h2' : c < h.next + 1 := h2
    have : c = h.next := by omega
    rw [this]; exact hn
  · show h.next ≤ h.next + 1; omega
  · intro c hc hx; rw [hget, if_neg (fun e => by rw [e, hi] at hx; cases hx), if_neg (by omega)]
  · intro c hc hx; rw [hget]; split
    · rfl
    · rw [if_neg (by omega)]; exact hx
  · omega
  · intro r hr hq; exact hold r (fun e => hq b i hi hp hri e.symm)
  · intro c k hc hk
    unfold upd at hk
    split at hk
    · cases hk
      refine ⟨hrj, .inr ⟨b, i, hi, hp, hri, ?_, hj.symm⟩⟩
      rw [hget, if_pos rfl]
    · rw [hc] at hk; cases hk
theorem step_over {h : Heap} {w w' : World} {o : Blk} {b : Nat} {i j : Info} (g : Good K ρ h w) (hi : ρ b = some i) (hp : h.get b ≠ none) (hn : ρ h.next = none) (hj : j.blk = i.blk) (hsz2 : w'.heap.size = w.heap.size ∧ w'.os = w.os ∧ w'.output = w.output)
    (hold : ∀ r, r ≠ i.blk → w'.heap[r]? = w.heap[r]?) (ho : ORel (upd ρ h.next j) o j w') (hri : i.ro = false) (hrj : j.ro = false := by rfl) :
    Good K (upd ρ h.next j) ((h.new o).kill b) w' ∧ Stp ρ h w (upd ρ h.next j) ((h.new o).kill b) w' := Good0.with g.known (step_over0 g.toGood0 hi hp hn hj hsz2 hold ho hri hrj)
end
end Go.Vi
namespace Go.Vi
variable {K : Known}
section
variable {P : Program} {E : Env} {ρ : Map}
theorem orel_cells {w' : World} {cs : List Value} {c : Array Value} {el : TypeId} {fr : Nat × Nat} {i : Info} {opn : Option (Nat × Nat)} (hb : i.base = 0) (ht : i.tot = c.size) (ho : i.opn = opn)
    (hw : w'.heap[i.blk]? = some (.cells c el fr)) (hl : cs.length ≤ c.size) (hr : VRels ρ cs (c.toList.take cs.length)) (hf : ∀ j, j < c.size → ¬ (fr.1 ≤ j ∧ j < fr.2)) (hty : ∀ z, opn = some z → el = z.2 ∧ (z.1 = 0 → c.size = cs.length)) :
    ORel ρ (.cells cs true opn) i w' := by
  refine ⟨ho.symm, c, el, fr, hw, ht.symm, by omega, ?_, fun _ j _ hj => hf j (by omega), fun z hz => ⟨(hty z hz).1, fun h0 => ⟨hb, by have := (hty z hz).2 h0; omega⟩⟩⟩
  rw [hb]; exact hr
structure NewRuns (P : Program) (ρ : Map) (ev' : Operand → Value) (o : Oper) (b : Blk) (m : Mk) (w : World) : Prop where
  out : ∃ w' v' i, (execOp ev' o).run P w = .ok (.value v') w' ∧ (i.blk = w.heap.size ∧ i.ro = false) ∧ (w'.heap.size = w.heap.size + 1 ∧ w'.os = w.os ∧ w'.output = w.output) ∧
    (∀ r, r < w.heap.size → w'.heap[r]? = w.heap[r]?) ∧ ORel ρ b i w' ∧ ∀ (ρ' : Map) (id : Nat), ρ' id = some i → VRel ρ' (m.val id) v'
theorem alloc_new (w : World) (o : Obj) : (w.alloc o).heap[w.heap.size]? = some o := by
  show (w.heap.push o)[w.heap.size]? = some o
  simp
theorem alloc_old (w : World) (o : Obj) (r : Nat) (h : r < w.heap.size) : (w.alloc o).heap[r]? = w.heap[r]? := by
  show (w.heap.push o)[r]? = w.heap[r]?
  rw [Array.getElem?_push, if_neg (Nat.ne_of_lt h)]
theorem freeze_side {w w0 : World} {a : Addr} {n : Nat} (h : w.os = w0.os ∧ w.output = w0.output) : (w.freeze a n).os = w0.os ∧ (w.freeze a n).output = w0.output := by
  unfold World.freeze
  split <;> exact h
theorem newVar_run {t : TypeId} {v v' : Value} (h : VRel ρ v v') (w : World) (opn : Option (Nat × Nat)) (hty : ∀ z, opn = some z → t = z.2) :
    ∃ w' i, (newVar t v').run P w = .ok ⟨w.heap.size, 0, none⟩ w' ∧ (i.blk = w.heap.size ∧ i.ro = false) ∧ (w'.heap.size = w.heap.size + 1 ∧ w'.os = w.os ∧ w'.output = w.output) ∧
    (∀ r, r < w.heap.size → w'.heap[r]? = w.heap[r]?) ∧ ORel ρ (.cells (cellsOf v) true opn) i w' ∧ i.base = 0 := by
  have hc := h.cells
  refine ⟨w.alloc (.cells v'.cells t), ⟨w.heap.size, 0, opn, v'.cells.size, false⟩, by simp [newVar, newRow], ⟨rfl, rfl⟩, ⟨by simp, rfl, rfl⟩, fun r hr => alloc_old w _ r hr, ?_, rfl⟩
  have hlen : (cellsOf v).length = v'.cells.size := by rw [hc.1.1]; simp
  exact orel_cells rfl rfl rfl (alloc_new w _) (by omega) (by rw [hlen, List.take_of_length_le (by simp)]; exact hc.1) (fun j _ => by simp) (fun z hz => ⟨hty z hz, fun _ => hlen.symm⟩)
theorem tagOf_ty {b : Bool} {t : Nat} : ∀ z, tagOf b t = some z → t = z.2 := by
  intro z h
  cases b
  · cases h
  · cases h; rfl
theorem flat_range (zs : List Value) (z : Array Value) (hz : z.toList = zs) (n : Nat) : ((Array.range (n * zs.length)).map (z[· % z.size]!)).toList = rep n zs := by
  subst hz
  have hlen : z.toList.length = z.size := by simp
  rw [hlen]
  simp only [Array.toList_map, Array.toList_range]
  have one : ∀ k, (List.range' (k * z.size) z.size).map (fun i => z[i % z.size]!) = z.toList := by
    intro k
    apply List.ext_getElem
    · simp
    · intro j h1 h2
      simp only [List.length_map, List.length_range'] at h1
      simp only [List.getElem_map, List.getElem_range', Nat.one_mul]
      have : (k * z.size + j) % z.size = j := by rw [Nat.mul_comm, Nat.mul_add_mod, Nat.mod_eq_of_lt h1]
      rw [this]
      simp [h1]
  unfold rep
  induction n with
  | zero => simp
  | succ n ih =>
    rw [List.replicate_succ', List.flatten_append, ← ih, List.range_eq_range', List.range_eq_range']
    rw [show (n + 1) * z.size = n * z.size + z.size by rw [Nat.add_mul]; omega]
    rw [← List.range'_append_1, List.map_append]
    simp only [Nat.zero_add, one, List.flatten_cons, List.flatten_nil, List.append_nil]
theorem cells_arr (v : Value) : v.cells.toList = cellsOf v := (cellsOf_eq v).symm
theorem wrap_small {x : Int} (h0 : 0 ≤ x) (h1 : x < 2 ^ 62) : IntKind.i64.wrap x = x := by
  have e1 : x % 2 ^ 64 = x := Int.emod_eq_of_lt h0 (by omega)
  have e2 : ¬ (x ≥ (2 : Int) ^ (64 - 1)) := by
    have : ((2 : Int) ^ (64 - 1)) = 9223372036854775808 := by decide
    omega
  show (if (true && decide (x % 2 ^ 64 ≥ (2 : Int) ^ (64 - 1))) = true then x % 2 ^ 64 - 2 ^ 64 else x % 2 ^ 64) = x
  simp only [e1, e2, decide_false, Bool.and_false, Bool.false_eq_true, if_false]
theorem freeze_at {w : World} {b n : Nat} {c : Array Value} {e : TypeId} (h : w.heap[b]? = some (.cells c e)) : (w.freeze ⟨b, n, none⟩ 1).heap[b]? = some (.cells c e (n, n + 1)) := by
  unfold World.freeze
  rw [if_neg (by omega)]
  simp [h, Array.getElem?_modify]
theorem freeze_other {w : World} {b n r : Nat} (h : r ≠ b) : (w.freeze ⟨b, n, none⟩ 1).heap[r]? = w.heap[r]? := by
  unfold World.freeze
  rw [if_neg (by omega)]
  simp [Array.getElem?_modify, Ne.symm h]
theorem freeze_size {w : World} {a : Addr} : (w.freeze a 1).heap.size = w.heap.size := by
  unfold World.freeze
  rw [if_neg (by omega)]
  simp
theorem new_sound (ko : TysOk P E) {ev ev' : Operand → Value} (he : ∀ x, VRel ρ (ev x) (ev' x)) {o : Oper} {b : Blk} {m : Mk} (h : newV E ev o = some (b, m)) (w : World) : NewRuns P ρ ev' o b m w := by
  obtain ⟨dst, op, ty, pos, after, guard⟩ := o
  unfold newV at h
  cases op <;> simp only [reduceCtorEq] at h
  case alloc t =>
    replace h := bind_some.1 h; obtain ⟨i, hi, h⟩ := h
    replace h := bind_some.1 h; obtain ⟨z, hz, h⟩ := h
    cases h
    obtain ⟨w', q, run, hq, hs, hold, hor, hbase⟩ := newVar_run (P := P) (t := t) (zero_rel (ρ := ρ) (ko _ _ hi) hz) w _ tagOf_ty
    refine ⟨w', .pointer (some ⟨w.heap.size, 0, none⟩), q, ?_, hq, hs, hold, hor, fun ρ' id hid => ?_⟩
    · simp [execOp, Instr.alloc, run_zero (ko _ _ hi) hz, run]
    · have := VRel.ptr (ρ := ρ') id 0 q hid
      rw [hq.1, hbase] at this; exact this
  case box t x =>
    cases h
    obtain ⟨w', q, run, hq, hs, hold, hor, hbase⟩ := newVar_run (P := P) (t := t) (he x) w none (fun _ h => by cases h)
    refine ⟨w', .pointer (some ⟨w.heap.size, 0, none⟩), q, ?_, hq, hs, hold, hor, fun ρ' id hid => ?_⟩
    · simp [execOp, Instr.box, run]
    · have := VRel.ptr (ρ := ρ') id 0 q hid
      rw [hq.1, hbase] at this; exact this
  case buildSlice t len ps =>
    replace h := bind_some.1 h; obtain ⟨i, hi, h⟩ := h
    split at h
    · rename_i elem hu
      replace h := bind_some.1 h; obtain ⟨e, he', h⟩ := h
      split at h
      · cases h
      · rename_i hsz
        replace h := bind_some.1 h; obtain ⟨zl, hzl, h⟩ := h
        replace h := bind_some.1 h; obtain ⟨cs, hcs, h⟩ := h
        cases h
        unfold zeros at hzl
        replace hzl := bind_some.1 hzl; obtain ⟨z, hz, hzl⟩ := hzl
        split at hzl
        · rename_i hzs
          cases hzl
          have hzr : VRels ρ (cellsOf z) z.cells.toList := (zero_rel (ρ := ρ) (ko _ _ he') hz).cells.1
          have hrow : ∀ zz : Array Value, (len * e.size ≠ 0 → zz = z.cells) → VRels ρ (rep len (cellsOf z)) (((Array.range (len * e.size)).map (zz[· % zz.size]!)).toList) := by
            intro zz hzz
            by_cases h0 : len * e.size = 0
            · have : rep len (cellsOf z) = [] := by
                unfold rep
                apply List.flatten_eq_nil_iff.2
                intro l hl
                rw [List.mem_replicate] at hl
                rcases Nat.mul_eq_zero.1 h0 with h0 | h0
                · exact absurd h0 hl.1
                · rw [hl.2]; exact List.eq_nil_of_length_eq_zero (by omega)
              rw [this, h0]; simpa using VRels.nil
            · have := hzz h0; subst this
              rw [← hzs, flat_range (cellsOf z) z.cells (cells_arr z) len]
              exact VRels.flatten_replicate len (by have := hzr; rw [cells_arr] at this; exact this)
          have run0 : ∃ zz : Array Value, (len * e.size ≠ 0 → zz = z.cells) ∧ (if len * e.size = 0 then pure #[] else do pure (← zeroValue elem).cells : Sem (Array Value)).run P w = .ok zz w := by
            by_cases h0 : len * e.size = 0
            · exact ⟨#[], fun h => absurd h0 h, by rw [if_pos h0]; rfl⟩
            · exact ⟨z.cells, fun _ => rfl, by rw [if_neg h0]; simp [run_zero (ko _ _ he') hz]⟩
          obtain ⟨zz, hzz, hrun⟩ := run0
          obtain ⟨out', hf, rel⟩ := fill_run (place' := fun i => some (i * e.size, e.size)) (fun _ _ h => h) _ _ _ _ _ (hrow zz hzz) (parts_rel he ps) hcs
          refine ⟨w.alloc (.cells out' elem), .slice (some ⟨w.heap.size, 0, none⟩) len len, ⟨w.heap.size, 0, none, out'.size, false⟩, ?_, ⟨rfl, rfl⟩, ⟨by simp, rfl, rfl⟩, fun r hr => alloc_old w _ r hr, ?_, fun ρ' id hid => ?_⟩
          · simp only [execOp, Instr.buildSlice, Sem.run_bind, run_und (ko _ _ hi), hu, run_size (ko _ _ he'), Result.andThen_ok]
            rw [if_neg hsz]
            by_cases h0 : len * e.size = 0
            · rw [if_pos h0] at hrun
              simp only [Sem.run_pure, Result.ok.injEq, and_true] at hrun
              subst hrun
              rw [h0] at hf ⊢
              simp only [↓reduceIte, Sem.run_bind, Sem.run_pure, Result.andThen_ok, hf, newRow, run_newObj]
              rfl
            · have := hzz h0
              subst this
              simp only [h0, ↓reduceIte, Sem.run_bind, Sem.run_pure, Result.andThen_ok, run_zero (ko _ _ he') hz, hf, newRow, run_newObj]
              rfl
          · have hlen : cs.length = out'.size := by rw [rel.1]; simp
            exact orel_cells rfl rfl rfl (alloc_new w _) (by omega) (by rw [hlen, List.take_of_length_le (by simp)]; exact rel) (fun j _ => by simp) (fun _ h => by cases h)
          · exact .slice id 0 len len _ 0 len hid (Nat.le_refl _) (.inl rfl) (Nat.le_refl _) (fun _ => rfl) (fun z hz => by cases hz)
        · cases hzl
    · cases h
  case makeSlice t l c =>
    replace h := bind_some.1 h; obtain ⟨i, hi, h⟩ := h
    split at h
    · rename_i elem hu
      replace h := bind_some.1 h; obtain ⟨e, he', h⟩ := h
      replace h := bind_some.1 h; obtain ⟨ln, hln, h⟩ := h
      replace h := bind_some.1 h; obtain ⟨cp, hcp, h⟩ := h
      obtain ⟨kl, hvl, hvl'⟩ := intOf_inv (he l) hln
      obtain ⟨kc, hvc, hvc'⟩ := intOf_inv (he c) hcp
      split at h
      · rename_i hb
        replace h := bind_some.1 h; obtain ⟨zl, hzl, h⟩ := h
        cases h
        unfold zeros at hzl
        replace hzl := bind_some.1 hzl; obtain ⟨z, hz, hzl⟩ := hzl
        split at hzl
        · rename_i hzs
          cases hzl
          have hzr : VRels ρ (cellsOf z) z.cells.toList := (zero_rel (ρ := ρ) (ko _ _ he') hz).cells.1
          obtain ⟨xi, hxi, hxb, _, _⟩ := run_info (ko _ _ he')
          have wl : IntKind.i64.wrap ln = ln := wrap_small hb.1 (by omega)
          have wc : IntKind.i64.wrap cp = cp := wrap_small (by omega) hb.2.2.1
          have row : ∃ c' : Array Value, VRels ρ (rep cp.toNat (cellsOf z)) c'.toList ∧ (execOp ev' ⟨dst, .makeSlice t l c, ty, pos, after, guard⟩).run P w = .ok (.value (.slice (some ⟨w.heap.size, 0, none⟩) ln.toNat cp.toNat)) (w.alloc (.cells c' elem)) := by
            have hpre : (decide (cp < 0) || decide ((e.bytes : Int) * cp > 2 ^ 48)) = false := by
              simp only [Bool.or_eq_false_iff, decide_eq_false_iff_not]; omega
            by_cases h0 : cp.toNat * e.size = 0
            · have : rep cp.toNat (cellsOf z) = [] := by
                unfold rep
                apply List.flatten_eq_nil_iff.2
                intro l hl
                rw [List.mem_replicate] at hl
                rcases Nat.mul_eq_zero.1 h0 with h0 | h0
                · exact absurd h0 hl.1
                · rw [hl.2]; exact List.eq_nil_of_length_eq_zero (by omega)
              refine ⟨#[], by rw [this]; exact .nil, ?_⟩
              simp only [execOp, Instr.makeSlice, hvl', hvc', Sem.run_bind, run_und (ko _ _ hi), hu, asInt, asIntOf, Sem.run_pure, Result.andThen_ok, hxi, hxb, wl, wc, hpre]
              have q1 : ¬ (ln < 0) := by omega
              have q2 : ¬ (ln > cp) := by omega
              simp [q1, q2, run_size (ko _ _ he'), h0, newRow]
              congr 2
              apply Array.ext'; simp
            · refine ⟨(Array.range (cp.toNat * e.size)).map (z.cells[· % z.cells.size]!), ?_, ?_⟩
              · rw [← hzs, flat_range (cellsOf z) z.cells (cells_arr z) cp.toNat]
                exact VRels.flatten_replicate _ (by have := hzr; rw [cells_arr] at this; exact this)
              · simp only [execOp, Instr.makeSlice, hvl', hvc', Sem.run_bind, run_und (ko _ _ hi), hu, asInt, asIntOf, Sem.run_pure, Result.andThen_ok, hxi, hxb, wl, wc, hpre]
                have q1 : ¬ (ln < 0) := by omega
                have q2 : ¬ (ln > cp) := by omega
                simp [q1, q2, run_size (ko _ _ he'), h0, newRow, run_zero (ko _ _ he') hz]
          obtain ⟨c', rel, run⟩ := row
          refine ⟨_, _, ⟨w.heap.size, 0, none, c'.size, false⟩, run, ⟨rfl, rfl⟩, ⟨by simp, rfl, rfl⟩, fun r hr => alloc_old w _ r hr, ?_, fun ρ' id hid => ?_⟩
          · have hlen : (rep cp.toNat (cellsOf z)).length = c'.size := by rw [rel.1]; simp
            exact orel_cells rfl rfl rfl (alloc_new w _) (by omega) (by rw [hlen, List.take_of_length_le (by simp)]; exact rel) (fun j _ => by simp) (fun _ h => by cases h)
          · exact .slice id 0 _ _ _ 0 _ hid (by omega) (.inl rfl) (Nat.le_refl _) (fun _ => rfl) (fun z hz => by cases hz)
        · cases hzl
      · cases h
    · cases h
  case makeMap t r =>
    have fin : (∃ w', (execOp ev' ⟨dst, .makeMap t r, ty, pos, after, guard⟩).run P w = .ok (.value (.map (some w.heap.size))) w' ∧ w' = w.alloc (.map #[] 0)) → NewRuns P ρ ev' ⟨dst, .makeMap t r, ty, pos, after, guard⟩ (.map [] 0) .map w := by
      rintro ⟨w', run, rfl⟩
      refine ⟨_, _, ⟨w.heap.size, 0, none, 0, false⟩, run, ⟨rfl, rfl⟩, ⟨by simp, rfl, rfl⟩, fun r hr => alloc_old w _ r hr, ⟨#[], alloc_new w _, rfl, fun j a b ha => by simp at ha⟩, fun ρ' id hid => .map id _ hid⟩
    cases r with
    | none =>
      simp only [Option.map_none] at h
      cases h
      exact fin ⟨_, by simp [execOp, Instr.makeMap], rfl⟩
    | some r =>
      simp only [Option.map_some] at h
      split at h
      · rename_i hv; cases hv
      · rename_i k n hv
        replace h := bind_some.1 h; obtain ⟨i, hi, h⟩ := h
        split at h
        · rename_i kt et hu
          cases h
          have hr := he r
          simp only [Option.some.injEq] at hv
          rw [hv] at hr
          exact fin ⟨_, by simp [execOp, Instr.makeMap, run_und (ko _ _ hi), hu, hr.int_inv, asInt, asIntOf], rfl⟩
        · cases h
      · cases h
  case convert s d x =>
    split at h
    · cases h
    replace h := bind_some.1 h; obtain ⟨i, hi, h⟩ := h
    replace h := bind_some.1 h; obtain ⟨j, hj, h⟩ := h
    split at h
    · rename_i et u hu hv hx
      replace h := bind_some.1 h; obtain ⟨e, he', h⟩ := h
      split at h
      · rename_i hw
        cases h
        have hr := he x
        rw [hx] at hr
        have hx' := hr.string_inv
        let cap := (Question.appendCap u.size 0 et).cut (w.tape w.drawn (.appendCap u.size 0 et))
        have hcap : u.size ≤ cap := by show u.size ≤ u.size + _; omega
        let c : Array Value := u.data.map (fun b => Value.int .u8 b.toNat) ++ Array.replicate (cap - u.size) (.int .u8 0)
        have hcs : c.size = cap := by simp [c]; have : u.data.size = u.size := rfl; omega
        have hat : ((w.drew).alloc (.cells c et)).heap[w.heap.size]? = some (.cells c et) := alloc_new w.drew (.cells c et)
        have hsh : ((w.drew).alloc (.cells c et)).shape? w.heap.size = some (et, c.size) := by
          unfold World.shape?; rw [hat]
        refine ⟨((w.drew).alloc (.cells c et)).freeze ⟨w.heap.size, c.size, none⟩ 1, .slice (some ⟨w.heap.size, 0, none⟩) u.size cap, ⟨w.heap.size, 0, some (1, et), c.size, false⟩, ?_, ⟨rfl, rfl⟩, ?_, ?_, ?_, ?_⟩
        · have e1 : (Conv.stringToBytes et u).run P w = .ok (.slice (some ⟨w.heap.size, 0, none⟩) u.size cap) (((w.drew).alloc (.cells c et)).freeze ⟨w.heap.size, c.size, none⟩ 1) := by
            unfold Conv.stringToBytes
            rw [Sem.run_bind, run_choose]
            rw [if_neg (by simp [Question.forced])]
            simp only [Result.andThen_ok, Sem.run_bind, newRow, run_newObj, Sem.run_pure, markStringish, run_shape, World.drew_eq, World.alloc_eq]
            have hsh2 : World.shape? (w.drew.alloc (Obj.cells (Array.map (fun b => Value.int IntKind.u8 b.toNat) u.data ++
              Array.replicate ((Question.appendCap u.size 0 et).cut (w.tape w.drawn (Question.appendCap u.size 0 et)) - u.size) (Value.int IntKind.u8 0)) et)) w.drew.heap.size = some (et, c.size) := hsh
            rw [hsh2]
            rfl
          simp only [execOp, convert, Sem.run_bind, run_und (ko _ _ hi), run_und (ko _ _ hj), Result.andThen_ok, hu, hv, hx', run_und (ko _ _ he'), hw, e1, Sem.run_pure]
        · exact ⟨by rw [freeze_size]; simp, freeze_side ⟨rfl, rfl⟩⟩
        · intro r hr
          rw [freeze_other (Nat.ne_of_lt hr)]
          exact alloc_old w.drew _ r hr
        · have hlen : ((strL u).map byteV).length = u.size := by simp [strL_size]
          refine orel_cells rfl rfl rfl (freeze_at hat) (by rw [hlen]; omega) ?_ (fun j hj => by simp only; omega) (fun _ h => by cases h; exact ⟨rfl, fun h => by cases h⟩)
          have hc : c.toList.take ((strL u).map byteV).length = (strL u).map byteV := by
            rw [hlen]
            simp only [c, Array.toList_append, Array.toList_map]
            rw [List.take_append_of_le_length (by simp), List.take_of_length_le (by simp)]
            rfl
          rw [hc]
          exact .of_get rfl fun j v v' h1 h2 => by
            rw [h1] at h2; cases h2
            rw [List.getElem?_map, Option.map_eq_some_iff] at h1
            obtain ⟨b, _, rfl⟩ := h1
            exact .int _ _
        · intro ρ' id hid
          exact .slice id 0 _ _ _ 0 cap hid (Nat.le_refl _) (.inl rfl) hcap (fun h => by cases h) (fun z hz => by cases hz; simp; omega)
      · cases h
    · cases h
theorem store_cell {w : World} {b o : Nat} {c : Array Value} {e : TypeId} {fr : Nat × Nat} {v : Value} (h : w.heap[b]? = some (.cells c e fr)) (ho : o < c.size) (hf : ¬ (fr.1 ≤ o ∧ o < fr.2)) (hv : v.oneCell' = true) :
    (store ⟨b, o, none⟩ v).run P w = .ok () (w.setCell ⟨b, o, none⟩ v) := by
  have hc : w.cell? ⟨b, o, none⟩ = some c[o] := by rw [cell_eq h]; simp [ho]
  have hz : w.frozen? ⟨b, o, none⟩ = false := by
    unfold World.frozen?
    rw [h]
    simp only [Bool.and_eq_false_iff, decide_eq_false_iff_not]
    by_cases h1 : fr.1 ≤ o
    · right; exact fun h2 => hf ⟨h1, h2⟩
    · left; exact h1
  unfold store
  cases v <;> first | (simp [Value.oneCell'] at hv; done) | (simp only [Sem.run, hc, hz]; rfl)
theorem setCell_at {w : World} {b o : Nat} {c : Array Value} {e : TypeId} {fr : Nat × Nat} {v : Value} (h : w.heap[b]? = some (.cells c e fr)) :
    (w.setCell ⟨b, o, none⟩ v).heap[b]? = some (.cells (c.setIfInBounds o v) e fr) := by
  unfold World.setCell
  simp [h, Array.getElem?_modify]
theorem setCell_off {w : World} {b o r : Nat} {v : Value} (h : r ≠ b) : (w.setCell ⟨b, o, none⟩ v).heap[r]? = w.heap[r]? := by
  unfold World.setCell
  simp [Array.getElem?_modify, Ne.symm h]
theorem setCell_side {w : World} {a : Addr} {v : Value} : (w.setCell a v).os = w.os ∧ (w.setCell a v).output = w.output := by
  unfold World.setCell
  split <;> exact ⟨rfl, rfl⟩
theorem storeCells_run {b off : Nat} {e : TypeId} {fr : Nat × Nat} : ∀ (l : List Value) (i : Nat) (c : Array Value) (w : World), w.heap[b]? = some (.cells c e fr) → off + i + l.length ≤ c.size →
    (∀ v ∈ l, v.oneCell' = true) → (∀ j, off + i ≤ j → j < off + i + l.length → ¬ (fr.1 ≤ j ∧ j < fr.2)) →
    ∃ w' c', (storeCells ⟨b, off, none⟩ l i).run P w = .ok () w' ∧ w'.heap[b]? = some (.cells c' e fr) ∧ c'.toList = splice c.toList (off + i) l ∧ (w'.heap.size = w.heap.size ∧ w'.os = w.os ∧ w'.output = w.output) ∧ ∀ r, r ≠ b → w'.heap[r]? = w.heap[r]? := by
  intro l
  induction l with
  | nil => intro i c w h _ _ _; exact ⟨w, c, rfl, h, by simp [splice], ⟨rfl, rfl, rfl⟩, fun _ _ => rfl⟩
  | cons v l ih =>
    intro i c w h hl hv hf
    simp only [List.length_cons] at hl hf
    have hs := store_cell (P := P) (v := v) h (o := off + i) (by omega) (hf _ (Nat.le_refl _) (by omega)) (hv v (by simp))
    obtain ⟨w', c', run, hw', hc', hsz, hold⟩ := ih (i + 1) (c.setIfInBounds (off + i) v) (w.setCell ⟨b, off + i, none⟩ v) (setCell_at h) (by simp; omega) (fun x hx => hv x (by simp [hx]))
      (fun j h1 h2 => hf j (by omega) (by omega))
    refine ⟨w', c', ?_, hw', ?_, ⟨by rw [hsz.1]; simp, hsz.2.1.trans setCell_side.1, hsz.2.2.trans setCell_side.2⟩, fun r hr => by rw [hold r hr, setCell_off hr]⟩
    · unfold storeCells
      rw [Sem.run_bind, add_cell, hs]
      exact run
    · rw [hc']
      unfold splice
      simp only [Array.toList_setIfInBounds, List.length_cons]
      have e1 : (c.toList.set (off + i) v).take (off + (i + 1)) = c.toList.take (off + i) ++ [v] := by
        rw [show off + (i + 1) = (off + i) + 1 by omega, List.take_succ_eq_append_getElem (by simp; omega), List.take_set_of_le (Nat.le_refl _)]
        simp
      have e2 : (c.toList.set (off + i) v).drop (off + (i + 1) + l.length) = c.toList.drop (off + i + (l.length + 1)) := by
        rw [List.drop_set_of_lt (by omega)]
        congr 1; omega
      rw [e1, e2]
      simp
theorem one_rel {l l' : List Value} (h : VRels ρ l l') (ho : l.all oneCell = true) : ∀ v ∈ l', v.oneCell' = true := by
  intro v' hv
  obtain ⟨j, hj, rfl⟩ := List.getElem_of_mem hv
  have := h.2 j (by rw [h.1]; exact hj) hj
  rw [← this.oneCell]
  exact List.all_eq_true.1 ho _ (List.getElem_mem _)
theorem splice_mid (c cs l : List Value) (base n : Nat) (hb : base + cs.length ≤ c.length) (hn : n + l.length ≤ cs.length) (_hcs : True) :
    ((splice c (base + n) l).drop base).take cs.length = splice ((c.drop base).take cs.length) n l := by
  apply List.ext_getElem?
  intro j
  unfold splice
  simp only [List.getElem?_take, List.getElem?_drop, List.getElem?_append, List.length_take, List.length_append, List.length_drop]
  by_cases h1 : j < cs.length
  · rw [if_pos h1]
    by_cases h2 : j < n
    · rw [if_pos (by omega), if_pos (by omega), if_pos (by omega), if_pos (by omega), if_pos (by omega), if_pos (by omega), if_pos h1]
    · by_cases h3 : j < n + l.length
      · rw [if_pos (by omega), if_neg (by omega), if_pos (by omega), if_neg (by omega)]
        congr 1; omega
      · rw [if_neg (by omega), if_neg (by omega), if_pos (by omega)]
        congr 1; omega
  · rw [if_neg h1]
    symm
    rw [if_neg (by omega), if_neg (by omega)]
theorem wr_run {h h' : Heap} {w : World} (g : Good K ρ h w) {a : Addr} {l l' : List Value} {i : Info} (hi : ρ a.block = some i) (hw : wrN h a l = some h') (hr : VRels ρ l l') (ho : l.all oneCell = true) (o' : Nat) (hoff : o' = i.base + a.off) :
    ∃ w', (storeCells ⟨i.blk, o', none⟩ l').run P w = .ok () w' ∧ Good K ρ h' w' ∧ Stp ρ h w ρ h' w' := by
  unfold wrN at hw
  split at hw
  · rename_i cs opn hsp hget
    split at hw
    · rename_i hle
      cases hw
      obtain ⟨h1, c, e, fr, hc, hsz, hb, rel, hfz, hty⟩ := g.rel _ _ _ hi hget
      have hll := hr.1
      obtain ⟨w', c', run, hw', hc', hs, hold⟩ := storeCells_run (P := P) (b := i.blk) (off := o') l' 0 c w hc (by omega) (one_rel hr ho)
        (fun j q1 q2 => hfz rfl j (by omega) (by omega))
      have hcsz : c'.size = c.size := by
        have : c'.toList.length = c.toList.length := by rw [hc']; unfold splice; simp; omega
        simpa using this
      have := step_set (o := .cells (splice cs a.off l) true opn) g hi (by rw [hget]; simp) hs hold ⟨h1, c', e, fr, hw', by omega, by
          have : (splice cs a.off l).length = cs.length := by unfold splice; simp; omega
          omega, by
          have hlen : (splice cs a.off l).length = cs.length := by unfold splice; simp; omega
          rw [hlen, hc', Nat.add_zero, hoff]
          have := splice_mid c.toList cs l' i.base a.off (by simp; omega) (by omega) trivial
          rw [this]
          exact rel.splice a.off hr, hfz, fun z hz => ⟨(hty z hz).1, fun h0 => by
          have h1 := (hty z hz).2 h0
          have h2 : (splice cs a.off l).length = cs.length := by unfold splice; simp; omega
          rw [h2]; exact h1⟩⟩ (g.toGood0.wr hi hget rfl)
      exact ⟨w', run, this.1, this.2⟩
    · cases hw
  · cases hw
end
end Go.Vi
namespace Go.Vi
variable {K : Known}
section
variable {P : Program} {E : Env} {ρ : Map}
theorem store_run (ko : TysOk P E) {h h' : Heap} {w : World} (g : Good K ρ h w) {t : TypeId} {p p' v v' : Value} (hp : VRel ρ p p') (hv : VRel ρ v v') (hs : storeV E t p v h = some h') :
    ∃ w', (Instr.storeAt t p' v').run P w = .ok () w' ∧ Good K ρ h' w' ∧ Stp ρ h w ρ h' w' := by
  unfold storeV at hs
  replace hs := bind_some.1 hs; obtain ⟨i, hi, hs⟩ := hs
  replace hs := bind_some.1 hs; obtain ⟨a, ha, hs⟩ := hs
  simp only at hs
  split at hs
  · rename_i hl
    obtain ⟨rfl, hspot⟩ : p = .pointer (some a) ∧ a.spot = none := by
      unfold ptrOf at ha
      split at ha
      · split at ha
        · cases ha; rename_i hs; exact ⟨rfl, by simpa using hs⟩
        · cases ha
      · cases ha
    obtain ⟨j, hj, _, rfl⟩ := ptr_inv hp
    have hc := hv.cells
    obtain ⟨w', run, g', s'⟩ := wr_run (P := P) g hj hs hc.1 hl.2 _ rfl
    refine ⟨w', ?_, g', s'⟩
    have hsz : v'.cells.size = i.size := by rw [← hl.1, hc.1.1]; simp
    simp only [Instr.storeAt, Instr.sureAddr, storeVar, Sem.run_bind, Sem.run_pure, Result.andThen_ok, run_size (ko _ _ hi)]
    rw [if_neg (by omega)]
    simpa using run
  · cases hs
theorem loadCells_of {w : World} {a : Addr} {l' : List Value} (h : ∀ (j : Nat) (v' : Value), l'[j]? = some v' → w.cell? (Addr.add a j) = some v') {k : Nat} (hk : k ≤ l'.length) :
    (loadCells a k).run P w = .ok (l'.take k).toArray w := by
  have := run_loadCells_list (P := P) (w := w) a (l'.take k) (fun j v hj => h j v (by
    rw [List.getElem?_take] at hj
    split at hj
    · exact hj
    · cases hj))
  rw [List.length_take, Nat.min_eq_left hk] at this
  exact this
theorem src_run {h : Heap} {w : World} (g : Good K ρ h w) {size n : Nat} {x x' : Value} {new : List Value} (hx : VRel ρ x x') (hs : srcV size x h = some (n, new)) (hl : new.length = n * size) :
    (∀ w, (Builtin.lenOf x').run P w = .ok n w) ∧ ∀ k, k ≤ n → ∃ new' : Array Value, (Builtin.firstCells size k x').run P w = .ok new' w ∧ VRels ρ (new.take (k * size)) new'.toList := by
  unfold srcV at hs
  split at hs
  · cases hs; cases hx
    exact ⟨fun w => rfl, fun k hk => ⟨#[], by simp [Builtin.firstCells], by simpa using VRels.nil⟩⟩
  · rename_i a m c
    cases hx with
    | sliceE a' =>
      rw [if_pos rfl] at hs
      cases hs
      refine ⟨fun w => rfl, fun k hk => ⟨#[], ?_, by simpa using VRels.nil⟩⟩
      have : k = 0 := by omega
      subst this
      simp [Builtin.firstCells, loadCells, loadCellsFrom]
    | slice b o _ _ q o' cap' hq hlc ho hc hn hr =>
      split at hs
      · rename_i h0
        cases hs
        refine ⟨fun w => by rw [h0]; rfl, fun k hk => ⟨#[], ?_, by simpa using VRels.nil⟩⟩
        have : k = 0 := by omega
        subst this
        simp [Builtin.firstCells, loadCells, loadCellsFrom]
      · rename_i h0
        obtain ⟨l, hrd, he⟩ := Option.map_eq_some_iff.1 hs
        cases he
        have ho : o' = q.base + o := by
          rcases ho with ho | ho
          · exact ho
          · exact absurd ho.1 h0
        obtain ⟨l', rel, hlen, hcell⟩ := rd_real g (a := ⟨b, o, none⟩) hq hrd o' ho
        refine ⟨fun w => rfl, fun k hk => ⟨(l'.take (k * size)).toArray, ?_, by simpa using rel.take _⟩⟩
        have hk' : k * size ≤ l'.length := by rw [← rel.1, hl]; exact Nat.mul_le_mul_right _ hk
        simp only [Builtin.firstCells]
        exact loadCells_of hcell hk'
  · rename_i s
    cases hs
    rw [hx.string_inv]
    refine ⟨fun w => rfl, fun k hk => ⟨(s.extract 0 k).data.map fun b => .int .u8 b.toNat, by simp [Builtin.firstCells], ?_⟩⟩
    rw [extract_eq]
    have hsz : k * size = k := by
      simp only [List.length_map, strL_size] at hl
      by_cases h0 : k = 0
      · simp [h0]
      · have : size = 1 := by
          have h1 : s.size * 1 = s.size * size := by omega
          exact (Nat.eq_of_mul_eq_mul_left (by omega) h1).symm
        simp [this]
    rw [hsz]
    have : ((strOf (((strL s).drop 0).take (k - 0))).data.map fun b => Value.int .u8 b.toNat).toList = ((strL s).map byteV).take k := by
      simp only [strOf, List.drop_zero, Nat.sub_zero, Array.toList_map, List.map_take]
      rfl
    rw [this]
    exact .of_get rfl fun j v v' h1 h2 => by
      rw [h1] at h2; cases h2
      rw [List.getElem?_take] at h1
      split at h1
      · rw [List.getElem?_map, Option.map_eq_some_iff] at h1
        obtain ⟨b, _, rfl⟩ := h1
        exact .int _ _
      · cases h1
  · cases hs
theorem grow_le (need : Nat) : ∀ (r c : Nat), c ≤ 2 * need + 200 → Builtin.growBy need r c ≤ 2 * need + 200 := by
  intro r
  induction r with
  | zero => intro c h; exact h
  | succ r ih =>
    intro c h
    unfold Builtin.growBy
    split
    · exact h
    · exact ih _ (by omega)
theorem next_le {need old : Nat} (h : old < need) : Builtin.nextslicecap need old ≤ 2 * need + 200 := by
  unfold Builtin.nextslicecap
  split
  · omega
  · split
    · omega
    · exact grow_le need 4 old (by omega)
theorem next_bytes {need old bytes : Nat} (h : old < need) (hb : need * bytes ≤ 2 ^ 36) : ¬ (Builtin.nextslicecap need old * bytes > 2 ^ 48) := by
  have h1 := next_le h
  have h2 : Builtin.nextslicecap need old * bytes ≤ (2 * need + 200) * bytes := Nat.mul_le_mul_right _ h1
  have h3 : bytes ≤ need * bytes := Nat.le_mul_of_pos_left _ (by omega)
  rw [Nat.add_mul, Nat.mul_assoc] at h2
  omega
theorem zeroCells_size (z : Array Value) (n : Nat) : (Builtin.zeroCells z n).size = n * z.size := by simp [Builtin.zeroCells]
theorem okSrc_inv (ko : TysOk P E) {xt : Option TypeId} (h : okSrc E xt = some true) : xt = none ∨ ∃ u d, xt = some u ∧ (∀ w, (underlying u).run P w = .ok d w) ∧ ∀ k, d ≠ .int k := by
  unfold okSrc at h
  cases xt with
  | none => exact .inl rfl
  | some u =>
    obtain ⟨j, hj, hu⟩ := Option.map_eq_some_iff.1 h
    exact .inr ⟨u, j.under, rfl, fun w => run_und (ko _ _ hj), fun k hk => by rw [hk] at hu; simp at hu⟩
theorem okSrc_zero (ko : TysOk P E) {xt : Option TypeId} (h : okSrc E xt = some false) : ∃ u k, xt = some u ∧ ∀ w, (underlying u).run P w = .ok (.int k) w := by
  unfold okSrc at h
  cases xt with
  | none => cases h
  | some u =>
    obtain ⟨j, hj, hu⟩ := Option.map_eq_some_iff.1 h
    split at hu
    · rename_i k hk; exact ⟨u, k, rfl, fun w => by rw [← hk]; exact run_und (ko _ _ hj)⟩
    · cases hu
def SrcRuns (P : Program) (E : Env) (ats : Array TypeId) (e : Ty) (x' : Value) (n : Nat) (new' : Array Value) (w : World) : Prop :=
  (okSrc E (ats[1]?) = some true ∧ (∀ w, (Builtin.lenOf x').run P w = .ok n w) ∧ (Builtin.firstCells e.size n x').run P w = .ok new' w) ∨
  (okSrc E (ats[1]?) = some false ∧ ∃ k i z, x' = .int k i ∧ 0 ≤ i ∧ i < 2 ^ 36 ∧ i.toNat = n ∧ n * e.bytes ≤ 2 ^ 36 ∧ e.zero = some z ∧ z.cells.size = e.size ∧ new' = Builtin.zeroCells z.cells n)
theorem grow_run (ko : TysOk P E) {w : World} {ats : Array TypeId} {args : Array Value} {st : TypeId} {rt elem : TypeId} {i e : Ty} {z : Value} (hi : E.ty st = some i) (hu : i.under = .slice elem) (he : E.ty elem = some e)
    (hz : e.zero = some z) (hzs : (cellsOf z).length = e.size) {base : Option Addr} {len n cap' : Nat} {x' : Value} {old' new' : Array Value}
    (ha : ats[0]? = some st) (hs : args[0]? = some (.slice base len cap')) (hx : args[1]? = some x') (hsrc : SrcRuns P E ats e x' n new' w.drew)
    (hold : (Builtin.firstCells e.size len (.slice base len cap')).run P w.drew = .ok old' w.drew) (hcap : cap' < len + n) (hb : (len + n) * e.bytes ≤ 2 ^ 36) (hm : len + n ≤ 2 ^ 36) :
    ∃ nc, len + n ≤ nc ∧ ∃ rest : Array Value, rest.size = (nc - (len + n)) * e.size ∧
      (Builtin.append_ ats rt args).run P w = .ok (.slice (some ⟨w.heap.size, 0, none⟩) (len + n) nc) ((w.drew).alloc (.cells (old' ++ new' ++ rest) elem)) := by
  obtain ⟨xi, hxi, hxb, _, _⟩ := run_info (ko _ _ he)
  let nc := (Question.appendCap (len + n) cap' elem).cut (w.tape w.drawn (.appendCap (len + n) cap' elem))
  refine ⟨nc, by show len + n ≤ len + n + _; omega, Builtin.zeroCells z.cells (nc - (len + n)), ?_, ?_⟩
  · rw [zeroCells_size]
    have : z.cells.size = e.size := by rw [← hzs, cellsOf_eq]; simp
    rw [this]
  · have q1 : ¬ (len + n ≤ cap') := by omega
    have q2 : ¬ (((len + n : Nat) : Int) > IntKind.i64.max ∧ (False ∨ e.bytes = 0)) := by
      have : IntKind.i64.max = 9223372036854775807 := by decide
      omega
    have q3 := next_bytes hcap hb
    have q4 : Question.forced (.appendCap (len + n) cap' elem) = false := rfl
    unfold Builtin.append_
    simp only [ha, hs, hx, Sem.run_bind, run_und (ko _ _ hi), hu, Result.andThen_ok, run_size (ko _ _ he)]
    rcases hsrc with ⟨hok, hlen, hnew⟩ | ⟨hok, k0, i0, z2, rfl, h0, h1, hin, hnb, hz2, hzs2, hnew⟩
    rcases okSrc_inv (P := P) ko hok with hq | ⟨u, d, hq, hd, hnk⟩
    · simp only [hq, Sem.run_bind, Sem.run_pure, Result.andThen_ok, Bool.false_eq_true, if_false, hlen, q1, hxi, hxb, q2, q3, run_choose, q4, run_askRoom, World.drew_eq, hold, hnew, Bool.not_false, if_true, run_zero (ko _ _ he) hz, newRow, run_newObj, World.alloc_eq]
      rfl
    · simp only [hq, Sem.run_bind, hd, Result.andThen_ok]
      cases d <;> first
        | exact absurd rfl (hnk _)
        | (simp only [Sem.run_bind, Sem.run_pure, Result.andThen_ok, Bool.false_eq_true, if_false, hlen, q1, hxi, hxb, q2, q3, run_choose, q4, run_askRoom, World.drew_eq, hold, hnew, Bool.not_false, if_true, run_zero (ko _ _ he) hz, newRow, run_newObj, World.alloc_eq]
           rfl)
    · obtain ⟨u, ku, hq, hd⟩ := okSrc_zero (P := P) ko hok
      have ha0 : ∀ w, (asInt (Value.int k0 i0)).run P w = .ok i0 w := fun w => rfl
      have q2' : ¬ (((len + n : Nat) : Int) > IntKind.i64.max ∧ (True ∨ e.bytes = 0)) := by
        have : IntKind.i64.max = 9223372036854775807 := by decide
        omega
      have w1 : IntKind.i64.wrap i0 = i0 := wrap_small h0 (by omega)
      have w2 : ¬ (i0 < 0) := by omega
      have w3 : ¬ (i0 * ((e.bytes : Nat) : Int) > 2 ^ 48) := by
        have : i0 = ((n : Nat) : Int) := by omega
        rw [this, ← Int.natCast_mul]; omega
      have w4 : n * e.size = 0 → new' = #[] := fun hz0 => by
        rw [hnew]; apply Array.eq_empty_of_size_eq_zero; rw [zeroCells_size, hzs2]; exact hz0
      simp only [hq, Sem.run_bind, hd, Result.andThen_ok, Sem.run_pure, if_true, ha0, hxi, hxb, w1, w2, w3, if_false, hin, q1, q2', q3, Bool.not_true, Bool.false_eq_true, run_choose, q4, run_askRoom, World.drew_eq, hold, run_zero (ko _ _ he) hz, newRow, run_newObj, World.alloc_eq]
      have hap2 : ∀ w, (if n * e.size = 0 then (pure #[] : Sem (Array Value)) else (do pure (Builtin.zeroCells (← zeroValue elem).cells n))).run P w = .ok new' w := fun w => by
        split
        · rename_i hz0; rw [w4 hz0]; rfl
        · simp [run_zero (ko _ _ he) hz2, hnew]
      rw [hap2]
      rfl
theorem fits_run (ko : TysOk P E) {w : World} {ats : Array TypeId} {args : Array Value} {st : TypeId} {rt elem : TypeId} {i e : Ty} (hi : E.ty st = some i) (hu : i.under = .slice elem) (he : E.ty elem = some e)
    {base : Option Addr} {len n cap' : Nat} {x' : Value} {new' : Array Value}
    (ha : ats[0]? = some st) (hs : args[0]? = some (.slice base len cap')) (hx : args[1]? = some x') (hsrc : SrcRuns P E ats e x' n new' w) (hcap : len + n ≤ cap') :
    (Builtin.append_ ats rt args).run P w = (match base with
      | some a => ((storeCells (a.add (len * e.size)) new'.toList).run P w).andThen fun _ w => .ok (.slice base (len + n) cap') w
      | none => .ok (.slice base (len + n) cap') w) := by
  obtain ⟨xi, hxi, hxb, _, _⟩ := run_info (ko _ _ he)
  unfold Builtin.append_
  simp only [ha, hs, hx, Sem.run_bind, run_und (ko _ _ hi), hu, Result.andThen_ok, run_size (ko _ _ he)]
  rcases hsrc with ⟨hok, hlen, hnew⟩ | ⟨hok, k0, i0, z2, rfl, h0, h1, hin, hnb, hz2, hzs2, hnew⟩
  rcases okSrc_inv (P := P) ko hok with hq | ⟨u, d, hq, hd, hnk⟩
  · simp only [hq, Sem.run_bind, Sem.run_pure, Result.andThen_ok, Bool.false_eq_true, if_false, hlen, hcap, if_true, hnew, Bool.not_false]
    cases base <;> simp
  · simp only [hq, Sem.run_bind, hd, Result.andThen_ok]
    cases d <;> first
      | exact absurd rfl (hnk _)
      | (simp only [Sem.run_bind, Sem.run_pure, Result.andThen_ok, Bool.false_eq_true, if_false, hlen, hcap, if_true, hnew, Bool.not_false]
         cases base <;> simp)
  · obtain ⟨u, ku, hq, hd⟩ := okSrc_zero (P := P) ko hok
    have ha0 : ∀ w, (asInt (Value.int k0 i0)).run P w = .ok i0 w := fun w => rfl
    have w1 : IntKind.i64.wrap i0 = i0 := wrap_small h0 (by omega)
    have w2 : ¬ (i0 < 0) := by omega
    have w3 : ¬ (i0 * ((e.bytes : Nat) : Int) > 2 ^ 48) := by
      have : i0 = ((n : Nat) : Int) := by omega
      rw [this, ← Int.natCast_mul]; omega
    have w4 : n * e.size = 0 → new' = #[] := fun hz0 => by
      rw [hnew]; apply Array.eq_empty_of_size_eq_zero; rw [zeroCells_size, hzs2]; exact hz0
    simp only [hq, Sem.run_bind, hd, Result.andThen_ok, Sem.run_pure, if_true, ha0, hxi, hxb, w1, w2, w3, if_false, hin, hcap, Bool.not_true, Bool.false_eq_true]
    have hap2 : ∀ w, (if n * e.size = 0 then (pure #[] : Sem (Array Value)) else (do pure (Builtin.zeroCells (← zeroValue elem).cells n))).run P w = .ok new' w := fun w => by
      split
      · rename_i hz0; rw [w4 hz0]; rfl
      · simp [run_zero (ko _ _ he) hz2, hnew]
    rw [hap2]
    cases base <;> simp
theorem rdN_drew {h : Heap} {w : World} (g : Good K ρ h w) : Good K ρ h w.drew :=
  (step_grow (w' := w.drew) g ⟨Nat.le_refl _, rfl, rfl⟩ (fun _ _ => rfl)).1
theorem stp_drew {h h' : Heap} {w w' : World} {ρ' : Map} (s : Stp ρ h w.drew ρ' h' w') : Stp ρ h w ρ' h' w' :=
  ⟨s.ext, s.dom, s.win, s.next, s.vframe, s.dead, s.grow, s.rframe, s.fromN, s.side⟩
theorem append_run (ko : TysOk P E) {h h' : Heap} {w : World} (g : Good K ρ h w) {ats : Array TypeId} {args : Array Value} {st rt : TypeId} {s x s' x' v : Value}
    (win : ∀ b, h.next ≤ b → b < h'.next → ρ b = none)
    (ha : ats[0]? = some st) (has : args[0]? = some s') (hax : args[1]? = some x') (hs : VRel ρ s s') (hx : VRel ρ x x') (hap : appendV E st (ats[1]?) s x h = some (v, h')) :
    ∃ w' v' ρ', (Builtin.append_ ats rt args).run P w = .ok v' w' ∧ VRel ρ' v v' ∧ Good K ρ' h' w' ∧ Stp ρ h w ρ' h' w' := by
  unfold appendV at hap
  replace hap := bind_some.1 hap; obtain ⟨i, hi, hap⟩ := hap
  split at hap
  · rename_i elem base len cap hu
    replace hap := bind_some.1 hap; obtain ⟨e, he, hap⟩ := hap
    replace hap := bind_some.1 hap; obtain ⟨okx, hokx, hap⟩ := hap
    replace hap := bind_some.1 hap; obtain ⟨⟨n, new⟩, hsrc, hap⟩ := hap
    simp only at hap
    split at hap
    · cases hap
    · rename_i hcond
      simp only [Bool.or_eq_true, Bool.not_eq_true', ne_eq, not_or, Bool.not_eq_false] at hcond
      obtain ⟨⟨hsz, hlnew⟩, hone⟩ := hcond
      have hsz : e.size ≠ 0 := by simpa using hsz
      have hlnew : new.length = n * e.size := by simpa using hlnew
      have srcs : ∀ w, Good K ρ h w → ∃ new' : Array Value, SrcRuns P E ats e x' n new' w ∧ VRels ρ new new'.toList := by
        intro w g
        cases okx with
        | true =>
          have hsrc : srcV e.size x h = some (n, new) := hsrc
          obtain ⟨hlen, hfirst⟩ := src_run (P := P) g hx hsrc hlnew
          obtain ⟨new', hnew, rnew⟩ := hfirst n (Nat.le_refl _)
          rw [List.take_of_length_le (by omega)] at rnew
          exact ⟨new', .inl ⟨hokx, hlen, hnew⟩, rnew⟩
        | false =>
          have hsrc : zsrcV e x = some (n, new) := hsrc
          unfold zsrcV at hsrc
          split at hsrc
          · rename_i k i hkk
            split at hsrc
            · rename_i hr
              obtain ⟨l, hl, hle⟩ := Option.map_eq_some_iff.1 hsrc
              cases hle
              unfold zeros at hl
              replace hl := bind_some.1 hl; obtain ⟨z, hz, hl⟩ := hl
              split at hl
              · rename_i hzs
                cases hl
                have hx' := hx.int_inv
                subst hx'
                have hcs : z.cells.toList = cellsOf z := (cellsOf_eq z).symm
                refine ⟨_, .inr ⟨hokx, k, i, z, rfl, hr.1, hr.2.1, rfl, hr.2.2, hz, by rw [← hzs, cellsOf_eq]; simp, rfl⟩, ?_⟩
                have e1 : (Builtin.zeroCells z.cells i.toNat).toList = Vi.rep i.toNat (cellsOf z) := by
                  have := flat_range (cellsOf z) z.cells hcs i.toNat
                  unfold Builtin.zeroCells
                  rw [← this]
                  have e2 : (cellsOf z).length = z.cells.size := by rw [← hcs]; simp
                  rw [e2]
                rw [e1]
                have := (VRel.cells (zero_rel (ρ := ρ) (ko _ _ he) hz)).1
                rw [hcs] at this
                exact this.flatten_replicate _
              · cases hl
            · cases hsrc
          · cases hsrc
      obtain ⟨new', srcw, rnew⟩ := srcs w g
      split at hap
      · rename_i hfit
        split at hap
        · rename_i hn0
          cases hap
          subst hn0
          have hnil : new' = #[] := by
            have := rnew.1
            have h0 : new.length = 0 := by omega
            have h1 : new'.toList.length = 0 := by omega
            exact Array.eq_empty_of_size_eq_zero (by simpa using h1)
          have hs' := hs
          cases hs with
          | slice0 =>
            have := fits_run (P := P) (rt := rt) ko hi hu he ha has hax srcw (by omega)
            exact ⟨w, _, ρ, this, hs', g, .refl _ _ _⟩
          | sliceE a' =>
            have := fits_run (P := P) (rt := rt) ko hi hu he ha has hax srcw (by omega)
            rw [hnil] at this
            exact ⟨w, _, ρ, by rw [this]; rfl, hs', g, .refl _ _ _⟩
          | slice b o _ _ q o' cap' hq hlc ho hc hn hr =>
            have := fits_run (P := P) (rt := rt) ko hi hu he ha has hax srcw (by omega)
            rw [hnil] at this
            exact ⟨w, _, ρ, by rw [this]; rfl, hs', g, .refl _ _ _⟩
        · rename_i hn0
          split at hap
          · rename_i a
            replace hap := bind_some.1 hap; obtain ⟨h2, hw, hap⟩ := hap
            cases hap
            cases hs with
            | sliceE a' => omega
            | slice b o _ _ q o' cap' hq hlc ho hc hn hr =>
              have ho : o' = q.base + o := by
                rcases ho with ho | ho
                · exact ho
                · omega
              rw [add_cell] at hw
              obtain ⟨w', run, g', s'⟩ := wr_run (P := P) g (a := ⟨b, o + len * e.size, none⟩) hq hw rnew hone (o' + len * e.size) (by simp only; omega)
              have := fits_run (P := P) (rt := rt) ko hi hu he ha has hax srcw (by omega)
              simp only [add_cell, run, Result.andThen_ok] at this
              exact ⟨w', _, ρ, this, .slice b o (len + n) cap q o' cap' hq hfit (.inl ho) hc hn hr, g', s'⟩
          · cases hap
      · rename_i hfit
        split at hap
        · cases hap
        · rename_i hbig
          simp only [not_or, Decidable.not_not, Nat.not_lt, gt_iff_lt] at hbig
          obtain ⟨hb1, hb2, hzc⟩ := hbig
          obtain ⟨z, hz, hzs⟩ := Option.map_eq_some_iff.1 hzc
          have gd := rdN_drew g
          obtain ⟨newd, srcd, rnewd⟩ := srcs w.drew gd
          split at hap
          · -- nothing was there
            split at hap
            · rename_i hl0
              cases hap
              subst hl0
              cases hs
              obtain ⟨nc, hnc, rest, hrest, run⟩ := grow_run (P := P) (rt := rt) ko hi hu he hz hzs ha has hax srcd (old' := #[]) (by simp [Builtin.firstCells]) (by omega) hb1 hb2
              have hnw : ρ h.next = none := win _ (Nat.le_refl _) (by show h.next < h.next + 1; omega)
              simp only [Nat.zero_add] at run hrest hnc
              let c : Array Value := #[] ++ newd ++ rest
              have hcs : c.size = nc * e.size := by
                have h1 : newd.size = n * e.size := by have := rnewd.1; simp at this; omega
                simp only [c, Array.size_append, hrest, h1]
                have e1 : n * e.size + (nc - n) * e.size = nc * e.size := by rw [← Nat.add_mul]; congr 1; omega
                simp only [Array.size_empty]
                omega
              have hio : ORel (upd ρ h.next ⟨w.heap.size, 0, some (e.size, elem), c.size, false⟩) (.cells new true (some (e.size, elem))) ⟨w.heap.size, 0, some (e.size, elem), c.size, false⟩ ((w.drew).alloc (.cells c elem)) := by
                refine orel_cells rfl rfl rfl (alloc_new w.drew _) ?_ ?_ (fun j _ => by simp) (fun _ h => by cases h; exact ⟨rfl, fun h => absurd h hsz⟩)
                · rw [hcs, hlnew]; exact Nat.mul_le_mul_right _ hnc
                · have : c.toList.take new.length = newd.toList := by
                    have h1 := rnewd.1
                    simp only [c, Array.toList_append, List.nil_append]
                    rw [h1, List.take_left']
                    rfl
                  rw [this]; exact rnewd.ext (upd_ext _ hnw)
              obtain ⟨g', s'⟩ := step_new (w' := (w.drew).alloc (.cells c elem)) gd hnw (i := ⟨w.heap.size, 0, some (e.size, elem), c.size, false⟩) rfl ⟨by simp, rfl, rfl⟩ (fun r hr => alloc_old w.drew _ r hr) hio
              exact ⟨_, _, _, run, .slice _ 0 n n _ 0 nc upd_self (Nat.le_refl _) (.inl rfl) hnc (fun h => by cases h) (fun z hz => by cases hz; simp only; omega), g', stp_drew s'⟩
            · cases hap
          · rename_i a
            cases hs with
            | sliceE a' => simp only [reduceCtorEq] at hap
            | slice b o _ _ q o' cap' hq hlc ho hc hn hr =>
              simp only at hap
              split at hap
              · rename_i cs wr opn _ hget
                split at hap
                · rename_i hle
                  have hrd : rdN h ⟨b, o, none⟩ (len * e.size) = some ((cs.drop o).take (len * e.size)) := by
                    unfold rdN; rw [hget]; simp only; rw [if_pos hle]
                  have hold : ∃ old' : Array Value, (Builtin.firstCells e.size len (.slice (some ⟨q.blk, o', none⟩) len cap')).run P w.drew = .ok old' w.drew ∧ VRels ρ ((cs.drop o).take (len * e.size)) old'.toList ∧
                      (len ≠ 0 → o' = q.base + o) := by
                    by_cases h0 : len = 0
                    · subst h0
                      exact ⟨#[], by simp [Builtin.firstCells, loadCells, loadCellsFrom], by simpa using VRels.nil, fun h => absurd rfl h⟩
                    · have ho : o' = q.base + o := by
                        rcases ho with ho | ho
                        · exact ho
                        · exact absurd ho.1 h0
                      obtain ⟨l', rel, hll, hcell⟩ := rd_real gd (a := ⟨b, o, none⟩) hq hrd o' ho
                      refine ⟨l'.toArray, ?_, by simpa using rel, fun _ => ho⟩
                      have hl' : l'.length = len * e.size := by rw [← rel.1, hll]
                      have := loadCells_of (P := P) hcell (k := len * e.size) (by omega)
                      rw [List.take_of_length_le (by omega)] at this
                      exact this
                  obtain ⟨old', hold, rold, hoff⟩ := hold
                  have holen : old'.toList.length = len * e.size := by
                    rw [← rold.1]; simp only [List.length_take, List.length_drop] at hle ⊢; omega
                  have hbge : q.base ≤ o' := by rcases ho with ho | ho <;> omega
                  have hnw : ρ h.next = none := by
                    split at hap
                    · cases hap; exact win _ (Nat.le_refl _) (by show h.next < h.next + 1; omega)
                    · split at hap
                      · cases hap; exact win _ (Nat.le_refl _) (by show h.next < h.next + 1; omega)
                      · cases hap
                  have hqw : ∃ c el fr, w.heap[q.blk]? = some (.cells c el fr) ∧ c.size = q.tot ∧ q.base + cs.length ≤ q.tot ∧ opn = q.opn ∧
                      VRels ρ cs ((c.toList.drop q.base).take cs.length) ∧ (wr = true → ∀ j, q.base ≤ j → j < q.tot → ¬ (fr.1 ≤ j ∧ j < fr.2)) ∧ (∀ z, opn = some z → el = z.2 ∧ (z.1 = 0 → q.base = 0 ∧ q.tot = cs.length)) := by
                    obtain ⟨h1, c, el, fr, h2, h3, h4, h5, h6, h7⟩ := g.rel _ _ _ hq hget
                    exact ⟨c, el, fr, h2, h3, h4, h1, h5, h6, h7⟩
                  obtain ⟨c0, el0, fr0, hc0, hc0s, hb0, hopn, hrel0, hfr0, hty0⟩ := hqw
                  have growth : cap' < len + n → ∃ nc ρ', ∃ w', len + n ≤ nc ∧ (Builtin.append_ ats rt args).run P w = .ok (.slice (some ⟨w.heap.size, 0, none⟩) (len + n) nc) w' ∧
                      VRel ρ' (.slice (some ⟨h.next, 0, none⟩) (len + n) (len + n)) (.slice (some ⟨w.heap.size, 0, none⟩) (len + n) nc) ∧
                      Good K ρ' (h.new (.cells ((cs.drop o).take (len * e.size) ++ new) true (some (e.size, elem)))) w' ∧ Stp ρ h w ρ' (h.new (.cells ((cs.drop o).take (len * e.size) ++ new) true (some (e.size, elem)))) w' := by
                    intro hlt
                    obtain ⟨nc, hnc, rest, hrest, run⟩ := grow_run (P := P) (rt := rt) ko hi hu he hz hzs ha has hax srcd hold hlt hb1 hb2
                    let c : Array Value := old' ++ newd ++ rest
                    have h1 : newd.size = n * e.size := by have := rnewd.1; simp at this; omega
                    have h2 : old'.size = len * e.size := by simpa using holen
                    have hcs : c.size = nc * e.size := by
                      simp only [c, Array.size_append, hrest, h1, h2]
                      have e1 : (len + n) * e.size + (nc - (len + n)) * e.size = nc * e.size := by rw [← Nat.add_mul]; congr 1; omega
                      rw [Nat.add_mul] at e1
                      omega
                    have rall : VRels ρ ((cs.drop o).take (len * e.size) ++ new) (old' ++ newd).toList := by
                      rw [Array.toList_append]; exact rold.append rnewd
                    have hlen2 : ((cs.drop o).take (len * e.size) ++ new).length = (old' ++ newd).toList.length := rall.1
                    have hio : ORel (upd ρ h.next ⟨w.heap.size, 0, some (e.size, elem), c.size, false⟩) (.cells ((cs.drop o).take (len * e.size) ++ new) true (some (e.size, elem))) ⟨w.heap.size, 0, some (e.size, elem), c.size, false⟩ ((w.drew).alloc (.cells c elem)) := by
                      refine orel_cells rfl rfl rfl (alloc_new w.drew _) ?_ ?_ (fun j _ => by simp) (fun _ h => by cases h; exact ⟨rfl, fun h => absurd h hsz⟩)
                      · rw [hlen2]; simp only [c, Array.size_append, Array.length_toList]; omega
                      · have : c.toList.take ((cs.drop o).take (len * e.size) ++ new).length = (old' ++ newd).toList := by
                          rw [hlen2]
                          have q : c.toList = (old' ++ newd).toList ++ rest.toList := Array.toList_append
                          rw [q, List.take_left']
                          rfl
                        rw [this]; exact rall.ext (upd_ext _ hnw)
                    obtain ⟨g', s'⟩ := step_new (w' := (w.drew).alloc (.cells c elem)) gd hnw (i := ⟨w.heap.size, 0, some (e.size, elem), c.size, false⟩) rfl ⟨by simp, rfl, rfl⟩ (fun r hr => alloc_old w.drew _ r hr) hio
                    exact ⟨nc, _, _, hnc, run, .slice _ 0 _ _ _ 0 nc upd_self (Nat.le_refl _) (.inl rfl) hnc (fun h => by cases h) (fun z hz => by cases hz; simp only; omega), g', stp_drew s'⟩
                  split at hap
                  · -- the capacity is known
                    cases hap
                    have hcc := hn hopn.symm
                    obtain ⟨nc, ρ', w', hnc, run, rv, g', s'⟩ := growth (by omega)
                    exact ⟨w', _, ρ', run, rv, g', s'⟩
                  · rename_i zz
                    split at hap
                    · rename_i hzw
                      cases hap
                      obtain ⟨rfl, hwr⟩ := hzw
                      by_cases hfit' : len + n ≤ cap'
                      · -- in place
                        have hroom := hr _ hopn.symm
                        simp only at hroom
                        have hnsz : new'.size = n * e.size := by have := rnew.1; simp only [Array.length_toList] at this; omega
                        have hmul : (len + n) * e.size ≤ cap' * e.size := Nat.mul_le_mul_right _ hfit'
                        rw [Nat.add_mul] at hmul
                        obtain ⟨w', c', run, hw', hc', hs', holdw⟩ := storeCells_run (P := P) (b := q.blk) (off := o' + len * e.size) new'.toList 0 c0 w hc0 (by rw [← rnew.1]; omega) (one_rel rnew hone)
                          (fun j q1 q2 => hfr0 hwr j (by omega) (by rw [← rnew.1] at q2; omega))
                        have hfin := fits_run (P := P) (rt := rt) ko hi hu he ha has hax srcw hfit'
                        simp only [add_cell, run, Result.andThen_ok] at hfin
                        have hcsz : c'.size = c0.size := by
                          have : c'.toList.length = c0.toList.length := by rw [hc']; unfold splice; simp only [List.length_append, List.length_take, List.length_drop, Array.length_toList]; omega
                          simpa using this
                        have eup := upd_ext (ρ := ρ) (n := h.next) ⟨q.blk, o', some (e.size, elem), q.tot, false⟩ hnw
                        have hnl : new'.toList.length = n * e.size := by rw [← rnew.1]; exact hlnew
                        have hlen1 : ((cs.drop o).take (len * e.size) ++ new).length = len * e.size + n * e.size := by
                          rw [List.length_append, hlnew, rold.1, holen]
                        have hcont : (c'.toList.drop o').take (len * e.size + n * e.size) = old'.toList ++ new'.toList := by
                          have hold2 : (c0.toList.drop o').take (len * e.size) = old'.toList := by
                            by_cases h0 : len = 0
                            · subst h0
                              have : old'.toList = [] := List.eq_nil_of_length_eq_zero (by omega)
                              rw [this]; simp
                            · have ho := hoff h0
                              have hh := hold
                              simp only [Builtin.firstCells] at hh
                              have := loadCells_of (P := P) (w := w.drew) (a := ⟨q.blk, o', none⟩) (l' := c0.toList.drop o') (fun j v' hj => by
                                rw [add_cell, cell_eq (w := w.drew) hc0]
                                rw [List.getElem?_drop] at hj
                                rw [← Array.getElem?_toList]; exact hj) (k := len * e.size) (by simp; omega)
                              rw [this] at hh
                              cases hh; rfl
                          rw [hc', Nat.add_zero]
                          unfold splice
                          rw [← hold2]
                          apply List.ext_getElem?
                          intro j
                          simp only [List.getElem?_take, List.getElem?_drop, List.getElem?_append, List.length_take, List.length_append, List.length_drop, Array.length_toList, hnl]
                          by_cases h1 : j < len * e.size
                          · rw [if_pos (by omega), if_pos (by omega), if_pos (by omega), if_pos (by omega), if_pos (by omega), if_pos h1]
                          · by_cases h2 : j < len * e.size + n * e.size
                            · rw [if_pos h2, if_pos (by omega), if_neg (by omega), if_neg (by omega)]
                              congr 1; omega
                            · rw [if_neg h2, if_neg (by omega)]
                              symm; rw [List.getElem?_eq_none]; rw [hnl]; omega
                        have hio : ORel (upd ρ h.next ⟨q.blk, o', some (e.size, elem), q.tot, false⟩) (.cells ((cs.drop o).take (len * e.size) ++ new) true (some (e.size, elem))) ⟨q.blk, o', some (e.size, elem), q.tot, false⟩ w' :=
                          ⟨rfl, c', el0, fr0, hw', by show c'.size = q.tot; omega, by rw [hlen1]; show o' + (len * e.size + n * e.size) ≤ q.tot; omega, by
                            rw [hlen1]; show VRels _ _ ((c'.toList.drop o').take _)
                            rw [hcont]; exact (rold.append rnew).ext eup, fun _ j q1 q2 => hfr0 hwr j (by simp only at q1; omega) q2, fun z hz => by cases hz; exact ⟨(hty0 _ rfl).1, fun h => absurd h hsz⟩⟩
                        obtain ⟨g', s'⟩ := step_over (j := ⟨q.blk, o', some (e.size, elem), q.tot, false⟩) g hq (by rw [hget]; simp) hnw rfl hs' holdw hio (g.toGood0.wr hq hget (by simp [roB]))
                        exact ⟨w', _, _, hfin, VRel.slice (ρ := upd ρ h.next ⟨q.blk, o', some (e.size, elem), q.tot, false⟩) h.next 0 (len + n) (len + n) ⟨q.blk, o', some (e.size, elem), q.tot, false⟩ o' cap' upd_self (Nat.le_refl _) (.inl rfl) hfit' (fun h => by cases h) (fun z hz => by cases hz; exact hroom), g', s'⟩
                      · -- a new row; the elder one is dropped all the same
                        obtain ⟨nc, ρ', w', hnc, run, rv, g', s'⟩ := growth (by omega)
                        have hb' := s'.ext _ _ hq
                        obtain ⟨g2, s2⟩ := step_kill g' hb' (b := b) (by
                          have : b < h.next := Nat.lt_of_not_le fun hx => by have := g.fresh b hx; rw [hget] at this; cases this
                          show b < h.next + 1; omega)
                        exact ⟨w', _, ρ', run, rv, g2, s'.trans g.fresh g'.fresh s2⟩
                    · cases hap
                · cases hap
              · cases hap
  · cases hap
end
end Go.Vi
namespace Go.Vi
variable {K : Known}
section
variable {P : Program} {E : Env} {ρ : Map}
theorem all_take {l : List Value} (h : l.all oneCell = true) (k : Nat) : (l.take k).all oneCell = true := by
  rw [List.all_eq_true] at h ⊢
  exact fun x hx => h x (List.mem_of_mem_take hx)
theorem copy_run (ko : TysOk P E) {h h' : Heap} {w : World} (g : Good K ρ h w) {ats : Array TypeId} {args : Array Value} {st rt : TypeId} {d x d' x' v : Value}
    (ha : ats[0]? = some st) (had : args[0]? = some d') (hax : args[1]? = some x') (hd : VRel ρ d d') (hx : VRel ρ x x') (hc : copyV E st d x h = some (v, h')) :
    ∃ w' v', (Builtin.copy_ ats rt args).run P w = .ok v' w' ∧ VRel ρ v v' ∧ Good K ρ h' w' ∧ Stp ρ h w ρ h' w' := by
  unfold copyV at hc
  replace hc := bind_some.1 hc; obtain ⟨i, hi, hc⟩ := hc
  split at hc
  · rename_i elem base dlen dcap hu
    replace hc := bind_some.1 hc; obtain ⟨e, he, hc⟩ := hc
    replace hc := bind_some.1 hc; obtain ⟨⟨n, l⟩, hsrc, hc⟩ := hc
    simp only at hc
    split at hc
    · cases hc
    · rename_i hcond
      simp only [Bool.or_eq_true, Bool.not_eq_true', ne_eq, not_or, Bool.not_eq_false] at hcond
      obtain ⟨⟨hsz, hln⟩, hone⟩ := hcond
      have hln : l.length = n * e.size := by simpa using hln
      obtain ⟨hlen, hfirst⟩ := src_run (P := P) g hx hsrc hln
      obtain ⟨new', hnew, rnew⟩ := hfirst (min n dlen) (Nat.min_le_left _ _)
      have head : ∀ (b' : Option Addr) (c' : Nat), d' = .slice b' dlen c' → (Builtin.copy_ ats rt args).run P w = (match b' with
          | some a => ((storeCells a new'.toList).run P w).andThen fun _ w => .ok (goInt (min n dlen : Nat)) w
          | none => .ok (goInt (min n dlen : Nat)) w) := by
        intro b' c' hd'
        subst hd'
        unfold Builtin.copy_
        have hmin : Nat.min n dlen = min n dlen := rfl
        simp only [ha, had, hax, Sem.run_bind, run_und (ko _ _ hi), hu, Result.andThen_ok, hlen, run_size (ko _ _ he), hmin, hnew]
        cases b' <;> simp
      split at hc
      · rename_i hk0
        cases hc
        have hnil : new' = #[] := by
          have h1 := rnew.1
          rw [hk0] at h1
          simp at h1
          exact Array.eq_empty_of_size_eq_zero h1.symm
        have hd2 := hd
        cases hd with
        | slice0 => exact ⟨w, _, by rw [head none 0 rfl], by rw [hk0]; exact .int _ _, g, .refl _ _ _⟩
        | sliceE a' => exact ⟨w, _, by rw [head _ _ rfl, hnil]; rfl, by rw [hk0]; exact .int _ _, g, .refl _ _ _⟩
        | slice b o _ _ q o' cap' hq hlc ho hcc hn hr =>
          refine ⟨w, _, by rw [head _ _ rfl, hnil]; rfl, by rw [hk0]; exact .int _ _, g, .refl _ _ _⟩
      · rename_i hk0
        split at hc
        · rename_i a
          replace hc := bind_some.1 hc; obtain ⟨h2, hw, hc⟩ := hc
          cases hc
          cases hd with
          | sliceE a' => omega
          | slice b o _ _ q o' cap' hq hlc ho hcc hn hr =>
            have ho : o' = q.base + o := by
              rcases ho with ho | ho
              · exact ho
              · omega
            obtain ⟨w', run, g', s'⟩ := wr_run (P := P) g (a := ⟨b, o, none⟩) hq hw rnew (all_take hone _) o' ho
            exact ⟨w', _, by rw [head _ _ rfl]; simp only [run, Result.andThen_ok]; rfl, .int _ _, g', s'⟩
        · cases hc
  · cases hc
theorem clear_run (ko : TysOk P E) {h h' : Heap} {w : World} (g : Good K ρ h w) {ats : Array TypeId} {args : Array Value} {st rt : TypeId} {x x' : Value}
    (ha : ats[0]? = some st) (hax : args[0]? = some x') (hx : VRel ρ x x') (hc : clearV E st x h = some h') :
    ∃ w', (Builtin.clear_ ats rt args).run P w = .ok (.tuple #[]) w' ∧ Good K ρ h' w' ∧ Stp ρ h w ρ h' w' := by
  unfold clearV at hc
  replace hc := bind_some.1 hc; obtain ⟨i, hi, hc⟩ := hc
  split at hc
  · rename_i elem a c hu
    cases hc
    refine ⟨w, ?_, g, .refl _ _ _⟩
    unfold Builtin.clear_
    cases hx <;> simp [ha, hax, run_und (ko _ _ hi), hu]
  · rename_i elem a n c hn0 hu
    replace hc := bind_some.1 hc; obtain ⟨e, he, hc⟩ := hc
    replace hc := bind_some.1 hc; obtain ⟨zl, hzl, hc⟩ := hc
    split at hc
    · rename_i hone
      unfold zeros at hzl
      replace hzl := bind_some.1 hzl; obtain ⟨z, hz, hzl⟩ := hzl
      split at hzl
      · rename_i hzs
        cases hzl
        cases hx with
        | sliceE a' => exact absurd rfl (fun h => hn0 h)
        | slice b o _ _ q o' cap' hq hlc ho hcc hn hr =>
          have ho : o' = q.base + o := by
            rcases ho with ho | ho
            · exact ho
            · exact absurd ho.1 (fun h => hn0 h)
          have hzr : VRels ρ (cellsOf z) z.cells.toList := (zero_rel (ρ := ρ) (ko _ _ he) hz).cells.1
          have hrow : VRels ρ (rep n (cellsOf z)) (Builtin.zeroCells z.cells n).toList := by
            have e1 : (Builtin.zeroCells z.cells n).toList = rep n (cellsOf z) := by
              unfold Builtin.zeroCells
              have : z.cells.size = (cellsOf z).length := by rw [cellsOf_eq]; simp
              rw [this]
              have := flat_range (cellsOf z) z.cells (cells_arr z) n
              rw [← this]
              congr 1
              simp only [cellsOf_eq, Array.length_toList]
            rw [e1]
            exact VRels.flatten_replicate n (by have := hzr; rw [cells_arr] at this; exact this)
          obtain ⟨w', run, g', s'⟩ := wr_run (P := P) g (a := ⟨b, o, none⟩) hq hc hrow hone o' ho
          refine ⟨w', ?_, g', s'⟩
          unfold Builtin.clear_
          simp only [ha, hax, Sem.run_bind, run_und (ko _ _ hi), hu, Result.andThen_ok]
          simp [run_zero (ko _ _ he) hz, run]
      · cases hzl
    · cases hc
  · cases hc
theorem find_at : ∀ (es : List MapEntry) (k : Value) (j n : Nat) (v : Value), findV k es n = some (some (j, v)) → n ≤ j ∧ ∃ e, es[j - n]? = some e ∧ keyEq k e.key = some true ∧ e.val = v := by
  intro es
  induction es with
  | nil => intro k j n v h; simp [findV] at h
  | cons e es ih =>
    intro k j n v h
    simp only [findV] at h
    split at h
    · rename_i hk
      cases h
      exact ⟨Nat.le_refl _, e, by simp, hk, rfl⟩
    · obtain ⟨h1, x, h2, h3, h4⟩ := ih k j (n + 1) v h
      refine ⟨by omega, x, ?_, h3, h4⟩
      rw [show j - n = (j - (n + 1)) + 1 by omega]
      simpa using h2
    · cases h
theorem setEntry_get : ∀ (es : List MapEntry) (i : Nat) (k v : Value) (j : Nat), (setEntry es i k v)[j]? = if j = i then (es[j]?).map (fun e => { e with key := k, val := v }) else es[j]? := by
  intro es
  induction es with
  | nil => intro i k v j; simp [setEntry]
  | cons e es ih =>
    intro i k v j
    cases i with
    | zero =>
      cases j with
      | zero => simp [setEntry]
      | succ j => simp [setEntry]
    | succ i =>
      cases j with
      | zero => simp [setEntry]
      | succ j => simp [setEntry, ih]
theorem setEntry_len : ∀ (es : List MapEntry) (i : Nat) (k v : Value), (setEntry es i k v).length = es.length := by
  intro es
  induction es with
  | nil => intro i k v; rfl
  | cons e es ih => intro i k v; cases i <;> simp [setEntry, ih]
theorem modify_rel {es : List MapEntry} {es' : Array MapEntry} (hr : MRel ρ es es'.toList) {i : Nat} {k k' v v' : Value} (hk : VRel ρ k k') (hv : VRel ρ v v') :
    MRel ρ (setEntry es i k v) (es'.modify i fun e => { e with key := k', val := v' }).toList := by
  refine ⟨by rw [setEntry_len, hr.1]; simp, fun j a b ha hb => ?_⟩
  rw [setEntry_get] at ha
  rw [Array.getElem?_toList, Array.getElem?_modify] at hb
  by_cases hj : j = i
  · rw [if_pos hj] at ha
    rw [if_pos hj.symm] at hb
    obtain ⟨x, hx, rfl⟩ := Option.map_eq_some_iff.1 ha
    obtain ⟨y, hy, rfl⟩ := Option.map_eq_some_iff.1 hb
    have := hr.2 j x y hx (by rw [Array.getElem?_toList]; exact hy)
    exact ⟨hk, hv, this.born⟩
  · rw [if_neg hj] at ha
    rw [if_neg (fun h => hj h.symm)] at hb
    exact hr.2 j a b ha (by rw [Array.getElem?_toList]; exact hb)
theorem push_rel {es : List MapEntry} {es' : Array MapEntry} (hr : MRel ρ es es'.toList) {k k' v v' : Value} {c : Nat} (hk : VRel ρ k k') (hv : VRel ρ v v') :
    MRel ρ (es ++ [{ key := k, val := v, born := c }]) (es'.push { key := k', val := v', born := c }).toList := by
  have hl := hr.1
  refine ⟨by simp at hl ⊢; exact hl, fun j a b ha hb => ?_⟩
  rw [Array.toList_push] at hb
  rw [List.getElem?_append] at ha hb
  by_cases hj : j < es.length
  · rw [if_pos hj] at ha; rw [if_pos (by omega)] at hb; exact hr.2 j a b ha hb
  · rw [if_neg hj] at ha; rw [if_neg (by omega)] at hb
    rw [show es'.toList.length = es.length by omega] at hb
    cases hq : j - es.length with
    | zero => rw [hq] at ha hb; simp at ha hb; subst ha; subst hb; exact ⟨hk, hv, rfl⟩
    | succ n => rw [hq] at ha; simp at ha
theorem erase_rel {es : List MapEntry} {es' : Array MapEntry} (hr : MRel ρ es es'.toList) (i : Nat) : MRel ρ (dropEntry es i) (es'.eraseIdxIfInBounds i).toList := by
  have hl := hr.1
  have e1 : (es'.eraseIdxIfInBounds i).toList = es'.toList.eraseIdx i := by
    unfold Array.eraseIdxIfInBounds
    split
    · simp
    · rename_i h; rw [List.eraseIdx_of_length_le (by simpa using h)]
  rw [e1]
  unfold dropEntry
  refine ⟨by rw [List.length_eraseIdx, List.length_eraseIdx, hl], fun j a b ha hb => ?_⟩
  rw [List.getElem?_eraseIdx] at ha hb
  split at ha
  · rename_i h; rw [if_pos h] at hb; exact hr.2 j a b ha hb
  · rename_i h; rw [if_neg h] at hb; exact hr.2 (j + 1) a b ha hb
theorem run_setObj_map {w : World} {r c : Nat} {es : Array MapEntry} (h : w.heap[r]? = some (.map es c)) (o : Obj) : (setObj r o).run P w = .ok () { w with heap := w.heap.setIfInBounds r o } := by
  simp [setObj, Sem.run, h]
theorem set_map {h : Heap} {w : World} (g : Good K ρ h w) {b : Nat} {i : Info} {es es2 : List MapEntry} {c c2 : Nat} {es2' : Array MapEntry} (hb : ρ b = some i) (hget : h.get b = some (.map es c)) (hr : MRel ρ es2 es2'.toList) :
    Good K ρ (h.set b (.map es2 c2)) { w with heap := w.heap.setIfInBounds i.blk (.map es2' c2) } ∧ Stp ρ h w ρ (h.set b (.map es2 c2)) { w with heap := w.heap.setIfInBounds i.blk (.map es2' c2) } := by
  have hlt := g.ltL hb (by rw [hget]; simp)
  refine step_set g hb (by rw [hget]; simp) ⟨by simp, rfl, rfl⟩ (fun r hr => ?_) ⟨es2', ?_, hr⟩ (g.toGood0.wr hb hget rfl)
  · show (w.heap.setIfInBounds i.blk _)[r]? = _
    rw [Array.getElem?_setIfInBounds_ne (Ne.symm hr)]
  · show (w.heap.setIfInBounds i.blk _)[i.blk]? = _
    simp [hlt]
theorem set_umap {h : Heap} {w : World} (g : Good K ρ h w) {b : Nat} {i : Info} {es es2 es3 : List MapEntry} {c2 : Nat} {es3' : Array MapEntry} (hb : ρ b = some i) (hget : h.get b = some (.umap es)) (u : UPerm es2 es3 c2) (hr : MRel ρ es3 es3'.toList) :
    Good K ρ (h.set b (.umap es2)) { w with heap := w.heap.setIfInBounds i.blk (.map es3' c2) } ∧ Stp ρ h w ρ (h.set b (.umap es2)) { w with heap := w.heap.setIfInBounds i.blk (.map es3' c2) } := by
  have hlt := g.ltL hb (by rw [hget]; simp)
  refine step_set g hb (by rw [hget]; simp) ⟨by simp, rfl, rfl⟩ (fun r hr => ?_) ⟨es3, c2, u, es3', ?_, hr⟩ (g.toGood0.wr hb hget rfl)
  · show (w.heap.setIfInBounds i.blk _)[r]? = _
    rw [Array.getElem?_setIfInBounds_ne (Ne.symm hr)]
  · show (w.heap.setIfInBounds i.blk _)[i.blk]? = _
    simp [hlt]
theorem umapOf_inv {h : Heap} {x : Value} {es : List MapEntry} (hm : umapOf h x = some es) : ∃ b, x = .map (some b) ∧ h.get b = some (.umap es) := by
  unfold umapOf at hm
  split at hm
  · split at hm
    · rename_i hg
      cases hm
      exact ⟨_, rfl, hg⟩
    · cases hm
  · cases hm
theorem stays {k k0 : Value} {d : TypeDesc} (hp : plainKey d k = true) (h : keyEq k k0 = some true) (w : World) : (Instr.keyThatStays k0 k).run P w = .ok k w := by
  have : Instr.sameBits 10000 k0 k = true := by
    cases d <;> cases k <;> simp [plainKey] at hp
    · cases k0 <;> simp [keyEq] at h
      obtain ⟨rfl, rfl⟩ := h
      simp [Instr.sameBits]
    · cases k0 <;> simp [keyEq] at h
      simp [Instr.sameBits, str_beq, h]
  simp [Instr.keyThatStays, this]
theorem keyEq_rel {k k0 k0' : Value} (h : keyEq k k0 = some true) (hr : VRel ρ k0 k0') : k0' = k0 := by
  unfold keyEq at h
  split at h
  · exact hr.int_inv
  · exact hr.string_inv
  · cases h
theorem mapPut_run (ko : TysOk P E) {h h' : Heap} {w : World} (g : Good K ρ h w) {t : TypeId} {m m' k k' v v' : Value} (hm : VRel ρ m m') (hk : VRel ρ k k') (hv : VRel ρ v v') (hp : mapPutV E t m k v h = some h') :
    ∃ w', (Instr.mapUpdate t m' k' v').run P w = .ok () w' ∧ Good K ρ h' w' ∧ Stp ρ h w ρ h' w' := by
  unfold mapPutV at hp
  replace hp := bind_some.1 hp; obtain ⟨i, hi, hp⟩ := hp
  split at hp
  · rename_i key et r hu
    replace hp := bind_some.1 hp; obtain ⟨ki, hki, hp⟩ := hp
    split at hp
    · cases hp
    · rename_i hpk
      have hpk : plainKey ki.under k = true := by simpa using hpk
      split at hp
      · rename_i es c hme
        obtain ⟨b, q, es', hb1, hb, hget, rfl, hw, hr⟩ := mapOf_run g hm hme
        cases hb1
        have hke := key_self hpk hk
        subst hke
        split at hp
        · rename_i j u hf
          cases hp
          obtain ⟨r', hr', hrel⟩ := find_run _ _ _ _ _ _ hr hpk hf
          cases r' with
          | none => exact hrel.elim
          | some p =>
            obtain ⟨j', u'⟩ := p
            obtain ⟨rfl, _⟩ := hrel
            obtain ⟨_, e, he, hek, _⟩ := find_at _ _ _ _ _ hf
            obtain ⟨g', s'⟩ := set_map g hb hget (modify_rel hr (i := j) hk hv) (c2 := c)
            refine ⟨_, ?_, g', s'⟩
            rw [Nat.sub_zero] at he
            have hlen : j < es'.size := by
              have := (List.getElem?_eq_some_iff.1 he).1
              have := hr.1
              simp at this; omega
            have he' : es'[j]? = some es'[j] := by simp [hlen]
            have hkk : es'[j].key = e.key := keyEq_rel hek (hr.2 j e _ he (by rw [Array.getElem?_toList]; exact he')).key
            unfold Instr.mapUpdate
            simp only [Sem.run_bind, run_und (ko _ _ hi), hu, Result.andThen_ok, run_getObj_map hw, check_run (ko _ _ hki) hpk, Instr.findKey, run_und (ko _ _ hki), hr', Sem.run_pure, he', Option.map_some, Option.getD_some, hkk, stays hpk hek, run_setObj_map hw]
        · rename_i hf
          cases hp
          obtain ⟨r', hr', hrel⟩ := find_run _ _ _ _ _ _ hr hpk hf
          cases r' with
          | some p => exact hrel.elim
          | none =>
            obtain ⟨g', s'⟩ := set_map g hb hget (push_rel hr hk hv (c := c)) (c2 := c + 1)
            refine ⟨_, ?_, g', s'⟩
            unfold Instr.mapUpdate
            simp only [Sem.run_bind, run_und (ko _ _ hi), hu, Result.andThen_ok, run_getObj_map hw, check_run (ko _ _ hki) hpk, Instr.findKey, run_und (ko _ _ hki), hr', Sem.run_pure, run_setObj_map hw]
        · cases hp
      · split at hp
        · rename_i es hum
          obtain ⟨b, hb1, hget⟩ := umapOf_inv hum
          cases hb1
          have hke := key_self hpk hk
          subst hke
          cases hm with
          | map _ q hb =>
          obtain ⟨es2, c, u, es', hw, hr⟩ := g.rel _ _ _ hb hget
          split at hp
          · rename_i j u0 hf
            cases hp
            rcases u.find hf with ⟨h0, _⟩ | ⟨j1, v1, j2, e, e2, h0, hej, he2, hkv, hek, hf2⟩
            · cases h0
            · cases h0
              obtain ⟨r', hr', hrel⟩ := find_run _ _ _ _ _ _ hr hpk hf2
              cases r' with
              | none => exact hrel.elim
              | some p =>
                obtain ⟨j', u'⟩ := p
                obtain ⟨rfl, _⟩ := hrel
                have hke2 := keyEq_true hek
                subst hke2
                obtain ⟨g', s'⟩ := set_umap g hb hget (u.set hej he2 hkv v) (modify_rel hr (i := j2) hk hv)
                refine ⟨_, ?_, g', s'⟩
                have hlen : j2 < es'.size := by
                  have := (List.getElem?_eq_some_iff.1 he2).1
                  have := hr.1
                  simp at this; omega
                have he' : es'[j2]? = some es'[j2] := by simp [hlen]
                have hek2 : keyEq e.key e2.key = some true := by rw [← show e.key = e2.key from congrArg Prod.fst hkv]; exact hek
                have hkk : es'[j2].key = e2.key := keyEq_rel hek2 (hr.2 j2 e2 _ he2 (by rw [Array.getElem?_toList]; exact he')).key
                unfold Instr.mapUpdate
                simp only [Sem.run_bind, run_und (ko _ _ hi), hu, Result.andThen_ok, run_getObj_map hw, check_run (ko _ _ hki) hpk, Instr.findKey, run_und (ko _ _ hki), hr', Sem.run_pure, he', Option.map_some, Option.getD_some, hkk, stays hpk hek2, run_setObj_map hw]
          · rename_i hf
            cases hp
            rcases u.find hf with ⟨_, hf2, hne⟩ | ⟨j1, v1, j2, e, e2, h0, _⟩
            · obtain ⟨r', hr', hrel⟩ := find_run _ _ _ _ _ _ hr hpk hf2
              cases r' with
              | some p => exact hrel.elim
              | none =>
                obtain ⟨g', s'⟩ := set_umap g hb hget (u.push v hne) (push_rel hr hk hv (c := c))
                refine ⟨_, ?_, g', s'⟩
                unfold Instr.mapUpdate
                simp only [Sem.run_bind, run_und (ko _ _ hi), hu, Result.andThen_ok, run_getObj_map hw, check_run (ko _ _ hki) hpk, Instr.findKey, run_und (ko _ _ hki), hr', Sem.run_pure, run_setObj_map hw]
            · cases h0
          · cases hp
        · cases hp
  · cases hp
theorem modify_key {es' : Array MapEntry} {j : Nat} {k : Value} (hj : j < es'.size) : (es'.modify j fun e => { e with key := k }) = es'.modify j fun e => { e with key := k, val := (es'[j]).val } := by
  apply Array.ext_getElem?
  intro n
  rw [Array.getElem?_modify, Array.getElem?_modify]
  split
  · rename_i h; subst h; simp [hj]
  · rfl
theorem mapEntry_run (ko : TysOk P E) {h h' : Heap} {w : World} (g : Good K ρ h w) {t : TypeId} {m m' k k' v : Value} (hm : VRel ρ m m') (hk : VRel ρ k k') (hp : mapEntryV E t m k h = some (v, h')) :
    ∃ w' v', (Instr.mapEntry t m' k').run P w = .ok v' w' ∧ VRel ρ v v' ∧ Good K ρ h' w' ∧ Stp ρ h w ρ h' w' := by
  unfold mapEntryV at hp
  replace hp := bind_some.1 hp; obtain ⟨i, hi, hp⟩ := hp
  split at hp
  · rename_i key et r hu
    replace hp := bind_some.1 hp; obtain ⟨ki, hki, hp⟩ := hp
    replace hp := bind_some.1 hp; obtain ⟨e, he, hp⟩ := hp
    replace hp := bind_some.1 hp; obtain ⟨⟨es, c⟩, hme, hp⟩ := hp
    simp only at hp
    split at hp
    · cases hp
    · rename_i hpk
      have hpk : plainKey ki.under k = true := by simpa using hpk
      obtain ⟨b, q, es', hb1, hb, hget, rfl, hw, hr⟩ := mapOf_run g hm hme
      cases hb1
      have hke := key_self hpk hk
      subst hke
      split at hp
      · rename_i j u hf
        replace hp := bind_some.1 hp; obtain ⟨x, hx, hp⟩ := hp
        cases hp
        obtain ⟨r', hr', hrel⟩ := find_run _ _ _ _ _ _ hr hpk hf
        cases r' with
        | none => exact hrel.elim
        | some p =>
          obtain ⟨j', u'⟩ := p
          obtain ⟨rfl, hu'⟩ := hrel
          obtain ⟨_, y, hy, hek, hyv⟩ := find_at _ _ _ _ _ hf
          rw [Nat.sub_zero, hx] at hy
          cases hy
          have hlen : j < es'.size := by
            have := (List.getElem?_eq_some_iff.1 hx).1
            have := hr.1
            simp at this; omega
          have he' : es'[j]? = some es'[j] := by simp [hlen]
          have hent := hr.2 j x _ hx (by rw [Array.getElem?_toList]; exact he')
          have hkk : es'[j].key = x.key := keyEq_rel hek hent.key
          obtain ⟨g', s'⟩ := set_map g hb hget (modify_rel hr (i := j) hk (hyv ▸ hent.val)) (c2 := c)
          rw [← modify_key hlen] at g' s'
          refine ⟨_, _, ?_, VRel.tuple' (VRels.cons hu' (VRels.cons (.int .i64 x.born) VRels.nil)), g', s'⟩
          unfold Instr.mapEntry
          simp only [Sem.run_bind, run_und (ko _ _ hi), hu, Result.andThen_ok, run_getObj_map hw, check_run (ko _ _ hki) hpk, Instr.findKey, run_und (ko _ _ hki), hr', Sem.run_pure, he', Option.map_some, Option.getD_some, hkk, stays hpk hek, run_setObj_map hw, hent.born, goInt]
      · rename_i hf
        replace hp := bind_some.1 hp; obtain ⟨z, hz, hp⟩ := hp
        cases hp
        obtain ⟨r', hr', hrel⟩ := find_run _ _ _ _ _ _ hr hpk hf
        cases r' with
        | some p => exact hrel.elim
        | none =>
          have hzr := zero_rel (ρ := ρ) (ko _ _ he) hz
          obtain ⟨g', s'⟩ := set_map g hb hget (push_rel hr hk hzr (c := c)) (c2 := c + 1)
          refine ⟨_, _, ?_, VRel.tuple' (VRels.cons hzr (VRels.cons (.int .i64 c) VRels.nil)), g', s'⟩
          unfold Instr.mapEntry
          simp only [Sem.run_bind, run_und (ko _ _ hi), hu, Result.andThen_ok, run_getObj_map hw, check_run (ko _ _ hki) hpk, Instr.findKey, run_und (ko _ _ hki), hr', Sem.run_pure, run_setObj_map hw, run_zero (ko _ _ he) hz, goInt]
      · cases hp
  · cases hp
theorem stamp_run : ∀ (es es' : List MapEntry) (n : Int) (k j : Nat), MRel ρ es es' → stampAt n es k = some j → k ≤ j ∧ es'.findIdx? (fun e => (e.born : Int) == n) = some (j - k) := by
  intro es
  induction es with
  | nil => intro es' n k j _ h; simp [stampAt] at h
  | cons e es ih =>
    intro es' n k j hm h
    cases es' with
    | nil => have := hm.1; simp at this
    | cons e' es' =>
      have h0 := hm.2 0 e e' rfl rfl
      have hm' : MRel ρ es es' := ⟨by simpa using hm.1, fun j a b ha hb => hm.2 (j + 1) a b (by simpa using ha) (by simpa using hb)⟩
      unfold stampAt at h
      rw [List.findIdx?_cons]
      split at h
      · rename_i hz
        cases h
        rw [h0.born] at hz
        rw [hz]
        exact ⟨Nat.le_refl _, by simp⟩
      · rename_i hz
        rw [h0.born] at hz
        obtain ⟨h1, h2⟩ := ih es' n (k + 1) j hm' h
        rw [Bool.not_eq_true] at hz
        rw [hz, h2]
        refine ⟨by omega, ?_⟩
        simp only [Option.map_some, Bool.false_eq_true, if_false]
        congr 1; omega
theorem modify_val {es' : Array MapEntry} {j : Nat} {v : Value} (hj : j < es'.size) : (es'.modify j fun e => { e with val := v }) = es'.modify j fun e => { e with key := (es'[j]).key, val := v } := by
  apply Array.ext_getElem?
  intro n
  rw [Array.getElem?_modify, Array.getElem?_modify]
  split
  · rename_i h; subst h; simp [hj]
  · rfl
theorem entryStore_run {h h' : Heap} {w : World} (g : Good K ρ h w) {t : TypeId} {m m' k k' v v' : Value} (hm : VRel ρ m m') (hk : VRel ρ k k') (hv : VRel ρ v v') (hp : entryStoreV m k v h = some h') :
    ∃ w', (Instr.entryStore t m' k' v').run P w = .ok () w' ∧ Good K ρ h' w' ∧ Stp ρ h w ρ h' w' := by
  unfold entryStoreV at hp
  split at hp
  · rename_i r
    replace hp := bind_some.1 hp; obtain ⟨⟨es, c⟩, hme, hp⟩ := hp
    replace hp := bind_some.1 hp; obtain ⟨n, hn, hp⟩ := hp
    replace hp := bind_some.1 hp; obtain ⟨j, hj, hp⟩ := hp
    replace hp := bind_some.1 hp; obtain ⟨x, hx, hp⟩ := hp
    cases hp
    obtain ⟨b, q, es', hb1, hb, hget, rfl, hw, hr⟩ := mapOf_run g hm hme
    cases hb1
    obtain ⟨kk, rfl, rfl⟩ := intOf_inv hk hn
    obtain ⟨_, hs⟩ := stamp_run _ _ _ _ _ hr hj
    rw [Nat.sub_zero] at hs
    have hlen : j < es'.size := by
      have := (List.getElem?_eq_some_iff.1 hx).1
      have := hr.1
      simp at this; omega
    have he' : es'[j]? = some es'[j] := by simp [hlen]
    have hent := hr.2 j x _ hx (by rw [Array.getElem?_toList]; exact he')
    obtain ⟨g', s'⟩ := set_map g hb hget (modify_rel hr (i := j) hent.key hv) (c2 := c)
    rw [← modify_val hlen] at g' s'
    refine ⟨_, ?_, g', s'⟩
    have hs' : es'.findIdx? (fun e => (e.born : Int) == n) = some j := by
      obtain ⟨l⟩ := es'
      simpa using hs
    unfold Instr.entryStore
    simp only [Sem.run_bind, Result.andThen_ok, run_getObj_map hw, Sem.run_pure, asInt, asIntOf, hs', run_setObj_map hw]
  · cases hp
theorem delete_run (ko : TysOk P E) {h h' : Heap} {w : World} (g : Good K ρ h w) {ats : Array TypeId} {args : Array Value} {t rt : TypeId} {m m' k k' : Value}
    (ha : ats[0]? = some t) (ham : args[0]? = some m') (hak : args[1]? = some k') (hm : VRel ρ m m') (hk : VRel ρ k k') (hp : deleteV E t m k h = some h') :
    ∃ w', (Builtin.delete_ ats rt args).run P w = .ok (.tuple #[]) w' ∧ Good K ρ h' w' ∧ Stp ρ h w ρ h' w' := by
  unfold deleteV at hp
  replace hp := bind_some.1 hp; obtain ⟨i, hi, hp⟩ := hp
  split at hp
  · rename_i key et hu
    replace hp := bind_some.1 hp; obtain ⟨ki, hki, hp⟩ := hp
    split at hp
    · rename_i hpk
      cases hp
      have hke := key_self hpk hk
      subst hke
      cases hm
      refine ⟨w, ?_, g, .refl _ _ _⟩
      unfold Builtin.delete_
      simp [ha, ham, hak, run_und (ko _ _ hi), hu, check_run (ko _ _ hki) hpk]
    · cases hp
  · rename_i key et r hu
    replace hp := bind_some.1 hp; obtain ⟨ki, hki, hp⟩ := hp
    split at hp
    · cases hp
    · rename_i hpk
      have hpk : plainKey ki.under k = true := by simpa using hpk
      split at hp
      · rename_i es c hme
        obtain ⟨b, q, es', hb1, hb, hget, rfl, hw, hr⟩ := mapOf_run g hm hme
        cases hb1
        have hke := key_self hpk hk
        subst hke
        split at hp
        · rename_i j u hf
          cases hp
          obtain ⟨r', hr', hrel⟩ := find_run _ _ _ _ _ _ hr hpk hf
          cases r' with
          | none => exact hrel.elim
          | some p =>
            obtain ⟨j', u'⟩ := p
            obtain ⟨rfl, _⟩ := hrel
            obtain ⟨g', s'⟩ := set_map g hb hget (erase_rel hr j) (c2 := c)
            refine ⟨_, ?_, g', s'⟩
            unfold Builtin.delete_
            simp [ha, ham, hak, run_und (ko _ _ hi), hu, run_getObj_map hw, check_run (ko _ _ hki) hpk, Instr.findKey, run_und (ko _ _ hki), hr', run_setObj_map hw]
        · rename_i hf
          cases hp
          obtain ⟨r', hr', hrel⟩ := find_run _ _ _ _ _ _ hr hpk hf
          cases r' with
          | some p => exact hrel.elim
          | none =>
            obtain ⟨g', s'⟩ := set_map g hb hget hr (c2 := c)
            refine ⟨_, ?_, g', s'⟩
            unfold Builtin.delete_
            simp [ha, ham, hak, run_und (ko _ _ hi), hu, run_getObj_map hw, check_run (ko _ _ hki) hpk, Instr.findKey, run_und (ko _ _ hki), hr', run_setObj_map hw]
        · cases hp
      · split at hp
        · rename_i es hum
          obtain ⟨b, hb1, hget⟩ := umapOf_inv hum
          cases hb1
          have hke := key_self hpk hk
          subst hke
          cases hm with
          | map _ q hb =>
          obtain ⟨es2, c, u, es', hw, hr⟩ := g.rel _ _ _ hb hget
          split at hp
          · rename_i j u0 hf
            cases hp
            rcases u.find hf with ⟨h0, _⟩ | ⟨j1, v1, j2, e, e2, h0, hej, he2, hkv, hek, hf2⟩
            · cases h0
            · cases h0
              obtain ⟨r', hr', hrel⟩ := find_run _ _ _ _ _ _ hr hpk hf2
              cases r' with
              | none => exact hrel.elim
              | some p =>
                obtain ⟨j', u'⟩ := p
                obtain ⟨rfl, _⟩ := hrel
                obtain ⟨g', s'⟩ := set_umap g hb hget (u.drop hej he2 hkv) (erase_rel hr j2)
                refine ⟨_, ?_, g', s'⟩
                unfold Builtin.delete_
                simp [ha, ham, hak, run_und (ko _ _ hi), hu, run_getObj_map hw, check_run (ko _ _ hki) hpk, Instr.findKey, run_und (ko _ _ hki), hr', run_setObj_map hw]
          · rename_i hf
            cases hp
            rcases u.find hf with ⟨_, hf2, hne⟩ | ⟨j1, v1, j2, e, e2, h0, _⟩
            · obtain ⟨r', hr', hrel⟩ := find_run _ _ _ _ _ _ hr hpk hf2
              cases r' with
              | some p => exact hrel.elim
              | none =>
                obtain ⟨g', s'⟩ := set_umap g hb hget u hr
                refine ⟨_, ?_, g', s'⟩
                unfold Builtin.delete_
                simp [ha, ham, hak, run_und (ko _ _ hi), hu, run_getObj_map hw, check_run (ko _ _ hki) hpk, Instr.findKey, run_und (ko _ _ hki), hr', run_setObj_map hw]
            · cases h0
          · cases hp
        · cases hp
  · cases hp
end
end Go.Vi
