/- Vi14c: facts on the rows of states; facts on plans and on what has been carried out. -/
import Derived.Test.YtdbicjhpgofpiaaGreatDoorVi14b
namespace Go.Vi
section
variable {P : Program} {E : Env} {call : CallV} {ops : Array Oper} {T : Nat → Tmps} {H : Nat → Heap} {V : Nat → Value} {D : List Deferred} {rd : Option Nat}

/-- an operation that makes a block. -/
def Al (E : Env) (ops : Array Oper) (T : Nat → Tmps) (H : Nat → Heap) (j : Nat) (b : Blk) : Prop :=
  ∃ o m, ops[j]? = some o ∧ heavyOp o = false ∧ wantedV ops o (T j) = true ∧ pureV E (evV (T j)) o = none ∧ readV E (evV (T j)) (H j) o = none ∧ newV E (evV (T j)) o = some (b, m)
theorem Al.uniq {j : Nat} {b c : Blk} (h : Al E ops T H j b) (k : Al E ops T H j c) : b = c := by
  obtain ⟨o, m, h1, _, _, _, _, h2⟩ := h
  obtain ⟨o', m', k1, _, _, _, _, k2⟩ := k
  rw [h1] at k1; cases k1
  rw [h2] at k2; cases k2; rfl
theorem light_step (tr : Tr E call ops 0 T H V) {j : Nat} {o : Oper} (ho : ops[j]? = some o) (hl : heavyOp o = false) :
    H (j + 1) = H j ∨ ∃ b, Al E ops T H j b ∧ H (j + 1) = (H j).new b := by
  by_cases hw : wantedV ops o (T j) = true
  · have hs := tr.run j o (Nat.zero_le _) ho hw
    unfold stepV at hs
    simp only at hs
    split at hs
    · simp only [Option.some.injEq, Prod.mk.injEq] at hs; exact .inl hs.2.symm
    · rename_i hp
      split at hs
      · simp only [Option.some.injEq, Prod.mk.injEq] at hs; exact .inl hs.2.symm
      · rename_i hr
        split at hs
        · rename_i b m hn
          simp only [Option.some.injEq, Prod.mk.injEq] at hs
          exact .inr ⟨b, ⟨o, m, ho, hl, hw, hp, hr, hn⟩, hs.2.symm⟩
        · rw [heavy_no hl] at hs; cases hs
  · exact .inl (tr.off j o (Nat.zero_le _) ho (by simpa using hw)).2
theorem al_step (tr : Tr E call ops 0 T H V) {j : Nat} {b : Blk} (h : Al E ops T H j b) : H (j + 1) = (H j).new b ∧ ∃ o m, ops[j]? = some o ∧ newV E (evV (T j)) o = some (b, m) ∧ V j = m.val (H j).next := by
  obtain ⟨o, m, ho, hl, hw, hp, hr, hn⟩ := h
  have hs := tr.run j o (Nat.zero_le _) ho hw
  unfold stepV at hs
  simp only [hp, hr, hn, Option.some.injEq, Prod.mk.injEq] at hs
  exact ⟨hs.2.symm, o, m, ho, hn, hs.1.symm⟩
theorem next_step (rk : RowOk P E) (ck : CallOk P call) (tr : Tr E call ops 0 T H V) {j : Nat} {o : Oper} (ho : ops[j]? = some o) : (H j).next ≤ (H (j + 1)).next := by
  by_cases hw : wantedV ops o (T j) = true
  · exact stepV_next rk ck (tr.run j o (Nat.zero_le _) ho hw)
  · rw [(tr.off j o (Nat.zero_le _) ho (by simpa using hw)).2]; exact Nat.le_refl _
theorem next_mono (rk : RowOk P E) (ck : CallOk P call) (tr : Tr E call ops 0 T H V) {i : Nat} : ∀ (d : Nat), i + d ≤ ops.size → (H i).next ≤ (H (i + d)).next := by
  intro d
  induction d with
  | zero => intro _; exact Nat.le_refl _
  | succ d ih =>
    intro h
    have h1 := ih (by omega)
    have h2 := next_step rk ck tr (j := i + d) (o := ops[i + d]'(by omega)) (Array.getElem?_eq_getElem (by omega))
    exact Nat.le_trans h1 h2
theorem next_le' (rk : RowOk P E) (ck : CallOk P call) (tr : Tr E call ops 0 T H V) {i j : Nat} (h : i ≤ j) (hj : j ≤ ops.size) : (H i).next ≤ (H j).next := by
  have := next_mono rk ck tr (i := i) (j - i) (by omega)
  rw [show i + (j - i) = j by omega] at this
  exact this
/-- a row of light operations. -/
theorem light_seg (rk : RowOk P E) (ck : CallOk P call) (tr : Tr E call ops 0 T H V) {i : Nat} (hf : ∀ b, (H i).next ≤ b → (H i).get b = none) : ∀ (d : Nat), i + d ≤ ops.size → (∀ m, i ≤ m → m < i + d → heavyAt ops m = false) →
    (∀ b, b < (H i).next → (H (i + d)).get b = (H i).get b) ∧ (∀ b, (H (i + d)).next ≤ b → (H (i + d)).get b = none) ∧
    (∀ m b, i ≤ m → m < i + d → Al E ops T H m b → (H (i + d)).get (H m).next = some b) ∧
    (∀ b, (H i).next ≤ b → (H (i + d)).get b ≠ none → ∃ m c, i ≤ m ∧ m < i + d ∧ Al E ops T H m c ∧ b = (H m).next) := by
  intro d
  induction d with
  | zero => intro _ _; exact ⟨fun _ _ => rfl, hf, fun m b h1 h2 => by omega, fun b h1 h2 => absurd (hf b h1) h2⟩
  | succ d ih =>
    intro hd hl
    obtain ⟨q1, q2, q3, q4⟩ := ih (by omega) (fun m h1 h2 => hl m h1 (by omega))
    have hlt : i + d < ops.size := by omega
    have ho : ops[i + d]? = some ops[i + d] := Array.getElem?_eq_getElem hlt
    have hh : heavyOp ops[i + d] = false := by
      have := hl (i + d) (by omega) (by omega)
      unfold heavyAt at this
      rw [ho] at this; exact this
    have hn := next_le' rk ck tr (i := i) (j := i + d) (by omega) (by omega)
    rcases light_step tr ho hh with he | ⟨b, hal, he⟩
    · rw [show i + (d + 1) = i + d + 1 by omega, he]
      refine ⟨q1, q2, fun m c h1 h2 ha => ?_, fun c h1 h2 => ?_⟩
      · by_cases hm : m = i + d
        · subst hm
          have := (al_step tr ha).1
          rw [he] at this
          have := congrArg Heap.next this
          simp [Heap.new] at this
        · exact q3 m c h1 (by omega) ha
      · obtain ⟨m, x, h3, h4, h5, h6⟩ := q4 c h1 h2
        exact ⟨m, x, h3, by omega, h5, h6⟩
    · rw [show i + (d + 1) = i + d + 1 by omega, he]
      refine ⟨fun c hc => by rw [get_new, if_neg (by omega)]; exact q1 c hc, fun c hc => ?_, fun m c h1 h2 ha => ?_, fun c h1 h2 => ?_⟩
      · have hc' : (H (i + d)).next + 1 ≤ c := hc
        rw [get_new, if_neg (by omega)]; exact q2 c (by omega)
      · by_cases hm : m = i + d
        · subst hm
          rw [get_new, if_pos rfl, ha.uniq hal]
        · have h3 := q3 m c h1 (by omega) ha
          have : (H m).next ≠ (H (i + d)).next := by
            intro hx
            rw [hx, q2 _ (Nat.le_refl _)] at h3; cases h3
          rw [get_new, if_neg this]; exact h3
      · rw [get_new] at h2
        by_cases hc : c = (H (i + d)).next
        · exact ⟨i + d, b, by omega, by omega, hal, hc⟩
        · rw [if_neg hc] at h2
          obtain ⟨m, x, h3, h4, h5, h6⟩ := q4 c h1 h2
          exact ⟨m, x, h3, by omega, h5, h6⟩

/-! ## Slots -/
def SlotIs (ops : Array Oper) (T : Nat → Tmps) (V : Nat → Value) (S : Nat → Prop) (d : Nat) (x : Value) : Prop :=
  (∃ j o, S j ∧ ops[j]? = some o ∧ o.dst = some d ∧ (∀ j' o', S j' → ops[j']? = some o' → o'.dst = some d → j' ≤ j) ∧ x = V j) ∨
  ((∀ j o, S j → ops[j]? = some o → o.dst ≠ some d) ∧ x = (T 0).getD d undef)
theorem SlotIs.uniq {S S' : Nat → Prop} {d : Nat} {x y : Value} (h : SlotIs ops T V S d x) (k : SlotIs ops T V S' d y) (hs : ∀ (j : Nat) o, ops[j]? = some o → o.dst = some d → (S j ↔ S' j)) : x = y := by
  rcases h with ⟨j, o, h1, h2, h3, h4, rfl⟩ | ⟨h1, rfl⟩
  · rcases k with ⟨j', o', k1, k2, k3, k4, rfl⟩ | ⟨k1, rfl⟩
    · have e1 := k4 j o ((hs j o h2 h3).1 h1) h2 h3
      have e2 := h4 j' o' ((hs j' o' k2 k3).2 k1) k2 k3
      rw [show j = j' by omega]
    · exact absurd h3 (k1 j o ((hs j o h2 h3).1 h1) h2)
  · rcases k with ⟨j', o', k1, k2, k3, k4, rfl⟩ | ⟨k1, rfl⟩
    · exact absurd k3 (h1 j' o' ((hs j' o' k2 k3).2 k1) k2)
    · rfl
theorem T_len (tr : Tr E call ops 0 T H V) : ∀ j, j ≤ ops.size → (T j).length = (T 0).length := by
  intro j
  induction j with
  | zero => intro _; rfl
  | succ j ih =>
    intro h
    rw [tr.tm j ops[j] (Nat.zero_le _) (Array.getElem?_eq_getElem (by omega))]
    unfold putV
    split
    · rw [List.length_set]; exact ih (by omega)
    · exact ih (by omega)
theorem putV_getD {t : Tmps} {dd : Option Tmp} {v : Value} {d : Nat} (hd : d < List.length t) : (putV t dd v).getD d undef = if dd = some d then v else t.getD d undef := by
  cases dd with
  | none => simp [putV]
  | some e =>
    simp only [putV, Option.some.injEq]
    rw [List.getD_eq_getElem?_getD, List.getElem?_set]
    by_cases he : e = d
    · subst he
      rw [if_pos rfl, if_pos hd, if_pos rfl]; rfl
    · rw [if_neg he, if_neg he, ← List.getD_eq_getElem?_getD]
theorem slot_put {S : Nat → Prop} {t : Tmps} {j : Nat} {o : Oper} (ho : ops[j]? = some o) (hj : ¬ S j) {d : Nat} (hd : d < List.length t) (hlast : ∀ j' o', S j' → ops[j']? = some o' → o'.dst = o.dst → o.dst = some d → j' ≤ j)
    (h : SlotIs ops T V S d (t.getD d undef)) : SlotIs ops T V (fun i => S i ∨ i = j) d ((putV t o.dst (V j)).getD d undef) := by
  rw [putV_getD hd]
  by_cases he : o.dst = some d
  · rw [if_pos he]
    refine .inl ⟨j, o, .inr rfl, ho, he, fun j' o' h1 h2 h3 => ?_, rfl⟩
    rcases h1 with h1 | h1
    · exact hlast j' o' h1 h2 (by rw [h3, he]) he
    · omega
  · rw [if_neg he]
    rcases h with ⟨i, x, h1, h2, h3, h4, h5⟩ | ⟨h1, h2⟩
    · refine .inl ⟨i, x, .inl h1, h2, h3, fun j' o' k1 k2 k3 => ?_, h5⟩
      rcases k1 with k1 | k1
      · exact h4 j' o' k1 k2 k3
      · subst k1; rw [ho] at k2; cases k2; exact absurd k3 he
    · refine .inr ⟨fun i x k1 k2 k3 => ?_, h2⟩
      rcases k1 with k1 | k1
      · exact h1 i x k1 k2 k3
      · subst k1; rw [ho] at k2; cases k2; exact absurd k3 he
theorem slot_text (tr : Tr E call ops 0 T H V) {d : Nat} (hd : d < (T 0).length) : ∀ j, j ≤ ops.size → SlotIs ops T V (· < j) d ((T j).getD d undef) := by
  intro j
  induction j with
  | zero => intro _; exact .inr ⟨fun j o h => by omega, rfl⟩
  | succ j ih =>
    intro h
    have ho : ops[j]? = some ops[j] := Array.getElem?_eq_getElem (by omega)
    rw [tr.tm j _ (Nat.zero_le _) ho]
    have := slot_put (S := (· < j)) (t := T j) ho (by omega) (d := d) (by rw [T_len tr j (by omega)]; exact hd) (fun j' o' h1 _ _ _ => by omega) (ih (by omega))
    have e : (fun i => i < j ∨ i = j) = (fun i => i < j + 1) := by
      funext i; exact propext ⟨fun h => by omega, fun h => by omega⟩
    rw [e] at this
    exact this

/-! ## Plans -/
structure PlanIs (ops : Array Oper) (p : Plan) : Prop where
  chain : chainOk (befores ops) (hidx ops) = true
  slots : slotsOk ops (befores ops) = true
  edges : edgesOk ops = true
  guards : guardsOk ops (befores ops) = true
  lo : p.lo = (List.range ops.size).map fun j => ((hidx ops).filter fun c => ((befores ops).getD j 0).testBit c).length
  hi : p.hi = (List.range ops.size).map fun j => ((hidx ops).takeWhile fun c => !((befores ops).getD c 0).testBit j).length
theorem plan_is {p : Plan} (h : mkPlan ops = some p) : PlanIs ops p := by
  unfold mkPlan at h
  simp only at h
  split at h
  · rename_i hc
    cases h
    simp only [Bool.and_eq_true] at hc
    exact ⟨hc.1.1.1, hc.1.1.2, hc.1.2, hc.2, rfl, rfl⟩
  · cases h
theorem slots_of {p : Plan} (pi : PlanIs ops p) {j i : Nat} {o x : Oper} (ho : ops[j]? = some o) (hx : ops[i]? = some x) {d : Tmp} (hd : x.dst = some d) (hm : d ∈ tmpsOf ops o ∨ o.dst = some d) :
    i = j ∨ ((befores ops).getD j 0).testBit i = true ∨ ((befores ops).getD i 0).testBit j = true := by
  have := pi.slots
  unfold slotsOk at this
  simp only at this
  rw [List.all_eq_true] at this
  have mem : ∀ {j : Nat} {o : Oper}, ops[j]? = some o → (o, j) ∈ ops.toList.zipIdx := by
    intro j o h
    rw [List.mem_iff_getElem?]
    exact ⟨j, by rw [List.getElem?_zipIdx, Array.getElem?_toList, h]; simp⟩
  have h1 := this (o, j) (mem ho)
  simp only at h1
  rw [List.all_eq_true] at h1
  have h2 := h1 (x, i) (mem hx)
  simp only [hd, Bool.or_eq_true, beq_iff_eq, Bool.and_eq_true, Bool.not_eq_true', bne_iff_ne, ne_eq] at h2
  rcases h2 with ((h2 | h2) | h2) | h2
  · exact .inl h2
  · rcases hm with hm | hm
    · have := List.contains_iff_mem.2 hm
      rw [this] at h2; simp at h2
    · exact absurd hm h2.2
  · exact .inr (.inl h2)
  · exact .inr (.inr h2)

/-! ## What has been carried out -/
def Lst (listed : Array Bool) (j : Nat) : Prop := listed[j]? = some true
def DownC (ops : Array Oper) (L : Nat → Prop) : Prop := ∀ j o, L j → ops[j]? = some o → ∀ e ∈ o.after.toList, Region.binds .any e = true → L e.on
theorem down_bit {L : Nat → Prop} (he : edgesOk ops = true) (hd : DownC ops L) : ∀ (j i : Nat), (∀ o, ops[j]? = some o → ∀ e ∈ o.after.toList, Region.binds .any e = true → L e.on) → ((befores ops).getD j 0).testBit i = true → L i := by
  intro j
  induction j using Nat.strongRecOn with
  | _ j ih =>
    intro i hj h
    by_cases hlt : j < ops.size
    · have ho : ops[j]? = some ops[j] := Array.getElem?_eq_getElem hlt
      obtain ⟨e, hm, hb, hl, h⟩ := (befores_bit ops ho he i).1 h
      have hle := hj _ ho e hm hb
      rcases h with rfl | h
      · exact hle
      · exact ih e.on hl i (fun o' ho' e' hm' hb' => hd _ o' hle ho' e' hm' hb') h
    · rw [befores_out ops (by omega)] at h; simp at h
end
end Go.Vi
