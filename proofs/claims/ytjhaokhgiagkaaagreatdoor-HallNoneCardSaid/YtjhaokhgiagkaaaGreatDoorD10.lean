/- D10: data, cut into rows. -/
import Derived.Test.YtjhaokhgiagkaaaGreatDoorD9
open Go Go.Vi Go.Bm
namespace Go.Proofs.YtjhaokhgiagkaaaGreatDoor.C
set_option linter.unusedSimpArgs false
set_option maxRecDepth 100000
set_option maxHeartbeats 40000000
theorem okSrc_rows : okSrc E (some t_s_s_uint8) = some true := by kernel_rfl
def RowsAt (h0 h : Heap) (v : Value) (ps : List (List UInt8)) : Prop := ∃ qs : List (Value × List UInt8), Own h0 h 1 t_s_uint8 v (qs.map (·.1)) ∧ qs.map (·.2) = ps ∧ ∀ q ∈ qs, BRow h q.1 q.2 ∧ ∀ b, blkOf q.1 = some b → h0.next ≤ b ∧ b < h.next ∧ blkOf v ≠ some b
theorem RowV.keepL {h h' : Heap} {z c : Nat} {d : Value} {l : List Value} {r : _} (x : RowV h z d l) (hc : h.get c = some (.loop r)) (hn : h.next ≤ h'.next) (g : ∀ b, b ≠ c → h'.get b = h.get b) : RowV h' z d l := by
  rcases x with x | ⟨b2, o2, n, k, row, w, p, hb2, e, hnc, hl, hg2, h1⟩
  · exact .inl x
  · exact .inr ⟨b2, o2, n, k, row, w, p, by omega, e, hnc, hl, (g b2 fun e => by rw [e, hc] at hg2; cases hg2).trans hg2, h1⟩
theorem parts_ok (h : Heap) (d : Value) (data : List UInt8) (hd : BRow h d data) (hc : Cut1 h d) (hl : data.length ≤ 100000000) (hlt : ∀ b, blkOf d = some b → b < h.next) :
    Ret E f_box_Parts [d] h fun v h' => Grow h h' ∧ RowsAt h h' v ((List.range ((data.length + 105) / 106)).map (piece data)) := by
  refine ret_fun is_box_Parts (by simp) ?_
  unfold g_box_Parts
  have hone := hd.one
  simp (maxSteps := 10000000) (disch := omega) only [vq0, vq1, vq2, vq3, vq4, vq5, tagOf, reduceIte, reduceCtorEq, Nat.reduceEqDiff, Nat.reduceAdd, Nat.reduceSub, Nat.reduceMul, Nat.reduceLT, Nat.reduceLeDiff, Int.reduceToNat, Nat.reduceBEq, tq1, tq2, tq3, tq4, tq5]
  rw [(chunk_ok _ d data (hd.grow (.new h _))).eq]
  simp (maxSteps := 10000000) (disch := omega) only [vq0, vq1, vq2, vq3, vq4, vq5, tagOf, reduceIte, reduceCtorEq, Nat.reduceEqDiff, Nat.reduceAdd, Nat.reduceSub, Nat.reduceMul, Nat.reduceLT, Nat.reduceLeDiff, Int.reduceToNat, Nat.reduceBEq, tq1, tq2, tq3, tq4, tq5]
  obtain ⟨hA, eA⟩ : ∃ y, y = ((h.new (.cells [.slice none 0 0] true none)).new (.cells [d] true none)).new (.cells [.int .i64 106] true none) := ⟨_, rfl⟩
  have gA : Grow h hA := by rw [eA]; exact ((Grow.new h _).trans (.new _ _)).trans (.new _ _)
  have nA : hA.next = h.next + 3 := by rw [eA]; rfl
  have oA : hA.get h.next = some (.cells [.slice none 0 0] true none) := by rw [eA, get_new_ne (show h.next ≠ h.next + 2 by omega), get_new_ne (show h.next ≠ h.next + 1 by omega), get_new_same]
  have aA : hA.get (h.next + 1) = some (.cells [d] true none) := by rw [eA, get_new_ne (show h.next + 1 ≠ h.next + 2 by omega)]; exact get_new_same _ _
  have bA : hA.get (h.next + 2) = some (.cells [.int .i64 106] true none) := by rw [eA]; exact get_new_same _ _
  rw [← eA]
  clear eA
  obtain ⟨ρ0, eρ⟩ : ∃ y, y = up (up (up (up (frA [d]) 2 (Value.slice none 0 0)) 3 (Value.pointer (some ⟨h.next, 0, none⟩))) 5 d) 6 (Value.func (Fn.func f_slices_Chunk_s_byte_byte_1) #[] #[.pointer (some ⟨h.next + 1, 0, none⟩), .pointer (some ⟨h.next + 1 + 1, 0, none⟩)]) := ⟨_, rfl⟩
  have r3 : ρ0 3 = .pointer (some ⟨h.next, 0, none⟩) := by rw [eρ]; rfl
  have r6 : ρ0 6 = Value.func (Fn.func f_slices_Chunk_s_byte_byte_1) #[] #[.pointer (some ⟨h.next + 1, 0, none⟩), .pointer (some ⟨h.next + 1 + 1, 0, none⟩)] := by rw [eρ]; rfl
  rw [← eρ]
  clear eρ
  refine r_rng rf_box_Parts_0 r6 (by kernel_rfl) ?_
  obtain ⟨B, eB⟩ : ∃ y, y = recY #[7] (rngAt E f_box_Parts 0).1 (rngAt E f_box_Parts 0).2 (planF E f_box_Parts) 14 ρ0 := ⟨_, rfl⟩
  rw [← eB]
  obtain ⟨Y, eY⟩ : ∃ Y : Nat → Heap → Prop, Y = (fun k h' => ∃ (v : Value) (qs : List (Value × List UInt8)), Grow h h' ∧ h.next + 3 < h'.next ∧ h'.get (h.next + 1) = some (.cells [d] true none) ∧ h'.get (h.next + 2) = some (.cells [.int .i64 106] true none) ∧
    h'.get (h.next + 3) = some B ∧ h'.get h.next = some (.cells [v] true none) ∧ Own h h' 1 t_s_uint8 v (qs.map (·.1)) ∧ (∀ b, blkOf v = some b → h.next + 3 < b) ∧ qs.map (·.2) = (List.range k).map (piece data) ∧ ∀ q ∈ qs, BRow h' q.1 q.2 ∧ ∀ b, blkOf q.1 = some b → h.next + 3 < b ∧ b < h'.next ∧ blkOf v ≠ some b) := ⟨_, rfl⟩
  have hch := chunk1_ok (h.next + 1) (h.next + 2) (h.next + 3) d data Y hl
    (fun k h' y => by rw [eY] at y; obtain ⟨v, qs, g, hn, ha, hb, _⟩ := y; exact ⟨ha, hb, hd.grow g, fun b hb => by obtain ⟨cs, w, q, h1, h2⟩ := hc b hb; exact ⟨cs, w, q, (g.get b (hlt b hb)).trans h1, h2⟩⟩)
    ?_ (hA.new B) (by rw [eY]; exact ⟨.slice none 0 0, [], gA.trans (.new _ _), by show _ < hA.next + 1; omega, (get_new_ne (by omega)).trans aA, (get_new_ne (by omega)).trans bA, by rw [← nA]; exact get_new_same _ _, (get_new_ne (by omega)).trans oA, .nil _ _ _ _, (fun b hb => by cases hb), rfl, fun _ h => nomatch h⟩)
  · rw [nA]
    refine hch.mono ?_
    rintro u h2 y
    rw [eY] at y
    obtain ⟨v, qs, g, hn, ha, hb, hl, ho, ow, hbv, hq, hr⟩ := y
    rw [eB] at hl
    refine rngQ_all hl ?_
    simp (maxSteps := 10000000) (disch := omega) only [vq0, vq1, vq2, vq3, vq4, vq5, tagOf, reduceIte, reduceCtorEq, Nat.reduceEqDiff, Nat.reduceAdd, Nat.reduceSub, Nat.reduceMul, Nat.reduceLT, Nat.reduceLeDiff, Int.reduceToNat, Nat.reduceBEq, tq1, tq2, tq3, tq4, tq5, r3, ho]
    refine ⟨g.set (by omega) _, qs, ow.keep (Nat.le_refl _) fun b hb => get_set_ne (by have := hbv b hb; omega), hq, fun q hq2 => ?_⟩
    obtain ⟨hrb, hrd⟩ := hr q hq2
    exact ⟨RowV.keep hrb (Nat.le_refl _) fun b hb _ => get_set_ne (by have := hrd b hb; omega), fun b hb => by have := hrd b hb; exact ⟨by omega, this.2.1, this.2.2⟩⟩
  · rintro k h' x y hk hx
    have y0 := y
    rw [eY] at y0
    obtain ⟨v, qs, g, hn, ha, hb, hlr, ho, ow, hbv, hq, hr⟩ := y0
    rw [eB] at hlr
    refine y_round hlr (by rfl) ra_box_Parts_0 rb_box_Parts_0 ?_
    show R E g_box_Parts_A0 (up ρ0 7 x) _ _
    unfold g_box_Parts_A0 g_box_Parts_B0
    simp (maxSteps := 10000000) (disch := omega) only [vq0, vq1, vq2, vq3, vq4, vq5, tagOf, reduceIte, reduceCtorEq, Nat.reduceEqDiff, Nat.reduceAdd, Nat.reduceSub, Nat.reduceMul, Nat.reduceLT, Nat.reduceLeDiff, Int.reduceToNat, Nat.reduceBEq, tq1, tq2, tq3, tq4, tq5, asgQ_normal]
    refine ⟨hlr, ?_⟩
    obtain ⟨va, vn, vc, ev0, _⟩ := ow.row.is
    obtain ⟨hB, eB2⟩ : ∃ y, y = h'.set (h.next + 3) (recS LoopState.busy none #[7] (rngAt E f_box_Parts 0).fst (rngAt E f_box_Parts 0).snd (planF E f_box_Parts) 14 ρ0) := ⟨_, rfl⟩
    have kB : ∀ c, c ≠ h.next + 3 → hB.get c = h'.get c := fun c hc => by rw [eB2, get_set_ne hc]
    have lB : hB.get (h.next + 3) = some (recS LoopState.busy none #[7] (rngAt E f_box_Parts 0).fst (rngAt E f_box_Parts 0).snd (planF E f_box_Parts) 14 ρ0) := by rw [eB2, get_set_same]
    have nB : hB.next = h'.next := by rw [eB2]; rfl
    rw [← eB2]
    clear eB2
    have oB : hB.get h.next = some (.cells [v] true none) := (kB _ (by omega)).trans ho
    have hxB : BRow hB x (piece data k) := RowV.keepL hx hlr (by omega) kB
    have hpl : 0 < (piece data k).length ∧ (piece data k).length ≤ 106 := by unfold piece; rw [List.length_take, List.length_drop]; omega
    simp (maxSteps := 10000000) (disch := omega) only [vq0, vq1, vq2, vq3, vq4, vq5, tagOf, reduceIte, reduceCtorEq, Nat.reduceEqDiff, Nat.reduceAdd, Nat.reduceSub, Nat.reduceMul, Nat.reduceLT, Nat.reduceLeDiff, Int.reduceToNat, Nat.reduceBEq, tq1, tq2, tq3, tq4, tq5, r3, oB]
    refine (cloneB_ok x _ hB hxB (by omega)).mono ?_
    rintro u h1 ⟨g1, hu, hub, _, _⟩
    have n1 := g1.next
    have o1 := (g1.get h.next (by omega)).trans oB
    have huo := hu.one
    have hun : ∃ au cu, u = .slice au (piece data k).length cu := hu.is
    have hul : ∀ b, blkOf u = some b → b < h1.next := fun b hb => RowV.lt hu (by intro e; rw [List.map_eq_nil_iff] at e; rw [e] at hpl; simp at hpl) hb
    have huc : cellsOf u = [u] := by obtain ⟨au, cu, rfl⟩ := hun; rfl
    simp (maxSteps := 10000000) (disch := omega) only [vq0, vq1, vq2, vq3, vq4, vq5, tagOf, reduceIte, reduceCtorEq, Nat.reduceEqDiff, Nat.reduceAdd, Nat.reduceSub, Nat.reduceMul, Nat.reduceLT, Nat.reduceLeDiff, Int.reduceToNat, Nat.reduceBEq, tq1, tq2, tq3, tq4, tq5, r3, huo, huc]
    obtain ⟨h2, e2⟩ : ∃ y, y = h1.new (.cells [u] true none) := ⟨_, rfl⟩
    have g2 : Grow h1 h2 := by rw [e2]; exact .new _ _
    have n2 : h2.next = h1.next + 1 := by rw [e2]; rfl
    have u2 : h2.get h1.next = some (.cells [u] true none) := by rw [e2]; exact get_new_same _ _
    rw [← e2]
    clear e2
    have gB : Grow h hB := ⟨by have := g.next; omega, fun c hc => (kB c (by omega)).trans (g.get c hc)⟩
    have gB2 := g1.trans g2
    obtain ⟨v2, h3, happ, ow3, g3, n3, hb3, k3⟩ := own_app sl_s_s_uint8 okSrc_rows ((ow.keep (by omega) fun b hb => kB b (by have := hbv b hb; omega)).grow gB2) (gB.trans gB2) (b2 := h1.next) (o2 := 0) (n := 1) (c2 := 1) (new := [u]) (by rw [u2]; rfl) (by omega) (by rw [List.all_cons, huo]; rfl) (by rw [List.length_map, List.length_singleton]; have := congrArg List.length hq; rw [List.length_map, List.length_map, List.length_range] at this; omega) (by decide)
    have o2 := (g2.get h.next (by omega)).trans o1
    have o3 := (k3 h.next (by omega) fun e => by have := hbv _ e; omega).trans ((g2.get h.next (by omega)).trans o1)
    have v2o := ow3.row.one
    obtain ⟨av, nv, cv, ev, _⟩ := ow3.row.is
    have v2c : cellsOf v2 = [v2] := by rw [ev]; rfl
    have hst : storeV E t_s_s_uint8 (.pointer (some ⟨h.next, 0, none⟩)) v2 h3 = some (h3.set h.next (.cells [v2] true none)) := by
      rw [ev]
      simp (maxSteps := 10000000) (disch := omega) only [vq0, vq1, vq2, vq3, vq4, vq5, tagOf, reduceIte, reduceCtorEq, Nat.reduceEqDiff, Nat.reduceAdd, Nat.reduceSub, Nat.reduceMul, Nat.reduceLT, Nat.reduceLeDiff, Int.reduceToNat, Nat.reduceBEq, tq1, tq2, tq3, tq4, tq5, o3]
    have sB : sameAs v (cellAt (hB.get h.next) 0) = true := by rw [oB, ev0]; simp (maxSteps := 10000000) (disch := omega) only [vq0, vq1, vq2, vq3, vq4, vq5, tagOf, reduceIte, reduceCtorEq, Nat.reduceEqDiff, Nat.reduceAdd, Nat.reduceSub, Nat.reduceMul, Nat.reduceLT, Nat.reduceLeDiff, Int.reduceToNat, Nat.reduceBEq, tq1, tq2, tq3, tq4, tq5]
    have s2 : sameAs v (cellAt (h2.get h.next) 0) = true := by rw [o2, ev0]; simp (maxSteps := 10000000) (disch := omega) only [vq0, vq1, vq2, vq3, vq4, vq5, tagOf, reduceIte, reduceCtorEq, Nat.reduceEqDiff, Nat.reduceAdd, Nat.reduceSub, Nat.reduceMul, Nat.reduceLT, Nat.reduceLeDiff, Int.reduceToNat, Nat.reduceBEq, tq1, tq2, tq3, tq4, tq5]
    simp (maxSteps := 10000000) (disch := omega) only [vq0, vq1, vq2, vq3, vq4, vq5, tagOf, reduceIte, reduceCtorEq, Nat.reduceEqDiff, Nat.reduceAdd, Nat.reduceSub, Nat.reduceMul, Nat.reduceLT, Nat.reduceLeDiff, Int.reduceToNat, Nat.reduceBEq, tq1, tq2, tq3, tq4, tq5, r3, happ, o3, v2o, v2c, hst, sB, s2, rndQ_normal]
    have hno : ∀ c, c ≤ h.next + 3 → blkOf v ≠ some c := fun c hc e => by have := hbv c e; omega
    refine ⟨?_, ?_⟩
    · first | rw [k3 _ (by omega) (hno _ (by omega)), g2.get _ (by omega), g1.get _ (by omega)] | rw [get_set_ne (by omega), k3 _ (by omega) (hno _ (by omega)), g2.get _ (by omega), g1.get _ (by omega)]
      exact lB
    obtain ⟨hF, eF⟩ : ∃ y, y = (h3.set h.next (.cells [v2] true none)).set (h.next + 3) (recY #[7] (rngAt E f_box_Parts 0).fst (rngAt E f_box_Parts 0).snd (planF E f_box_Parts) 14 ρ0) := ⟨_, rfl⟩
    rw [← eF]
    have nF : hF.next = h3.next := by rw [eF]; rfl
    have lF : hF.get (h.next + 3) = some B := by rw [eB, eF, get_set_same]
    have oF : hF.get h.next = some (.cells [v2] true none) := by rw [eF, get_set_ne (by omega), get_set_same]
    have kF3 : ∀ c, c ≠ h.next + 3 → c ≠ h.next → hF.get c = h3.get c := fun c h1 h2 => by rw [eF, get_set_ne h1, get_set_ne h2]
    have kF2 : ∀ c, c < h2.next → c ≠ h.next + 3 → c ≠ h.next → blkOf v ≠ some c → hF.get c = h2.get c := fun c hc h1 h2 h4 => (kF3 c h1 h2).trans (k3 c (by omega) h4)
    have kF : ∀ c, c < h'.next → c ≠ h.next + 3 → c ≠ h.next → blkOf v ≠ some c → hF.get c = h'.get c := fun c hc h1 h2 h4 => by
      rw [kF2 c (by omega) h1 h2 h4, g2.get c (by omega), g1.get c (by omega), kB c h1]
    clear eF
    have hbn : ∀ b, blkOf v2 = some b → b = h2.next := fun b hb => by rw [hb3] at hb; exact (Option.some.inj hb).symm
    rw [eY]
    refine ⟨v2, qs ++ [(u, piece data k)], ⟨by omega, fun c hc => ?_⟩, by omega, ?_, ?_, lF, oF, ?_, fun b hb => ?_, ?_, fun q hq2 => ?_⟩
    · rw [kF c (by omega) (by omega) (by omega) (hno _ (by omega)), g.get c hc]
    · rw [kF _ (by omega) (by omega) (by omega) (hno _ (by omega))]; exact ha
    · rw [kF _ (by omega) (by omega) (by omega) (hno _ (by omega))]; exact hb
    · rw [List.map_append]
      exact ow3.keep (by omega) fun b hb => kF3 b (by have := hbn b hb; omega) (by have := hbn b hb; omega)
    · have := hbn b hb; omega
    · rw [List.map_append, hq, List.range_succ, List.map_append]; rfl
    · rcases List.mem_append.1 hq2 with hq2 | hq2
      · obtain ⟨hrb, hrd⟩ := hr q hq2
        refine ⟨RowV.keep hrb (by omega) fun b hb hlt => ?_, fun b hb => ⟨?_, ?_, fun e => ?_⟩⟩
        · have := hrd b hb
          exact kF b (by omega) (by omega) (by omega) this.2.2
        · have := hrd b hb; omega
        · have := hrd b hb; omega
        · have := hrd b hb; have := hbn b e; omega
      · rw [List.mem_singleton] at hq2
        subst hq2
        refine ⟨RowV.keep hu (by omega) fun b hb hlt => ?_, fun b hb => ⟨?_, ?_, fun e => ?_⟩⟩
        · have := hub b hb
          rw [kF2 b (by omega) (by omega) (by omega) (fun e => by have := (ow.lt e).2; omega), g2.get b hlt]
        · have := hub b hb; omega
        · have := hul b hb; omega
        · have := hul b hb; have := hbn b e; omega
end Go.Proofs.YtjhaokhgiagkaaaGreatDoor.C
