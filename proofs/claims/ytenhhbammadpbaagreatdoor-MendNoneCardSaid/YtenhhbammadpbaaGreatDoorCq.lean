/- Cq1: what a store's copy calls: copies of rows, of an object, of the space. Cq2: a store is copied, in any order of its objects. Cq3: a store's copy, told. Cq4: the environment in which a store's copy is told. Cq5: what begins with what; nothing, or one text, sorted. Cq6: the names of a store, one at most, in any order of its objects. Cq7: the environment in which a store's copy, and its names of one at most, are told. -/
import Derived.Test.YtenhhbammadpbaaGreatDoorHcC
import Derived.Test.YtenhhbammadpbaaGreatDoorVgK
open Go Go.Vi
namespace Go.Proofs.YtenhhbammadpbaaGreatDoor.Cp
set_option linter.unusedSimpArgs false
set_option maxRecDepth 100000
set_option maxHeartbeats 40000000
theorem okSrc_b : okSrc E (some t_s_uint8) = some true := by kernel_rfl
theorem okSrc_x : okSrc E (some t_s_api_Extent) = some true := by kernel_rfl
theorem ints_one {l : List Value} (h : l.all isInt = true) : l.all oneCell = true := List.all_eq_true.2 fun x hx => by
  have := List.all_eq_true.1 h x hx
  cases x <;> first | rfl | cases this
theorem cloneB_x (h : Heap) (hf : ∀ b, h.next ≤ b → h.get b = none) (v : Value) (s : RS) (hr : readRS 1 h v = some s) : Ret E f_slices_Clone_s_byte_byte [v] h fun u h1 => u = s.val h.next ∧ Laid h h1 (s.blks 1 t_uint8) := by
  refine ret_fun is_slices_Clone_s_byte_byte (by simp) ?_
  unfold g_slices_Clone_s_byte_byte
  have L1 : Laid h (h.new (.cells [] true none)) [.cells [] true none] := (Laid.refl h).snoc _
  rcases readRS_inv hr with ⟨rfl, rfl⟩ | ⟨rfl, rfl⟩ | ⟨b, o, c, rfl, rfl⟩ | ⟨b, o, n, c, l, rfl, rfl, hp, hn, hl, hall⟩
  · simp (maxSteps := 10000000) (disch := omega) only [vq0, vq1, vq2, vq3, vq4, vq5, tagOf, reduceIte, reduceCtorEq, Nat.reduceEqDiff, Nat.reduceAdd, Nat.reduceSub, Nat.reduceMul, Nat.reduceLT, Nat.reduceLeDiff, Int.reduceToNat, Nat.reduceBEq, tq1, tq2]
    exact ⟨rfl, Laid.refl h⟩
  · simp (maxSteps := 10000000) (disch := omega) only [vq0, vq1, vq2, vq3, vq4, vq5, tagOf, reduceIte, reduceCtorEq, Nat.reduceEqDiff, Nat.reduceAdd, Nat.reduceSub, Nat.reduceMul, Nat.reduceLT, Nat.reduceLeDiff, Int.reduceToNat, Nat.reduceBEq, tq1, tq2, app_void sl_s_uint8 okSrc_b, get_new_same]
    exact ⟨rfl, L1⟩
  · have happ : appendV E t_s_uint8 (some t_s_uint8) (.slice (some ⟨h.next, 0, none⟩) 0 0) (.slice (some ⟨b, o, none⟩) 0 c) (h.new (.cells [] true none)) = some (.slice (some ⟨h.next, 0, none⟩) 0 0, h.new (.cells [] true none)) := by
      rw [app_row sl_s_uint8 okSrc_b, if_pos rfl, okB_some (by simp) rfl, get_new_same, appK_zero (Nat.le_refl _)]
    simp (maxSteps := 10000000) (disch := omega) only [vq0, vq1, vq2, vq3, vq4, vq5, tagOf, reduceIte, reduceCtorEq, Nat.reduceEqDiff, Nat.reduceAdd, Nat.reduceSub, Nat.reduceMul, Nat.reduceLT, Nat.reduceLeDiff, Int.reduceToNat, Nat.reduceBEq, tq1, tq2, happ]
    exact ⟨rfl, L1⟩
  · have hb : b < h.next := by
      rw [rd_cells] at hl
      refine Nat.lt_of_not_le fun hx => ?_
      rw [hf b hx] at hl
      cases hl
    have hl2 : rdN (h.new (.cells [] true none)) ⟨b, o, none⟩ (n * 1) = some l := by
      rw [rd_cells] at hl ⊢
      rw [get_new_ne (by omega)]
      exact hl
    have happ := app_read (E := E) (c := c) sl_s_uint8 okSrc_b hl2 hp (ints_one hall) (get_new_same h (.cells [] true none)) (by omega) (by omega)
    simp (maxSteps := 10000000) (disch := omega) only [vq0, vq1, vq2, vq3, vq4, vq5, tagOf, reduceIte, reduceCtorEq, Nat.reduceEqDiff, Nat.reduceAdd, Nat.reduceSub, Nat.reduceMul, Nat.reduceLT, Nat.reduceLeDiff, Int.reduceToNat, Nat.reduceBEq, tq1, tq2, happ]
    exact ⟨rfl, L1.snoc _⟩
theorem cloneX_x (h : Heap) (hf : ∀ b, h.next ≤ b → h.get b = none) (v : Value) (s : RS) (hr : readRS 2 h v = some s) : Ret E f_slices_Clone_s_api_Extent_api_Extent [v] h fun u h1 => u = s.val h.next ∧ Laid h h1 (s.blks 2 t_api_Extent) := by
  refine ret_fun is_slices_Clone_s_api_Extent_api_Extent (by simp) ?_
  unfold g_slices_Clone_s_api_Extent_api_Extent
  have L1 : Laid h (h.new (.cells [] true none)) [.cells [] true none] := (Laid.refl h).snoc _
  rcases readRS_inv hr with ⟨rfl, rfl⟩ | ⟨rfl, rfl⟩ | ⟨b, o, c, rfl, rfl⟩ | ⟨b, o, n, c, l, rfl, rfl, hp, hn, hl, hall⟩
  · simp (maxSteps := 10000000) (disch := omega) only [vq0, vq1, vq2, vq3, vq4, vq5, tagOf, reduceIte, reduceCtorEq, Nat.reduceEqDiff, Nat.reduceAdd, Nat.reduceSub, Nat.reduceMul, Nat.reduceLT, Nat.reduceLeDiff, Int.reduceToNat, Nat.reduceBEq, tq1, tq2]
    exact ⟨rfl, Laid.refl h⟩
  · simp (maxSteps := 10000000) (disch := omega) only [vq0, vq1, vq2, vq3, vq4, vq5, tagOf, reduceIte, reduceCtorEq, Nat.reduceEqDiff, Nat.reduceAdd, Nat.reduceSub, Nat.reduceMul, Nat.reduceLT, Nat.reduceLeDiff, Int.reduceToNat, Nat.reduceBEq, tq1, tq2, app_void sl_s_api_Extent okSrc_x, get_new_same]
    exact ⟨rfl, L1⟩
  · have happ : appendV E t_s_api_Extent (some t_s_api_Extent) (.slice (some ⟨h.next, 0, none⟩) 0 0) (.slice (some ⟨b, o, none⟩) 0 c) (h.new (.cells [] true none)) = some (.slice (some ⟨h.next, 0, none⟩) 0 0, h.new (.cells [] true none)) := by
      rw [app_row sl_s_api_Extent okSrc_x, if_pos rfl, okB_some (by simp) rfl, get_new_same, appK_zero (Nat.le_refl _)]
    simp (maxSteps := 10000000) (disch := omega) only [vq0, vq1, vq2, vq3, vq4, vq5, tagOf, reduceIte, reduceCtorEq, Nat.reduceEqDiff, Nat.reduceAdd, Nat.reduceSub, Nat.reduceMul, Nat.reduceLT, Nat.reduceLeDiff, Int.reduceToNat, Nat.reduceBEq, tq1, tq2, happ]
    exact ⟨rfl, L1⟩
  · have hb : b < h.next := by
      rw [rd_cells] at hl
      refine Nat.lt_of_not_le fun hx => ?_
      rw [hf b hx] at hl
      cases hl
    have hl2 : rdN (h.new (.cells [] true none)) ⟨b, o, none⟩ (n * 2) = some l := by
      rw [rd_cells] at hl ⊢
      rw [get_new_ne (by omega)]
      exact hl
    have happ := app_read (E := E) (c := c) sl_s_api_Extent okSrc_x hl2 hp (ints_one hall) (get_new_same h (.cells [] true none)) (by omega) (by omega)
    simp (maxSteps := 10000000) (disch := omega) only [vq0, vq1, vq2, vq3, vq4, vq5, tagOf, reduceIte, reduceCtorEq, Nat.reduceEqDiff, Nat.reduceAdd, Nat.reduceSub, Nat.reduceMul, Nat.reduceLT, Nat.reduceLeDiff, Int.reduceToNat, Nat.reduceBEq, tq1, tq2, happ]
    exact ⟨rfl, L1.snoc _⟩
theorem mapsClone_nil (h : Heap) : Ret E f_maps_Clone_m_string_s_byte_string_s_byte [.map none] h fun u h1 => u = .map none ∧ h1 = h := by
  refine ret_fun is_maps_Clone_m_string_s_byte_string_s_byte (by simp) ?_
  unfold g_maps_Clone_m_string_s_byte_string_s_byte
  simp (maxSteps := 10000000) (disch := omega) only [vq0, vq1, vq2, vq3, vq4, vq5, tagOf, reduceIte, reduceCtorEq, Nat.reduceEqDiff, Nat.reduceAdd, Nat.reduceSub, Nat.reduceMul, Nat.reduceLT, Nat.reduceLeDiff, Int.reduceToNat, Nat.reduceBEq, tq1, tq2]
theorem row_clone : E.row f_maps_clone = some cloneV := by kernel_rfl
theorem mapsClone_x (h : Heap) (m c : Nat) (es : List MapEntry) (hg : h.get m = some (.map es c)) : Ret E f_maps_Clone_m_string_s_byte_string_s_byte [.map (some m)] h fun u h1 => u = .map (some h.next) ∧ h1 = h.new (.map es c) := by
  refine ret_fun is_maps_Clone_m_string_s_byte_string_s_byte (by simp) ?_
  unfold g_maps_Clone_m_string_s_byte_string_s_byte
  simp (maxSteps := 10000000) (disch := omega) only [vq0, vq1, vq2, vq3, vq4, vq5, tagOf, reduceIte, reduceCtorEq, Nat.reduceEqDiff, Nat.reduceAdd, Nat.reduceSub, Nat.reduceMul, Nat.reduceLT, Nat.reduceLeDiff, Int.reduceToNat, Nat.reduceBEq, tq1, tq2]
  refine ret_row row_clone (show cloneV _ h = some (.iface t_m_string_s_uint8 (.map (some h.next)), h.new (.map es c)) by unfold cloneV mapOf; simp only [hg]) ?_
  simp (maxSteps := 10000000) (disch := omega) only [vq0, vq1, vq2, vq3, vq4, vq5, tagOf, reduceIte, reduceCtorEq, Nat.reduceEqDiff, Nat.reduceAdd, Nat.reduceSub, Nat.reduceMul, Nat.reduceLT, Nat.reduceLeDiff, Int.reduceToNat, Nat.reduceBEq, tq1, tq2]
theorem rs_keep {h h1 : Heap} {l : List Blk} (hf : ∀ b, h.next ≤ b → h.get b = none) (x : Laid h h1 l) {z : Nat} {v : Value} {s : RS} (hr : readRS z h v = some s) : readRS z h1 v = some s := by
  rcases readRS_inv hr with ⟨rfl, rfl⟩ | ⟨rfl, rfl⟩ | ⟨b, o, c, rfl, rfl⟩ | ⟨b, o, n, c, k, rfl, rfl, hp, hn, hl, hall⟩
  · rfl
  · rfl
  · unfold readRS; simp
  · have hb : b < h.next := by
      rw [rd_cells] at hl
      refine Nat.lt_of_not_le fun hx => ?_
      rw [hf b hx] at hl
      cases hl
    have hl2 : rdN h1 ⟨b, o, none⟩ (n * z) = some k := by
      rw [rd_cells] at hl ⊢
      rw [x.old b hb]
      exact hl
    unfold readRS
    simp only [if_neg (show ¬ n = 0 by omega), if_pos hn, hl2, hall, if_true]
theorem veq_rs {z : Nat} {h : Heap} {v : Value} {s : RS} (hr : readRS z h v = some s) : veq 100000 v v = true := by
  rcases readRS_inv hr with ⟨rfl, rfl⟩ | ⟨rfl, rfl⟩ | ⟨b, o, c, rfl, rfl⟩ | ⟨b, o, n, c, k, rfl, rfl, hp, hn, hl, hall⟩
  · simp (maxSteps := 10000000) (disch := omega) only [vq0, vq1, vq2, vq3, vq4, vq5, tagOf, reduceIte, reduceCtorEq, Nat.reduceEqDiff, Nat.reduceAdd, Nat.reduceSub, Nat.reduceMul, Nat.reduceLT, Nat.reduceLeDiff, Int.reduceToNat, Nat.reduceBEq, tq1, tq2]
  · simp (maxSteps := 10000000) (disch := omega) only [vq0, vq1, vq2, vq3, vq4, vq5, tagOf, reduceIte, reduceCtorEq, Nat.reduceEqDiff, Nat.reduceAdd, Nat.reduceSub, Nat.reduceMul, Nat.reduceLT, Nat.reduceLeDiff, Int.reduceToNat, Nat.reduceBEq, tq1, tq2]
  · simp (maxSteps := 10000000) (disch := omega) only [vq0, vq1, vq2, vq3, vq4, vq5, tagOf, reduceIte, reduceCtorEq, Nat.reduceEqDiff, Nat.reduceAdd, Nat.reduceSub, Nat.reduceMul, Nat.reduceLT, Nat.reduceLeDiff, Int.reduceToNat, Nat.reduceBEq, tq1, tq2]
  · simp (maxSteps := 10000000) (disch := omega) only [vq0, vq1, vq2, vq3, vq4, vq5, tagOf, reduceIte, reduceCtorEq, Nat.reduceEqDiff, Nat.reduceAdd, Nat.reduceSub, Nat.reduceMul, Nat.reduceLT, Nat.reduceLeDiff, Int.reduceToNat, Nat.reduceBEq, tq1, tq2]
theorem copied_x (h : Heap) (hf : ∀ b, h.next ≤ b → h.get b = none) (v : Value) (s : OS) (hr : readOS h v = some s) : Ret E f_p_store_object_copied [v] h fun u h1 => u = s.ptr h.next ∧ Laid h h1 (s.blks t_uint8 t_api_Extent h.next) := by
  refine ret_fun is_p_store_object_copied (by simp) ?_
  unfold g_p_store_object_copied
  unfold readOS at hr
  split at hr
  · rename_i p
    split at hr
    · rename_i bs am ex wr opn hg
      split at hr
      · rename_i b m x hb hm hx
        cases hr
        have hp : p < h.next := Nat.lt_of_not_le fun hx => by rw [hf p hx] at hg; cases hg
        have hcs : ∀ (k : Nat) (r : RS), cellsOf (r.val k) = [r.val k] ∧ oneCell (r.val k) = true := fun k r => by cases r <;> exact ⟨rfl, rfl⟩
        simp (maxSteps := 10000000) (disch := omega) only [vq0, vq1, vq2, vq3, vq4, vq5, tagOf, reduceIte, reduceCtorEq, Nat.reduceEqDiff, Nat.reduceAdd, Nat.reduceSub, Nat.reduceMul, Nat.reduceLT, Nat.reduceLeDiff, Int.reduceToNat, Nat.reduceBEq, tq1, tq2, hg]
        refine (cloneB_x h hf bs b hb).mono ?_
        rintro u h1 ⟨rfl, L1⟩
        have f1 := L1.none hf
        have n1 := L1.next
        rw [RS.len] at n1
        have g1 := (L1.old p hp).trans hg
        have hx1 := rs_keep hf L1 hx
        unfold readM at hm
        split at hm
        · cases hm
          simp (maxSteps := 10000000) (disch := omega) only [vq0, vq1, vq2, vq3, vq4, vq5, tagOf, reduceIte, reduceCtorEq, Nat.reduceEqDiff, Nat.reduceAdd, Nat.reduceSub, Nat.reduceMul, Nat.reduceLT, Nat.reduceLeDiff, Int.reduceToNat, Nat.reduceBEq, tq1, tq2, g1, (mapsClone_nil h1).eq]
          refine (cloneX_x h1 f1 ex x hx1).mono ?_
          rintro u h2 ⟨rfl, L2⟩
          have g2 := (L2.old p (by omega)).trans g1
          have n2 := L2.next
          rw [RS.len] at n2
          simp (maxSteps := 10000000) (disch := omega) only [vq0, vq1, vq2, vq3, vq4, vq5, tagOf, reduceIte, reduceCtorEq, Nat.reduceEqDiff, Nat.reduceAdd, Nat.reduceSub, Nat.reduceMul, Nat.reduceLT, Nat.reduceLeDiff, Int.reduceToNat, Nat.reduceBEq, tq1, tq2, g1, g2, hcs, hg, veq_rs hb, veq_rs hx]
          refine ⟨?_, ?_⟩
          · unfold OS.ptr OS.mSize
            rw [n2, n1]
            rfl
          · have e : OS.blks t_uint8 t_api_Extent { b := b, m := none, x := x } h.next = b.blks 1 t_uint8 ++ x.blks 2 t_api_Extent ++ [.cells [b.val h.next, .map none, x.val h1.next] true none] := by
              unfold OS.blks OS.cells OS.mBlk OS.mVal OS.mSize
              simp only [List.append_nil, Nat.add_zero, n1]
            rw [e]
            exact (L1.trans L2).snoc _
        · rename_i mo
          split at hm
          · rename_i es c hgm
            split at hm
            · cases hm
              have hmo : mo < h.next := Nat.lt_of_not_le fun hx => by rw [hf mo hx] at hgm; cases hgm
              simp (maxSteps := 10000000) (disch := omega) only [vq0, vq1, vq2, vq3, vq4, vq5, tagOf, reduceIte, reduceCtorEq, Nat.reduceEqDiff, Nat.reduceAdd, Nat.reduceSub, Nat.reduceMul, Nat.reduceLT, Nat.reduceLeDiff, Int.reduceToNat, Nat.reduceBEq, tq1, tq2, g1]
              refine (mapsClone_x h1 mo c es ((L1.old mo hmo).trans hgm)).mono ?_
              rintro u h2 ⟨rfl, rfl⟩
              have L2 : Laid h1 (h1.new (.map es c)) [.map es c] := (Laid.refl h1).snoc _
              have g2 := (L2.old p (by omega)).trans g1
              have n2 := L2.next
              rw [List.length_singleton] at n2
              have f2 := L2.none f1
              have hx2 := rs_keep f1 L2 hx1
              simp (maxSteps := 10000000) (disch := omega) only [vq0, vq1, vq2, vq3, vq4, vq5, tagOf, reduceIte, reduceCtorEq, Nat.reduceEqDiff, Nat.reduceAdd, Nat.reduceSub, Nat.reduceMul, Nat.reduceLT, Nat.reduceLeDiff, Int.reduceToNat, Nat.reduceBEq, tq1, tq2, g2, g1, hg]
              refine (cloneX_x _ f2 ex x hx2).mono ?_
              rintro u h3 ⟨rfl, L3⟩
              have g3 := (L3.old p (by omega)).trans g2
              have n3 := L3.next
              rw [RS.len] at n3
              simp (maxSteps := 10000000) (disch := omega) only [vq0, vq1, vq2, vq3, vq4, vq5, tagOf, reduceIte, reduceCtorEq, Nat.reduceEqDiff, Nat.reduceAdd, Nat.reduceSub, Nat.reduceMul, Nat.reduceLT, Nat.reduceLeDiff, Int.reduceToNat, Nat.reduceBEq, tq1, tq2, g1, g2, g3, hcs, hg, veq_rs hb, veq_rs hx]
              refine ⟨?_, ?_⟩
              · unfold OS.ptr OS.mSize
                rw [n3, n2, n1]
              · have e : OS.blks t_uint8 t_api_Extent { b := b, m := some (es, c), x := x } h.next = b.blks 1 t_uint8 ++ [.map es c] ++ x.blks 2 t_api_Extent ++ [.cells [b.val h.next, .map (some h1.next), x.val (h1.next + 1)] true none] := by
                  unfold OS.blks OS.cells OS.mBlk OS.mVal OS.mSize
                  simp only [n1]
                rw [e]
                exact ((L1.trans L2).trans L3).snoc _
            · cases hm
          · cases hm
        · cases hm
      · cases hr
    · cases hr
  · cases hr
theorem spaceCopy_x (h : Heap) (hf : ∀ b, h.next ≤ b → h.get b = none) (sp : Nat) (size ho : Value) (wr : Bool) (opn : Option (Nat × Nat)) (hg : h.get sp = some (.cells [size, ho] wr opn)) (hi : isInt size = true) (s : RS) (hr : readRS 2 h ho = some s) :
    Ret E f_p_space_Space_Copy [.pointer (some ⟨sp, 0, none⟩)] h fun u h1 => u = .pointer (some ⟨h.next + s.size, 0, none⟩) ∧ Laid h h1 (s.blks 2 t_api_Extent ++ [.cells [size, s.val h.next] true none]) := by
  refine ret_fun is_p_space_Space_Copy (by simp) ?_
  unfold g_p_space_Space_Copy
  have hp : sp < h.next := Nat.lt_of_not_le fun hx => by rw [hf sp hx] at hg; cases hg
  have hcs : ∀ (k : Nat) (r : RS), cellsOf (r.val k) = [r.val k] ∧ oneCell (r.val k) = true := fun k r => by cases r <;> exact ⟨rfl, rfl⟩
  obtain ⟨ik, iv, rfl⟩ : ∃ k n, size = .int k n := by cases size <;> first | exact ⟨_, _, rfl⟩ | cases hi
  simp (maxSteps := 10000000) (disch := omega) only [vq0, vq1, vq2, vq3, vq4, vq5, tagOf, reduceIte, reduceCtorEq, Nat.reduceEqDiff, Nat.reduceAdd, Nat.reduceSub, Nat.reduceMul, Nat.reduceLT, Nat.reduceLeDiff, Int.reduceToNat, Nat.reduceBEq, tq1, tq2, hg]
  refine (cloneX_x h hf ho s hr).mono ?_
  rintro u h1 ⟨rfl, L1⟩
  have g1 := (L1.old sp hp).trans hg
  have n1 := L1.next
  rw [RS.len] at n1
  simp (maxSteps := 10000000) (disch := omega) only [vq0, vq1, vq2, vq3, vq4, vq5, tagOf, reduceIte, reduceCtorEq, Nat.reduceEqDiff, Nat.reduceAdd, Nat.reduceSub, Nat.reduceMul, Nat.reduceLT, Nat.reduceLeDiff, Int.reduceToNat, Nat.reduceBEq, tq1, tq2, g1, hg, hcs, veq_rs hr]
  exact ⟨by rw [n1], L1.snoc _⟩
end Go.Proofs.YtenhhbammadpbaaGreatDoor.Cp
open Go Go.Vi
namespace Go.Proofs.YtenhhbammadpbaaGreatDoor.Cp
set_option linter.unusedSimpArgs false
set_option maxRecDepth 100000
set_option maxHeartbeats 40000000
structure CI (ho : Heap) (rs : RS) (size : Value) (bl : List Value) (es es2 : List MapEntry) (l : List OS) (c mo : Nat) (vs : List MapEntry) (ρ : Fr) (h1 : Heap) (S : List Nat) (bOf : Nat → Nat) : Prop where
  r3 : ρ 3 = .pointer (some ⟨ho.next + rs.size + 2, 0, none⟩)
  r24 : ρ 24 = .pointer (some ⟨ho.next + rs.size + 3, 0, none⟩)
  n1 : ho.next + rs.size + 4 ≤ h1.next
  n2 : h1.next ≤ ho.next + rs.size + 4 + 6 * S.length
  old : ∀ b, b < ho.next → h1.get b = ho.get b
  fresh : ∀ b, h1.next ≤ b → h1.get b = none
  pr : ∀ k o, (rs.blks 2 t_api_Extent)[k]? = some o → h1.get (ho.next + k) = some o
  sp : h1.get (ho.next + rs.size) = some (.cells [size, rs.val ho.next] true none)
  m : h1.get (ho.next + rs.size + 1) = some (.map (visE es l bOf S 0) S.length)
  q : h1.get (ho.next + rs.size + 2) = some (.cells (.pointer (some ⟨ho.next + rs.size, 0, none⟩) :: bl ++ [.map (some (ho.next + rs.size + 1))]) true none)
  it : h1.get (ho.next + rs.size + 3) = some (mitOf mo c vs)
  nd : S.Nodup
  lt : ∀ i ∈ S, i < l.length
  vis : vs.map kv = S.map fun i => ((es[i]?.map (·.key)).getD undef, (es[i]?.map (·.val)).getD undef)
  placed : ∀ i ∈ S, ∀ s, l[i]? = some s → ho.next + rs.size + 4 ≤ bOf i ∧ bOf i + s.size ≤ h1.next ∧ ∀ k o, (s.blks t_uint8 t_api_Extent (bOf i))[k]? = some o → h1.get (bOf i + k) = some o
  disj : ∀ i ∈ S, ∀ i' ∈ S, ∀ s s', l[i]? = some s → l[i']? = some s' → i ≠ i' → bOf i + s.size ≤ bOf i' ∨ bOf i' + s'.size ≤ bOf i
theorem d_mkmap {p : Plan} {d : Option Tmp} {ty : TypeId} {r : List SOp} {j : Nat} {ρ : Fr} {h : Heap} {hs : List Heap} {rs : List HSeen} {Q : Qt} (t : TypeId) : DR E p (⟨d, .makeMap t none, ty, none⟩ :: r) j ρ h hs rs Q = dresQ E p d r j ρ hs rs Q (newK h (mkmapK E t none)) := d_new rfl rfl fun call => se_mkmap E call d ty _ h t none
theorem range_ord {h : Heap} {m c : Nat} {es : List MapEntry} (hg : h.get m = some (.map es c)) : rangeV E t_m_string_p_store_object (.map (some m)) h = some (.pointer (some ⟨h.next, 0, none⟩), h.new (.mit (some m) c [] c)) := by
  obtain ⟨i, k, v, hi, hu⟩ : ∃ i k v, E.ty t_m_string_p_store_object = some i ∧ i.under = .map k v := ⟨(E.ty t_m_string_p_store_object).getD dTy, t_string, t_p_store_object, by kernel_rfl, by kernel_rfl⟩
  generalize E = E' at hi ⊢
  unfold rangeV
  simp only [hi, hu, Option.bind_eq_bind, Option.bind_some]
  unfold mapOf
  simp only [hg, Option.bind_some]
theorem put_objs {h : Heap} {m c : Nat} {es : List MapEntry} (hg : h.get m = some (.map es c)) (b : ByteArray) (v : Value) (hf : findV (.string b) es 0 = some none) :
    mapPutV E t_m_string_p_store_object (.map (some m)) (.string b) v h = some (h.set m (.map (es ++ [{ key := .string b, val := v, born := c }]) (c + 1))) := by
  obtain ⟨i, hi, hu⟩ : ∃ i, E.ty t_m_string_p_store_object = some i ∧ i.under = .map t_string t_p_store_object := ⟨(E.ty t_m_string_p_store_object).getD dTy, by kernel_rfl, by kernel_rfl⟩
  obtain ⟨k, hk, hv⟩ : ∃ k, E.ty t_string = some k ∧ k.under = .string := ⟨(E.ty t_string).getD dTy, by kernel_rfl, by kernel_rfl⟩
  generalize E = E' at hi hk ⊢
  unfold mapPutV
  simp only [hi, hk, hu, hv, Option.bind_eq_bind, Option.bind_some, plainKey, mapOf, hg, hf]
  rfl
theorem bool_is {v : Value} (h : isBool v = true) : ∃ b, v = .bool b := by cases v <;> first | exact ⟨_, rfl⟩ | cases h
theorem nodup_le : ∀ (n : Nat) (S : List Nat), S.Nodup → (∀ i ∈ S, i < n) → S.length ≤ n
  | 0, S, _, h => by
    cases S with
    | nil => exact Nat.le_refl _
    | cons a r => exact absurd (h a List.mem_cons_self) (by omega)
  | n + 1, S, hn, h => by
    by_cases hm : n ∈ S
    · have h1 := nodup_le n (S.erase n) (hn.erase n) fun i hi => by
        have := (hn.mem_erase_iff).1 hi
        have := h i this.2
        omega
      rw [List.length_erase_of_mem hm] at h1
      omega
    · have := nodup_le n S hn fun i hi => by
        have := h i hi
        have : i ≠ n := fun e => hm (by rw [← e]; exact hi)
        omega
      omega
theorem copy_hg (ho : Heap) (hf : ∀ b, ho.next ≤ b → ho.get b = none) (s sp mo c : Nat) (rs : RS) (size hv : Value) (x0 x1 x2 x3 x4 x5 x6 x7 : Bool) (w1 w2 : Bool) (o1 o2 : Option (Nat × Nat)) (es es2 : List MapEntry) (l : List OS)
    (hs : ho.get s = some (.cells [.pointer (some ⟨sp, 0, none⟩), .bool x0, .bool x1, .bool x2, .bool x3, .bool x4, .bool x5, .bool x6, .bool x7, .map (some mo)] w1 o1)) (hsp : ho.get sp = some (.cells [size, hv] w2 o2)) (hsz : isInt size = true)
    (hrs : readRS 2 ho hv = some rs) (hmo : ho.get mo = some (.map es2 c)) (u : UPerm es es2 c) (hl : readAll ho es = some l) {K : Known} (pl : Nat → Option Plan) :
    HG K Tryz.prog (ho.next + rs.size + 4 + 6 * l.length + 6) 38 pl g_p_store_Store_Copy (frA [.pointer (some ⟨s, 0, none⟩)]) ho fun x ρ' h1 => x = .ret ∧ ρ' 2 = .pointer (some ⟨ho.next + rs.size + 2, 0, none⟩) ∧
      ∃ vs S bOf ρ1, CI ho rs size [.bool x0, .bool x1, .bool x2, .bool x3, .bool x4, .bool x5, .bool x6, .bool x7] es es2 l c mo vs ρ1 h1 S bOf ∧ ∀ e ∈ es2, e ∈ vs := by
  unfold g_p_store_Store_Copy
  have hsl : s < ho.next := Nat.lt_of_not_le fun hx => by rw [hf s hx] at hs; cases hs
  have hmol : mo < ho.next := Nat.lt_of_not_le fun hx => by rw [hf mo hx] at hmo; cases hmo
  have hmk : mkmapK E t_m_string_p_store_object none = some (.map [] 0, .map) := rfl
  refine hg_seq (hg_det okE ?_)
  simp (maxSteps := 10000000) (disch := omega) only [vq0, vq1, vq2, vq3, vq4, vq5, tagOf, reduceIte, reduceCtorEq, Nat.reduceEqDiff, Nat.reduceAdd, Nat.reduceSub, Nat.reduceMul, Nat.reduceLT, Nat.reduceLeDiff, Int.reduceToNat, Nat.reduceBEq, tq1, tq2]
  refine ⟨by omega, ?_⟩
  refine hg_seq (hg_det okE ?_)
  simp (maxSteps := 10000000) (disch := omega) only [vq0, vq1, vq2, vq3, vq4, vq5, tagOf, reduceIte, reduceCtorEq, Nat.reduceEqDiff, Nat.reduceAdd, Nat.reduceSub, Nat.reduceMul, Nat.reduceLT, Nat.reduceLeDiff, Int.reduceToNat, Nat.reduceBEq, tq1, tq2]
  refine ⟨by omega, ?_⟩
  refine hg_seq (hg_det okE ?_)
  simp (maxSteps := 10000000) (disch := omega) only [vq0, vq1, vq2, vq3, vq4, vq5, tagOf, reduceIte, reduceCtorEq, Nat.reduceEqDiff, Nat.reduceAdd, Nat.reduceSub, Nat.reduceMul, Nat.reduceLT, Nat.reduceLeDiff, Int.reduceToNat, Nat.reduceBEq, tq1, tq2, hs]
  refine (spaceCopy_x ho hf sp size hv w2 o2 hsp hsz rs hrs).mono ?_
  rintro v h1 ⟨rfl, L1⟩
  have s1 := (L1.old s hsl).trans hs
  have n1 := L1.next
  rw [List.length_append, RS.len, List.length_singleton] at n1
  simp (maxSteps := 10000000) (disch := omega) only [vq0, vq1, vq2, vq3, vq4, vq5, tagOf, reduceIte, reduceCtorEq, Nat.reduceEqDiff, Nat.reduceAdd, Nat.reduceSub, Nat.reduceMul, Nat.reduceLT, Nat.reduceLeDiff, Int.reduceToNat, Nat.reduceBEq, tq1, tq2, s1, hs, hmk, d_mkmap]
  refine ⟨by omega, ?_⟩
  obtain ⟨h4, e4⟩ : ∃ y, y = (h1.new (.map [] 0)).new (.cells [.pointer (some ⟨ho.next + rs.size, 0, none⟩), .bool x0, .bool x1, .bool x2, .bool x3, .bool x4, .bool x5, .bool x6, .bool x7, .map (some h1.next)] true none) := ⟨_, rfl⟩
  have L4 := (L1.snoc (.map [] 0)).snoc (.cells [.pointer (some ⟨ho.next + rs.size, 0, none⟩), .bool x0, .bool x1, .bool x2, .bool x3, .bool x4, .bool x5, .bool x6, .bool x7, .map (some h1.next)] true none)
  rw [← e4] at L4 ⊢
  clear e4
  have n4 := L4.next
  simp only [List.length_append, RS.len, List.length_singleton] at n4
  have s4 := (L4.old s hsl).trans hs
  have mo4 := (L4.old mo hmol).trans hmo
  refine hg_seq ?_
  refine hg_seq (hg_det okE ?_)
  simp (maxSteps := 10000000) (disch := omega) only [vq0, vq1, vq2, vq3, vq4, vq5, tagOf, reduceIte, reduceCtorEq, Nat.reduceEqDiff, Nat.reduceAdd, Nat.reduceSub, Nat.reduceMul, Nat.reduceLT, Nat.reduceLeDiff, Int.reduceToNat, Nat.reduceBEq, tq1, tq2, s4, range_ord mo4]
  refine ⟨by omega, ?_⟩
  have L5 := L4.snoc (mitOf mo c [])
  obtain ⟨h5, e5⟩ : ∃ y, y = h4.new (.mit (some mo) c [] c) := ⟨_, rfl⟩
  have e5' : h5 = h4.new (mitOf mo c []) := e5
  rw [← e5]
  rw [← e5'] at L5
  clear e5 e5'
  have n5 := L5.next
  simp only [List.length_append, RS.len, List.length_singleton] at n5
  unfold g_p_store_Store_Copy_L0
  refine hg_block ?_
  refine hg_range okE u.below u.nodup (fun vs ρ h' => ∃ S bOf, CI ho rs size [.bool x0, .bool x1, .bool x2, .bool x3, .bool x4, .bool x5, .bool x6, .bool x7] es es2 l c mo vs ρ h' S bOf) (r := ho.next + rs.size + 3) (m := mo) ?_ ?_ ?_ ?_
  · rintro vs ρ h' ⟨S, bOf, x⟩
    have hSl : S.length ≤ l.length := nodup_le _ _ x.nd x.lt
    have := x.n2
    exact ⟨x.r24, x.it, (x.old mo hmol).trans hmo, by omega⟩
  · rintro vs e ρ h' hp he ⟨S, bOf, x⟩
    refine hg_block ?_
    obtain ⟨hle, hget⟩ := readAll_get hl
    obtain ⟨e', he', hkv⟩ := u.mem2 he
    obtain ⟨i, hi⟩ := List.getElem?_of_mem he'
    obtain ⟨os, hos, hro, hstr⟩ := hget i e' hi
    have hkey : e'.key = e.key := congrArg Prod.fst hkv
    have hval : e'.val = e.val := congrArg Prod.snd hkv
    have hil := (List.getElem?_eq_some_iff.1 hos).1
    have hiS : i ∉ S := fun hm => by
      have h1 : kv e' ∈ vs.map kv := by
        rw [x.vis]
        exact List.mem_map.2 ⟨i, hm, by rw [hi]; rfl⟩
      obtain ⟨e2, he2, hk2⟩ := List.mem_map.1 h1
      obtain ⟨a, ha⟩ := List.getElem?_of_mem (hp.sub e2 (List.mem_append_left _ he2))
      obtain ⟨b, hb⟩ := List.getElem?_of_mem he
      have hab := u.dist.get ha hb (by rw [show e2.key = e'.key from congrArg Prod.fst hk2, hkey]) (by rw [show e2.key = e'.key from congrArg Prod.fst hk2]; exact hstr)
      rw [hab, hb] at ha
      have := Option.some.inj ha
      have hnd := hp.nodup
      rw [List.map_append, List.nodup_append] at hnd
      exact hnd.2.2 e.born (by rw [this]; exact List.mem_map_of_mem he2) e.born (by simp) rfl
    have hSl : S.length + 1 ≤ l.length := by
      have := nodup_le l.length (i :: S) (List.nodup_cons.2 ⟨hiS, x.nd⟩) fun j hj => by
        rcases List.mem_cons.1 hj with rfl | hj
        · exact hil
        · exact x.lt j hj
      simpa using this
    have xn1 := x.n1
    have xn2 := x.n2
    obtain ⟨hA, eA⟩ : ∃ y, y = h'.set (ho.next + rs.size + 3) (mitOf mo c (vs ++ [e])) := ⟨_, rfl⟩
    have nA : hA.next = h'.next := by rw [eA]; rfl
    have kA : ∀ b, b ≠ ho.next + rs.size + 3 → hA.get b = h'.get b := fun b hb => by rw [eA, get_set_ne hb]
    have itA : hA.get (ho.next + rs.size + 3) = some (mitOf mo c (vs ++ [e])) := by rw [eA, get_set_same]
    have oldA : ∀ b, b < ho.next → hA.get b = ho.get b := fun b hb => (kA b (by omega)).trans (x.old b hb)
    have fA : ∀ b, hA.next ≤ b → hA.get b = none := fun b hb => (kA b (by omega)).trans (x.fresh b (by omega))
    have qA := (kA (ho.next + rs.size + 2) (by omega)).trans x.q
    have mA := (kA (ho.next + rs.size + 1) (by omega)).trans x.m
    rw [← eA]
    clear eA
    have hent := entry_at itA ((oldA mo hmol).trans hmo) he u.nodup
    have r24 := x.r24
    have r3 := x.r3
    refine hg_seq (hg_det okE ?_)
    simp (maxSteps := 10000000) (disch := omega) only [vq0, vq1, vq2, vq3, vq4, vq5, tagOf, reduceIte, reduceCtorEq, Nat.reduceEqDiff, Nat.reduceAdd, Nat.reduceSub, Nat.reduceMul, Nat.reduceLT, Nat.reduceLeDiff, Int.reduceToNat, Nat.reduceBEq, tq1, tq2, r24, hent]
    refine ⟨by omega, ?_⟩
    refine hg_det okE ?_
    simp (maxSteps := 10000000) (disch := omega) only [vq0, vq1, vq2, vq3, vq4, vq5, tagOf, reduceIte, reduceCtorEq, Nat.reduceEqDiff, Nat.reduceAdd, Nat.reduceSub, Nat.reduceMul, Nat.reduceLT, Nat.reduceLeDiff, Int.reduceToNat, Nat.reduceBEq, tq1, tq2, r3, qA]
    have hroA : readOS hA e.val = some os := os_old hf (by omega) (fun b hb _ => oldA b hb) (by rw [← hval]; exact hro)
    refine (copied_x hA fA e.val os hroA).mono ?_
    rintro w hB ⟨rfl, LB⟩
    have nB := LB.next
    rw [OS.len] at nB
    have s6 := os.size_le
    have qB := (LB.old (ho.next + rs.size + 2) (by omega)).trans qA
    have mB := (LB.old (ho.next + rs.size + 1) (by omega)).trans mA
    obtain ⟨kb, hkb⟩ : ∃ b, e.key = .string b := by
      rw [hkey] at hstr
      cases hx : e.key <;> rw [hx] at hstr <;> first | exact ⟨_, rfl⟩ | cases hstr
    have hfn : findV (.string kb) (visE es l bOf S 0) 0 = some none := find_noneI 0 fun y hy => by
      obtain ⟨j, hj⟩ := List.getElem?_of_mem hy
      rw [visE_get] at hj
      obtain ⟨a, ha, rfl⟩ := Option.map_eq_some_iff.1 hj
      have haS := List.mem_of_getElem? ha
      have hal := x.lt a haS
      have e1 := List.getElem?_eq_getElem (l := es) (i := a) (by omega)
      have hne : a ≠ i := fun q => hiS (by rw [← q]; exact haS)
      simp only [e1, Option.map_some, Option.getD_some]
      rw [← hkb, ← hkey]
      obtain ⟨li, ei⟩ := List.getElem?_eq_some_iff.1 hi
      have hpw := List.pairwise_iff_getElem.1 u.dist1
      rcases Nat.lt_or_gt_of_ne hne with q | q
      · have := hpw a i (by rw [List.length_map]; omega) (by rw [List.length_map]; omega) q
        rw [List.getElem_map, List.getElem_map, ei] at this
        exact keyEq_symm this
      · have := hpw i a (by rw [List.length_map]; omega) (by rw [List.length_map]; omega) q
        rw [List.getElem_map, List.getElem_map, ei] at this
        exact this
    have hput := put_objs mB kb (os.ptr hA.next) hfn
    rw [hkb]
    simp (maxSteps := 10000000) (disch := omega) only [vq0, vq1, vq2, vq3, vq4, vq5, tagOf, reduceIte, reduceCtorEq, Nat.reduceEqDiff, Nat.reduceAdd, Nat.reduceSub, Nat.reduceMul, Nat.reduceLT, Nat.reduceLeDiff, Int.reduceToNat, Nat.reduceBEq, tq1, tq2, r3, qA, qB, hput]
    obtain ⟨hF, eF⟩ : ∃ y, y = hB.set (ho.next + rs.size + 1) (.map (visE es l bOf S 0 ++ [{ key := .string kb, val := os.ptr hA.next, born := S.length }]) (S.length + 1)) := ⟨_, rfl⟩
    have nF : hF.next = hB.next := by rw [eF]; rfl
    have mF : hF.get (ho.next + rs.size + 1) = some (.map (visE es l bOf S 0 ++ [{ key := .string kb, val := os.ptr hA.next, born := S.length }]) (S.length + 1)) := by rw [eF, get_set_same]
    have kF : ∀ b, b ≠ ho.next + rs.size + 1 → hF.get b = hB.get b := fun b hb => by rw [eF, get_set_ne hb]
    rw [← eF]
    clear eF
    have kAF : ∀ b, b < hA.next → b ≠ ho.next + rs.size + 1 → hF.get b = hA.get b := fun b hb hb2 => (kF b hb2).trans (LB.old b hb)
    have kXF : ∀ b, b < hA.next → b ≠ ho.next + rs.size + 1 → b ≠ ho.next + rs.size + 3 → hF.get b = h'.get b := fun b hb h1 h2 => (kAF b hb h1).trans (kA b h2)
    have hbi : ∀ j ∈ S, (if j = i then hA.next else bOf j) = bOf j := fun j hj => if_neg fun q => hiS (by rw [← q]; exact hj)
    refine ⟨by omega, S ++ [i], fun j => if j = i then hA.next else bOf j, ?_⟩
    have c1 : ho.next + rs.size + 4 ≤ hF.next := by omega
    have c2 : hF.next ≤ ho.next + rs.size + 4 + 6 * (S ++ [i]).length := by
      rw [List.length_append, List.length_singleton]
      omega
    have c3 : ∀ b, b < ho.next → hF.get b = ho.get b := fun b hb => (kXF b (by omega) (by omega) (by omega)).trans (x.old b hb)
    have c4 : ∀ b, hF.next ≤ b → hF.get b = none := fun b hb => (kF b (by omega)).trans (LB.none fA b (by omega))
    have c5 := (kXF (ho.next + rs.size) (by omega) (by omega) (by omega)).trans x.sp
    have c6 := (kXF (ho.next + rs.size + 2) (by omega) (by omega) (by omega)).trans x.q
    have c7 := (kAF (ho.next + rs.size + 3) (by omega) (by omega)).trans itA
    refine CI.mk r3 r24 c1 c2 c3 c4 (fun k o hk => ?_) c5 ?_ c6 c7 ?_ (fun j hj => ?_) ?_ (fun j hj t ht => ?_) (fun j hj j' hj' t t' ht ht' hne => ?_)
    · have hk1 := (List.getElem?_eq_some_iff.1 hk).1
      rw [RS.len] at hk1
      exact (kXF _ (by omega) (by omega) (by omega)).trans (x.pr k o hk)
    · rw [mF, visE_snoc, List.length_append, List.length_singleton, visE_congr es l 0 hbi]
      simp only [hi, hos, Option.map_some, Option.getD_some, if_pos, Nat.zero_add]
      rw [hkey, hkb]
    · rw [List.nodup_append]
      exact ⟨x.nd, by simp, fun a ha b hb => by simp at hb; subst hb; exact fun q => hiS (by rw [← q]; exact ha)⟩
    · rcases List.mem_append.1 hj with hj | hj
      · exact x.lt j hj
      · rw [List.mem_singleton] at hj; rw [hj]; exact hil
    · rw [List.map_append, x.vis, List.map_append, List.map_cons, List.map_cons, List.map_nil, List.map_nil, hi]
      simp only [Option.map_some, Option.getD_some]
      rw [show kv e = kv e' from hkv.symm]
      rfl
    · rcases List.mem_append.1 hj with hj | hj
      · obtain ⟨p1, p2, p3⟩ := x.placed j hj t ht
        simp only [hbi j hj]
        refine ⟨p1, by omega, fun k o hk => ?_⟩
        have hk1 := (List.getElem?_eq_some_iff.1 hk).1
        rw [OS.len] at hk1
        exact (kXF _ (by omega) (by omega) (by omega)).trans (p3 k o hk)
      · rw [List.mem_singleton] at hj
        subst hj
        rw [hos] at ht
        cases ht
        simp only [if_pos]
        refine ⟨by omega, by omega, fun k o hk => (kF _ (by omega)).trans (LB.new k o hk)⟩
    · rcases List.mem_append.1 hj with g1 | g1
      · rcases List.mem_append.1 hj' with g2 | g2
        · simp only [hbi j g1, hbi j' g2]
          exact x.disj j g1 j' g2 t t' ht ht' hne
        · have g3 : j' = i := List.mem_singleton.1 g2
          have := (x.placed j g1 t ht).2.1
          simp only [hbi j g1, if_pos g3]
          omega
      · have g3 : j = i := List.mem_singleton.1 g1
        rcases List.mem_append.1 hj' with g2 | g2
        · have := (x.placed j' g2 t' ht').2.1
          simp only [hbi j' g2, if_pos g3]
          omega
        · have g4 : j' = i := List.mem_singleton.1 g2
          exact absurd (g3.trans g4.symm) hne
  · rintro vs ρ h' hp hev ⟨S, bOf, x⟩
    have hSl : S.length ≤ l.length := nodup_le _ _ x.nd x.lt
    have xn2 := x.n2
    have r3 := x.r3
    show blockQ 0 _ (.exit 0) _ _
    unfold blockQ
    simp only [if_pos]
    refine hg_seq (hg_det okE ?_)
    simp (maxSteps := 10000000) (disch := omega) only [vq0, vq1, vq2, vq3, vq4, vq5, tagOf, reduceIte, reduceCtorEq, Nat.reduceEqDiff, Nat.reduceAdd, Nat.reduceSub, Nat.reduceMul, Nat.reduceLT, Nat.reduceLeDiff, Int.reduceToNat, Nat.reduceBEq, tq1, tq2, r3]
    refine ⟨by omega, ?_⟩
    refine hg_det okE ?_
    simp (maxSteps := 10000000) (disch := omega) only [vq0, vq1, vq2, vq3, vq4, vq5, tagOf, reduceIte, reduceCtorEq, Nat.reduceEqDiff, Nat.reduceAdd, Nat.reduceSub, Nat.reduceMul, Nat.reduceLT, Nat.reduceLeDiff, Int.reduceToNat, Nat.reduceBEq, tq1, tq2]
    exact ⟨by omega, vs, S, bOf, ρ, x, hev⟩
  · refine ⟨[], fun _ => 0, ?_⟩
    have L := L5
    simp only [List.append_assoc] at L
    simp only [List.cons_append, List.nil_append, n1] at L
    have at_ : ∀ j o, ([.cells [size, rs.val ho.next] true none, .map [] 0, .cells [.pointer (some ⟨ho.next + rs.size, 0, none⟩), .bool x0, .bool x1, .bool x2, .bool x3, .bool x4, .bool x5, .bool x6, .bool x7, .map (some (ho.next + (rs.size + 1)))] true none, mitOf mo c []] : List Blk)[j]? = some o → h5.get (ho.next + (rs.size + j)) = some o := fun j o hj =>
      L.new (rs.size + j) o (by rw [List.getElem?_append_right (by rw [RS.len]; omega), RS.len, show rs.size + j - rs.size = j by omega]; exact hj)
    refine CI.mk ?_ ?_ (by omega) (by simp only [List.length_nil]; omega) L.old (L.none hf) (fun k o hk => ?_) (at_ 0 _ rfl) (at_ 1 _ rfl) (at_ 2 _ rfl) (at_ 3 _ rfl) List.nodup_nil (fun _ h => nomatch h) rfl (fun _ h => nomatch h) (fun _ h => nomatch h)
    · show Value.pointer (some ⟨h1.next + 1, 0, none⟩) = _
      rw [show h1.next + 1 = ho.next + rs.size + 2 by omega]
    · show Value.pointer (some ⟨h4.next, 0, none⟩) = _
      rw [show h4.next = ho.next + rs.size + 3 by omega]
    · have hk1 := (List.getElem?_eq_some_iff.1 hk).1
      exact L.new k o (by rw [List.getElem?_append_left hk1]; exact hk)
end Go.Proofs.YtenhhbammadpbaaGreatDoor.Cp
open Go Go.Vi
namespace Go.Proofs.YtenhhbammadpbaaGreatDoor.Cp
set_option linter.unusedSimpArgs false
set_option maxRecDepth 100000
set_option maxHeartbeats 40000000
theorem copy_sr (ho : Heap) (hf : ∀ b, ho.next ≤ b → ho.get b = none) (s sp mo c : Nat) (rs : RS) (size hv : Value) (x0 x1 x2 x3 x4 x5 x6 x7 : Bool) (w1 w2 : Bool) (o1 o2 : Option (Nat × Nat)) (es es2 : List MapEntry) (l : List OS)
    (hs : ho.get s = some (.cells [.pointer (some ⟨sp, 0, none⟩), .bool x0, .bool x1, .bool x2, .bool x3, .bool x4, .bool x5, .bool x6, .bool x7, .map (some mo)] w1 o1)) (hsp : ho.get sp = some (.cells [size, hv] w2 o2)) (hsz : isInt size = true)
    (hrs : readRS 2 ho hv = some rs) (hmo : ho.get mo = some (.map es2 c)) (u : UPerm es es2 c) (hl : readAll ho es = some l) (K : Known) :
    ∃ fn, E.fn f_p_store_Store_Copy = some fn ∧ SR K Tryz.prog (ho.next + rs.size + 4 + 6 * l.length + 6) fn.body ([.pointer (some ⟨s, 0, none⟩)] ++ List.replicate (fn.fn.ntmps - [Value.pointer (some ⟨s, 0, none⟩)].length) undef, ho) fun x s' => (x = .normal ∨ x = .ret) ∧
      ∃ k τ, resultsV E s' fn.fn.results.toList = some k ∧ Ren ho s'.2 (canonC t_uint8 t_api_Extent ho (preC t_api_Extent ho.next rs size [.bool x0, .bool x1, .bool x2, .bool x3, .bool x4, .bool x5, .bool x6, .bool x7] es l) l) τ ∧ VR τ (.pointer (some ⟨ho.next + rs.size + 2, 0, none⟩)) (oneOrTuple k) := by
  obtain ⟨fn, hfn, _, hres, hsr⟩ := hg_sr (K := K) (P := Tryz.prog) okE is_p_store_Store_Copy (args := [.pointer (some ⟨s, 0, none⟩)]) (Nat.le_of_ble_eq_true rfl) (h := ho) (N := ho.next + rs.size + 4 + 6 * l.length + 6)
    (S := fun x s' => (x = .normal ∨ x = .ret) ∧ ∃ k τ, resultsV E s' [.tmp 2] = some k ∧ Ren ho s'.2 (canonC t_uint8 t_api_Extent ho (preC t_api_Extent ho.next rs size [.bool x0, .bool x1, .bool x2, .bool x3, .bool x4, .bool x5, .bool x6, .bool x7] es l) l) τ ∧ VR τ (.pointer (some ⟨ho.next + rs.size + 2, 0, none⟩)) (oneOrTuple k))
    (fun pl => Go.Vi.HG.mono (copy_hg ho hf s sp mo c rs size hv x0 x1 x2 x3 x4 x5 x6 x7 w1 w2 o1 o2 es es2 l hs hsp hsz hrs hmo u hl pl) fun x ρ' h1 ⟨hx, r2, vs, S, bOf, ρ1, ci, hev⟩ t bt => by
      obtain ⟨hle, hget⟩ := readAll_get hl
      have hres : resultsV E (t, h1) [.tmp 2] = some [ρ' 2] := by rw [res_H bt h1 [.tmp 2] rfl]; rfl
      have hall : ∀ i, i < l.length ↔ i ∈ S := fun i => by
        refine ⟨fun li => ?_, ci.lt i⟩
        have e1 := List.getElem?_eq_getElem (l := es) (i := i) (by omega)
        obtain ⟨_, _, _, hstr⟩ := hget i _ e1
        obtain ⟨e2, he2, hk2⟩ := u.mem (List.mem_of_getElem? e1)
        have h1 : kv e2 ∈ vs.map kv := List.mem_map_of_mem (hev e2 he2)
        rw [ci.vis] at h1
        obtain ⟨j, hj, hjk⟩ := List.mem_map.1 h1
        have lj := ci.lt j hj
        have e3 := List.getElem?_eq_getElem (l := es) (i := j) (by omega)
        rw [hk2] at hjk
        simp only [e3, Option.map_some, Option.getD_some] at hjk
        have := u.dist1.get e1 e3 (congrArg Prod.fst hjk).symm hstr
        rw [this]
        exact hj
      have hlen : S.length ≤ l.length := nodup_le _ _ ci.nd ci.lt
      have n1 := ci.n1
      have n2 := ci.n2
      refine ⟨.inr hx, _, _, hres, copy_ren hf u hl (readRS_ok hrs) hsz rfl ci.nd hall ci.old (by show ho.next ≤ h1.next; omega) (by show h1.next ≤ _; omega) ci.pr ci.sp ci.m ci.q (fun i s hi => ci.placed i ((hall i).1 (List.getElem?_eq_some_iff.1 hi).1) s hi)
        (fun i i' s s' hi hi' hne => ci.disj i ((hall i).1 (List.getElem?_eq_some_iff.1 hi).1) i' ((hall i').1 (List.getElem?_eq_some_iff.1 hi').1) s s' hi hi' hne), ?_⟩
      show VR _ _ (ρ' 2)
      rw [r2]
      have := VR.ptr (τ := tauC (ho.next + rs.size + 4) l.length bOf) (ho.next + rs.size + 2) 0
      rw [show tauC (ho.next + rs.size + 4) l.length bOf (ho.next + rs.size + 2) = ho.next + rs.size + 2 from if_neg (by omega)] at this
      exact this)
  refine ⟨fn, hfn, ?_⟩
  rw [hres]
  exact hsr
end Go.Proofs.YtenhhbammadpbaaGreatDoor.Cp
open Go Go.Vi
namespace Go.Proofs.YtenhhbammadpbaaGreatDoor.Cp
set_option linter.unusedSimpArgs false
set_option maxRecDepth 100000
set_option maxHeartbeats 40000000
theorem readAll_old {h h1 : Heap} (hf : ∀ b, h.next ≤ b → h.get b = none) (hn : h.next ≤ h1.next) (old : ∀ b, b < h.next → (∀ es, h.get b ≠ some (.umap es)) → h1.get b = h.get b) : ∀ {es : List MapEntry} {l : List OS}, readAll h es = some l → readAll h1 es = some l
  | [], l, hr => hr
  | e :: r, l, hr => by
    unfold readAll at hr ⊢
    split at hr
    · rename_i hk
      split at hr
      · rename_i s l' hs hl
        cases hr
        rw [if_pos hk, os_old hf hn old hs, readAll_old hf hn old hl]
      · cases hr
    · cases hr
theorem canonC_next (tb te : TypeId) (h : Heap) (rs : RS) (size : Value) (bl : List Value) (es : List MapEntry) (l : List OS) : (canonC tb te h (preC te h.next rs size bl es l) l).next = h.next + rs.size + 4 + 6 * l.length + 6 := by
  show h.next + (preC te h.next rs size bl es l).length + 1 + 6 * l.length + 6 = _
  rw [preC_len]
  omega
theorem copyX_ok {K : Known} : ExtOk K Tryz.prog f_p_store_Store_Copy (copyX t_uint8 t_api_Extent) := by
  intro args h v h' hc
  unfold copyX at hc
  split at hc
  · rename_i s
    split at hc
    · rename_i sp b0 b1 b2 b3 b4 b5 b6 b7 mo w1 o1 hs
      split at hc
      · rename_i size hv w2 o2 hsp
        split at hc
        · rename_i hbl
          rw [Bool.and_eq_true] at hbl
          obtain ⟨hb, hsz⟩ := hbl
          simp only [List.all_cons, List.all_nil, Bool.and_true, Bool.and_eq_true] at hb
          obtain ⟨q0, q1, q2, q3, q4, q5, q6, q7⟩ := hb
          obtain ⟨x0, rfl⟩ := bool_is q0
          obtain ⟨x1, rfl⟩ := bool_is q1
          obtain ⟨x2, rfl⟩ := bool_is q2
          obtain ⟨x3, rfl⟩ := bool_is q3
          obtain ⟨x4, rfl⟩ := bool_is q4
          obtain ⟨x5, rfl⟩ := bool_is q5
          obtain ⟨x6, rfl⟩ := bool_is q6
          obtain ⟨x7, rfl⟩ := bool_is q7
          split at hc
          · rename_i rs es hrs hes
            split at hc
            · rename_i l hl
              cases hc
              obtain ⟨fn0, hf0⟩ : ∃ fn, E.fn f_p_store_Store_Copy = some fn := by obtain ⟨_, _, fn, h1, _⟩ := is_p_store_Store_Copy; exact ⟨fn, h1⟩
              have q := (okE (K := K)).fn _ _ hf0
              have hnx := canonC_next t_uint8 t_api_Extent h rs size [.bool x0, .bool x1, .bool x2, .bool x3, .bool x4, .bool x5, .bool x6, .bool x7] es l
              refine ⟨⟨fn0.fn, q.fn, q.name, by rw [q.body]; simp⟩, by rw [hnx]; omega, fun ρ w args' g win hargs => ?_⟩
              unfold entsU at hes
              split at hes
              · rename_i es0 c hmo
                split at hes
                · rename_i hu
                  cases hes
                  obtain ⟨fn, hf, hsr⟩ := copy_sr h g.fresh s sp mo c rs size hv x0 x1 x2 x3 x4 x5 x6 x7 w1 w2 o1 o2 es es l hs hsp hsz hrs hmo (uniqB_ok hu) hl K
                  rw [← hnx] at hsr
                  exact sr_call okE hf hsr g win hargs
                · cases hes
              · rename_i es0 hmo
                cases hes
                obtain ⟨i, hi⟩ : ∃ i, ρ mo = some i := by
                  obtain ⟨v', r', _, hv', _⟩ := hargs.cons_inv
                  cases hv' with
                  | ptr _ _ j hj =>
                    obtain ⟨_, _, _, _, _, _, _, hcs, _⟩ := g.rel s j _ hj hs
                    obtain ⟨u, _, hu⟩ := hcs.get (j := 9) rfl
                    cases hu with
                    | map _ i hi => exact ⟨i, hi⟩
                obtain ⟨es2, c, u, go⟩ := g.opened hi hmo
                have hml : mo < h.next := Nat.lt_of_not_le fun hx => by rw [g.fresh mo hx] at hmo; cases hmo
                have old : ∀ b, b < h.next → (∀ es, h.get b ≠ some (.umap es)) → (h.set mo (.map es2 c)).get b = h.get b := fun b _ hb => get_set_ne fun e => hb es (by rw [e]; exact hmo)
                have hso : (h.set mo (.map es2 c)).get s = _ := (get_set_ne fun e => by rw [e, hmo] at hs; cases hs).trans hs
                have hspo : (h.set mo (.map es2 c)).get sp = _ := (get_set_ne fun e => by rw [e, hmo] at hsp; cases hsp).trans hsp
                have hrso := rs_old g.fresh (h1 := h.set mo (.map es2 c)) (fun b hb ⟨cs, w, o, e⟩ => old b hb fun es q => by rw [e] at q; cases q) hrs
                have hlo := readAll_old g.fresh (h1 := h.set mo (.map es2 c)) (Nat.le_refl _) old hl
                obtain ⟨fn, hf, hsr⟩ := copy_sr (h.set mo (.map es2 c)) go.fresh s sp mo c rs size hv x0 x1 x2 x3 x4 x5 x6 x7 w1 w2 o1 o2 es es2 l hso hspo hsz hrso (get_set_same _ _ _) u hlo K
                refine (sr_call (h' := (canonC t_uint8 t_api_Extent h (preC t_api_Extent h.next rs size [.bool x0, .bool x1, .bool x2, .bool x3, .bool x4, .bool x5, .bool x6, .bool x7] es l) l).set mo (.map es2 c)) okE hf ?_ go win hargs).mono fun e w' p => Post.shut hi hmo ?_ u p
                · have hsr2 := hsr
                  rw [show (h.set mo (.map es2 c)).next + rs.size + 4 + 6 * l.length + 6 = (canonC t_uint8 t_api_Extent h (preC t_api_Extent h.next rs size [.bool x0, .bool x1, .bool x2, .bool x3, .bool x4, .bool x5, .bool x6, .bool x7] es l) l).next from hnx.symm] at hsr2
                  exact hsr2.mono fun x s' ⟨hx, k, τ, h1, h2, h3⟩ => ⟨hx, k, τ, h1, h2.congr rfl fun y => canon_set hml y, h3⟩
                · rw [canonC_get, canonO_get, if_neg (by omega), layA_get, if_neg (by omega)]
                  exact hmo
              · cases hes
            · cases hc
          · cases hc
        · cases hc
      · cases hc
    · cases hc
  · cases hc
end Go.Proofs.YtenhhbammadpbaaGreatDoor.Cp
open Go Go.Vi
namespace Go.Proofs.YtenhhbammadpbaaGreatDoor.Cp
set_option linter.unusedSimpArgs false
set_option maxRecDepth 100000
set_option maxHeartbeats 40000000
theorem pre_ok (h : Heap) (k p : List UInt8) : Ret E f_internal_stringslite_HasPrefix [.string (strOf k), .string (strOf p)] h fun v h' => v = .bool (hasPre p k) ∧ h' = h := by
  refine ret_fun is_internal_stringslite_HasPrefix (by simp) ?_
  unfold g_internal_stringslite_HasPrefix
  rcases Nat.lt_or_ge k.length p.length with q | q
  · have hp : hasPre p k = false := by
      unfold hasPre
      rw [List.take_of_length_le (by omega)]
      exact beq_eq_false_iff_ne.2 fun e => by rw [e] at q; omega
    simp (maxSteps := 10000000) (disch := omega) only [vq0, vq1, vq2, vq3, vq4, vq5, tagOf, reduceIte, reduceCtorEq, Nat.reduceEqDiff, Nat.reduceAdd, Nat.reduceSub, Nat.reduceMul, Nat.reduceLT, Nat.reduceLeDiff, Int.reduceToNat, Nat.reduceBEq, tq1, tq2, hp]
  · simp (maxSteps := 10000000) (disch := omega) only [vq0, vq1, vq2, vq3, vq4, vq5, tagOf, reduceIte, reduceCtorEq, Nat.reduceEqDiff, Nat.reduceAdd, Nat.reduceSub, Nat.reduceMul, Nat.reduceLT, Nat.reduceLeDiff, Int.reduceToNat, Nat.reduceBEq, tq1, tq2]
    rfl
theorem has_ok (h : Heap) (k p : List UInt8) : Ret E f_strings_HasPrefix [.string (strOf k), .string (strOf p)] h fun v h' => v = .bool (hasPre p k) ∧ h' = h := by
  refine ret_fun is_strings_HasPrefix (by simp) ?_
  unfold g_strings_HasPrefix
  simp (maxSteps := 10000000) (disch := omega) only [vq0, vq1, vq2, vq3, vq4, vq5, tagOf, reduceIte, reduceCtorEq, Nat.reduceEqDiff, Nat.reduceAdd, Nat.reduceSub, Nat.reduceMul, Nat.reduceLT, Nat.reduceLeDiff, Int.reduceToNat, Nat.reduceBEq, tq1, tq2, (pre_ok h k p).eq]
theorem tx_string0 : (E.ty t_string).map (fun i => i.under) = some .string := by kernel_rfl
theorem tx_string : Tx E t_string := tx_string0
theorem ix0 (l : List UInt8) (q : IntKind) : indexV E t_string (.string (strOf (0 :: l))) (.int q 0) = some (.int .u8 0) := ixT (c := 0) tx_string (Int.le_refl 0) rfl
theorem ix1 (l : List UInt8) (q : IntKind) : indexV E t_string (.string (strOf (0 :: 1 :: l))) (.int q 1) = some (.int .u8 1) := ixT (c := 1) tx_string (by decide) rfl
theorem len64_0 (h : Heap) : Ret E f_math_bits_Len64 [.int .u64 0] h fun v h' => v = .int .i64 0 ∧ h' = h := by
  refine ret_fun is_math_bits_Len64 (by simp) ?_
  unfold g_math_bits_Len64
  simp (maxSteps := 10000000) (disch := omega) only [vq0, vq1, vq2, vq3, vq4, vq5, tagOf, reduceIte, reduceCtorEq, Nat.reduceEqDiff, Nat.reduceAdd, Nat.reduceSub, Nat.reduceMul, Nat.reduceLT, Nat.reduceLeDiff, Int.reduceToNat, Nat.reduceBEq, tq1, tq2, ix0, Int.reduceAdd]
theorem len64_1 (h : Heap) : Ret E f_math_bits_Len64 [.int .u64 1] h fun v h' => v = .int .i64 1 ∧ h' = h := by
  refine ret_fun is_math_bits_Len64 (by simp) ?_
  unfold g_math_bits_Len64
  simp (maxSteps := 10000000) (disch := omega) only [vq0, vq1, vq2, vq3, vq4, vq5, tagOf, reduceIte, reduceCtorEq, Nat.reduceEqDiff, Nat.reduceAdd, Nat.reduceSub, Nat.reduceMul, Nat.reduceLT, Nat.reduceLeDiff, Int.reduceToNat, Nat.reduceBEq, tq1, tq2, ix1, Int.reduceAdd]
theorem len_n (h : Heap) (n : Nat) (hn : n ≤ 1) : Ret E f_math_bits_Len [.int .u64 n] h fun v h' => v = .int .i64 n ∧ h' = h := by
  refine ret_fun is_math_bits_Len (by simp) ?_
  unfold g_math_bits_Len
  rcases (show n = 0 ∨ n = 1 by omega) with rfl | rfl
  · simp (maxSteps := 10000000) (disch := omega) only [vq0, vq1, vq2, vq3, vq4, vq5, tagOf, reduceIte, reduceCtorEq, Nat.reduceEqDiff, Nat.reduceAdd, Nat.reduceSub, Nat.reduceMul, Nat.reduceLT, Nat.reduceLeDiff, Int.reduceToNat, Nat.reduceBEq, tq1, tq2, show ((0 : Nat) : Int) = 0 from rfl, (len64_0 h).eq]
  · simp (maxSteps := 10000000) (disch := omega) only [vq0, vq1, vq2, vq3, vq4, vq5, tagOf, reduceIte, reduceCtorEq, Nat.reduceEqDiff, Nat.reduceAdd, Nat.reduceSub, Nat.reduceMul, Nat.reduceLT, Nat.reduceLeDiff, Int.reduceToNat, Nat.reduceBEq, tq1, tq2, show ((1 : Nat) : Int) = 1 from rfl, (len64_1 h).eq]
theorem insert_n (h : Heap) (v : Value) (n : Nat) (hn : n ≤ 1) : Ret E f_slices_insertionSortOrdered_string [v, .int .i64 0, .int .i64 n] h fun _ h' => h' = h := by
  refine ret_fun is_slices_insertionSortOrdered_string (by simp) ?_
  unfold g_slices_insertionSortOrdered_string
  simp (maxSteps := 10000000) (disch := omega) only [vq0, vq1, vq2, vq3, vq4, vq5, tagOf, reduceIte, reduceCtorEq, Nat.reduceEqDiff, Nat.reduceAdd, Nat.reduceSub, Nat.reduceMul, Nat.reduceLT, Nat.reduceLeDiff, Int.reduceToNat, Nat.reduceBEq, tq1, tq2]
  refine r_loop (k := 0) (fun _ ρ h' => h' = h ∧ ρ 0 = v ∧ ρ 1 = .int .i64 0 ∧ ρ 2 = .int .i64 n ∧ ρ 6 = .int .i64 1) ?_ ?_
  · rintro k ρ h' ⟨rfl, r0, r1, r2, r6⟩
    unfold g_slices_insertionSortOrdered_string_L1
    simp (maxSteps := 10000000) (disch := omega) only [vq0, vq1, vq2, vq3, vq4, vq5, tagOf, reduceIte, reduceCtorEq, Nat.reduceEqDiff, Nat.reduceAdd, Nat.reduceSub, Nat.reduceMul, Nat.reduceLT, Nat.reduceLeDiff, Int.reduceToNat, Nat.reduceBEq, tq1, tq2, r0, r1, r2, r6]
  · simp (maxSteps := 10000000) (disch := omega) only [vq0, vq1, vq2, vq3, vq4, vq5, tagOf, reduceIte, reduceCtorEq, Nat.reduceEqDiff, Nat.reduceAdd, Nat.reduceSub, Nat.reduceMul, Nat.reduceLT, Nat.reduceLeDiff, Int.reduceToNat, Nat.reduceBEq, tq1, tq2, Int.reduceAdd]
theorem pdq_n (h : Heap) (v : Value) (n : Nat) (hn : n ≤ 1) : Ret E f_slices_pdqsortOrdered_string [v, .int .i64 0, .int .i64 n, .int .i64 n] h fun _ h' => h' = h := by
  refine ret_fun is_slices_pdqsortOrdered_string (by simp) ?_
  unfold g_slices_pdqsortOrdered_string
  simp (maxSteps := 10000000) (disch := omega) only [vq0, vq1, vq2, vq3, vq4, vq5, tagOf, reduceIte, reduceCtorEq, Nat.reduceEqDiff, Nat.reduceAdd, Nat.reduceSub, Nat.reduceMul, Nat.reduceLT, Nat.reduceLeDiff, Int.reduceToNat, Nat.reduceBEq, tq1, tq2]
  refine r_loop (k := 0) (fun _ ρ h' => h' = h ∧ ρ 0 = v ∧ ρ 1 = .int .i64 0 ∧ ρ 2 = .int .i64 n) ?_ ?_
  · rintro k ρ h' ⟨rfl, r0, r1, r2⟩
    unfold g_slices_pdqsortOrdered_string_L0
    simp (maxSteps := 10000000) (disch := omega) only [vq0, vq1, vq2, vq3, vq4, vq5, tagOf, reduceIte, reduceCtorEq, Nat.reduceEqDiff, Nat.reduceAdd, Nat.reduceSub, Nat.reduceMul, Nat.reduceLT, Nat.reduceLeDiff, Int.reduceToNat, Nat.reduceBEq, tq1, tq2, r0, r1, r2]
    refine (insert_n h' v n hn).mono ?_
    rintro u h2 rfl
    simp (maxSteps := 10000000) (disch := omega) only [vq0, vq1, vq2, vq3, vq4, vq5, tagOf, reduceIte, reduceCtorEq, Nat.reduceEqDiff, Nat.reduceAdd, Nat.reduceSub, Nat.reduceMul, Nat.reduceLT, Nat.reduceLeDiff, Int.reduceToNat, Nat.reduceBEq, tq1, tq2, r0, r1, r2]
  · simp (maxSteps := 10000000) (disch := omega) only [vq0, vq1, vq2, vq3, vq4, vq5, tagOf, reduceIte, reduceCtorEq, Nat.reduceEqDiff, Nat.reduceAdd, Nat.reduceSub, Nat.reduceMul, Nat.reduceLT, Nat.reduceLeDiff, Int.reduceToNat, Nat.reduceBEq, tq1, tq2]
theorem sort_n (h : Heap) (a : Option Addr) (n c : Nat) (hn : n ≤ 1) : Ret E f_slices_Sort_s_string_string [.slice a n c] h fun _ h' => h' = h := by
  refine ret_fun is_slices_Sort_s_string_string (by simp) ?_
  unfold g_slices_Sort_s_string_string
  simp (maxSteps := 10000000) (disch := omega) only [vq0, vq1, vq2, vq3, vq4, vq5, tagOf, reduceIte, reduceCtorEq, Nat.reduceEqDiff, Nat.reduceAdd, Nat.reduceSub, Nat.reduceMul, Nat.reduceLT, Nat.reduceLeDiff, Int.reduceToNat, Nat.reduceBEq, tq1, tq2, (len_n h n hn).eq]
  refine (pdq_n h _ n hn).mono ?_
  rintro u h2 rfl
  simp (maxSteps := 10000000) (disch := omega) only [vq0, vq1, vq2, vq3, vq4, vq5, tagOf, reduceIte, reduceCtorEq, Nat.reduceEqDiff, Nat.reduceAdd, Nat.reduceSub, Nat.reduceMul, Nat.reduceLT, Nat.reduceLeDiff, Int.reduceToNat, Nat.reduceBEq, tq1, tq2]
end Go.Proofs.YtenhhbammadpbaaGreatDoor.Cp
open Go Go.Vi
namespace Go.Proofs.YtenhhbammadpbaaGreatDoor.Cp
set_option linter.unusedSimpArgs false
set_option maxRecDepth 100000
set_option maxHeartbeats 40000000
theorem okSrc_s : okSrc E (some t_s_string) = some true := by kernel_rfl
structure NI (ho : Heap) (p : ByteArray) (mo c : Nat) (vs : List MapEntry) (ρ : Fr) (h1 : Heap) : Prop where
  r1 : ρ 1 = .string p
  r13 : ρ 13 = .pointer (some ⟨ho.next, 0, none⟩)
  n1 : ho.next + 1 ≤ h1.next
  old : ∀ b, b < ho.next → h1.get b = ho.get b
  it : h1.get ho.next = some (mitOf mo c vs)
  row : ((∀ e ∈ vs, mtc p e = false) ∧ ρ 5 = .slice none 0 0 ∧ h1.next = ho.next + 1) ∨
    ∃ e ∈ vs, mtc p e = true ∧ ∃ b, ρ 5 = .slice (some ⟨b, 0, none⟩) 1 1 ∧ ho.next < b ∧ b < h1.next ∧ h1.get b = some (.cells [e.key] true (some (1, t_string))) ∧ h1.next ≤ ho.next + 3
theorem CdOk.cond {n : Nat} {pl : Nat → Option Plan} {o : Operand} {a b : Code} (k : CdOk n pl (.cond o a b)) : CdOk n pl a ∧ CdOk n pl b := by
  obtain ⟨h1, h2, h3⟩ := k
  unfold codeChk at h1
  simp only [codeOk, planOk, Bool.and_eq_true] at h1 h2 h3
  exact ⟨⟨h1.1.2, h2.1.2, h3.1⟩, ⟨h1.2, h2.2, h3.2⟩⟩
theorem hg_cond {K : Known} {P : Program} {N n : Nat} {pl : Nat → Option Plan} {o : Operand} {x y : HC} {ρ : Fr} {h : Heap} {S : Qt} (r : (evH ρ o = .bool true ∧ HG K P N n pl x ρ h S) ∨ (evH ρ o = .bool false ∧ HG K P N n pl y ρ h S)) : HG K P N n pl (.cond o x y) ρ h S := by
  intro c hk k
  obtain ⟨a, b, rfl, ha, hb⟩ := hc_cond hk
  obtain ⟨ka, kb⟩ := CdOk.cond k
  exact hr_cond k (r.imp (fun ⟨h1, h2⟩ => ⟨h1, h2 a ha ka⟩) fun ⟨h1, h2⟩ => ⟨h1, h2 b hb kb⟩)
theorem names_hg (ho : Heap) (hf : ∀ b, ho.next ≤ b → ho.get b = none) (s mo c : Nat) (p : ByteArray) (v0 v1 v2 v3 v4 v5 v6 v7 v8 : Value) (w1 : Bool) (o1 : Option (Nat × Nat)) (es es2 : List MapEntry)
    (hs : ho.get s = some (.cells [v0, v1, v2, v3, v4, v5, v6, v7, v8, .map (some mo)] w1 o1)) (hmo : ho.get mo = some (.map es2 c)) (u : UPerm es es2 c) (hstr : es.all (fun e => isStr e.key) = true) (hone : (es.filter (mtc p)).length ≤ 1) {K : Known} (pl : Nat → Option Plan) :
    HG K Tryz.prog (ho.next + 4) 28 pl g_p_store_Store_Names (frA [.pointer (some ⟨s, 0, none⟩), .string p]) ho fun x ρ' h1 => x = .ret ∧ ∃ vs ρ1, NI ho p mo c vs ρ1 h1 ∧ ρ' 4 = ρ1 5 ∧ Part es2 vs ∧ ∀ e ∈ es2, e ∈ vs := by
  unfold g_p_store_Store_Names
  have hsl : s < ho.next := Nat.lt_of_not_le fun hx => by rw [hf s hx] at hs; cases hs
  have hmol : mo < ho.next := Nat.lt_of_not_le fun hx => by rw [hf mo hx] at hmo; cases hmo
  refine hg_seq (hg_det okE ?_)
  simp (maxSteps := 10000000) (disch := omega) only [vq0, vq1, vq2, vq3, vq4, vq5, tagOf, reduceIte, reduceCtorEq, Nat.reduceEqDiff, Nat.reduceAdd, Nat.reduceSub, Nat.reduceMul, Nat.reduceLT, Nat.reduceLeDiff, Int.reduceToNat, Nat.reduceBEq, tq1, tq2]
  refine ⟨by omega, ?_⟩
  refine hg_seq (hg_det okE ?_)
  simp (maxSteps := 10000000) (disch := omega) only [vq0, vq1, vq2, vq3, vq4, vq5, tagOf, reduceIte, reduceCtorEq, Nat.reduceEqDiff, Nat.reduceAdd, Nat.reduceSub, Nat.reduceMul, Nat.reduceLT, Nat.reduceLeDiff, Int.reduceToNat, Nat.reduceBEq, tq1, tq2]
  refine ⟨by omega, ?_⟩
  refine hg_seq ?_
  refine hg_seq (hg_det okE ?_)
  simp (maxSteps := 10000000) (disch := omega) only [vq0, vq1, vq2, vq3, vq4, vq5, tagOf, reduceIte, reduceCtorEq, Nat.reduceEqDiff, Nat.reduceAdd, Nat.reduceSub, Nat.reduceMul, Nat.reduceLT, Nat.reduceLeDiff, Int.reduceToNat, Nat.reduceBEq, tq1, tq2]
  refine ⟨by omega, ?_⟩
  refine hg_cond (.inl ⟨rfl, ?_⟩)
  refine hg_seq (hg_det okE ?_)
  simp (maxSteps := 10000000) (disch := omega) only [vq0, vq1, vq2, vq3, vq4, vq5, tagOf, reduceIte, reduceCtorEq, Nat.reduceEqDiff, Nat.reduceAdd, Nat.reduceSub, Nat.reduceMul, Nat.reduceLT, Nat.reduceLeDiff, Int.reduceToNat, Nat.reduceBEq, tq1, tq2, hs, range_ord hmo]
  refine ⟨by omega, ?_⟩
  unfold g_p_store_Store_Names_L0
  refine hg_block ?_
  have mB : (ho.new (mitOf mo c [])).get ho.next = some (mitOf mo c []) := get_new_same _ _
  refine hg_range okE u.below u.nodup (fun vs ρ h' => NI ho p mo c vs ρ h') (r := ho.next) (m := mo) ?_ ?_ ?_ ?_
  · rintro vs ρ h' x
    refine ⟨x.r13, x.it, (x.old mo hmol).trans hmo, ?_⟩
    rcases x.row with ⟨_, _, h⟩ | ⟨_, _, _, _, _, _, _, _, h⟩ <;> omega
  · rintro vs e ρ h' hp he x
    obtain ⟨e', he', hkv⟩ := u.mem2 he
    have hkey : e'.key = e.key := congrArg Prod.fst hkv
    have hks := List.all_eq_true.1 hstr e' he'
    rw [hkey] at hks
    obtain ⟨kb, hkb⟩ : ∃ b, e.key = .string b := by
      cases hx : e.key <;> rw [hx] at hks <;> first | exact ⟨_, rfl⟩ | cases hks
    have hmt : mtc p e = hasPre (strL p) (strL kb) := by unfold mtc; rw [hkb]
    obtain ⟨hA, eA⟩ : ∃ y, y = h'.set ho.next (mitOf mo c (vs ++ [e])) := ⟨_, rfl⟩
    have xn1 := x.n1
    have nA : hA.next = h'.next := by rw [eA]; rfl
    have kA : ∀ b, b ≠ ho.next → hA.get b = h'.get b := fun b hb => by rw [eA, get_set_ne hb]
    have itA : hA.get ho.next = some (mitOf mo c (vs ++ [e])) := by rw [eA, get_set_same]
    have oldA : ∀ b, b < ho.next → hA.get b = ho.get b := fun b hb => (kA b (by omega)).trans (x.old b hb)
    rw [← eA]
    clear eA
    have hent := entry_at itA ((oldA mo hmol).trans hmo) he u.nodup
    have r13 := x.r13
    have r1 := x.r1
    have hh := (has_ok hA (strL kb) (strL p)).eq
    have ek : strOf (strL kb) = kb := rfl
    have ep : strOf (strL p) = p := rfl
    rw [ek, ep] at hh
    rw [hkb] at hent ⊢
    refine hg_det okE ?_
    simp (maxSteps := 10000000) (disch := omega) only [vq0, vq1, vq2, vq3, vq4, vq5, tagOf, reduceIte, reduceCtorEq, Nat.reduceEqDiff, Nat.reduceAdd, Nat.reduceSub, Nat.reduceMul, Nat.reduceLT, Nat.reduceLeDiff, Int.reduceToNat, Nat.reduceBEq, tq1, tq2, r13, hent, r1, hh]
    have hge : hA.next = h'.next := nA
    cases hm : hasPre (strL p) (strL kb) with
    | false =>
      rw [hm] at hmt
      simp (maxSteps := 10000000) (disch := omega) only [vq0, vq1, vq2, vq3, vq4, vq5, tagOf, reduceIte, reduceCtorEq, Nat.reduceEqDiff, Nat.reduceAdd, Nat.reduceSub, Nat.reduceMul, Nat.reduceLT, Nat.reduceLeDiff, Int.reduceToNat, Nat.reduceBEq, tq1, tq2]
      have hrow : ((∀ y ∈ vs ++ [e], mtc p y = false) ∧ ρ 5 = .slice none 0 0 ∧ hA.next = ho.next + 1) ∨ ∃ y ∈ vs ++ [e], mtc p y = true ∧ ∃ b, ρ 5 = .slice (some ⟨b, 0, none⟩) 1 1 ∧ ho.next < b ∧ b < hA.next ∧ hA.get b = some (.cells [y.key] true (some (1, t_string))) ∧ hA.next ≤ ho.next + 3 := by
        rcases x.row with ⟨h1, h2, h3⟩ | ⟨y, hy, h1, b, h2, h3, h4, h5, h6⟩
        · refine .inl ⟨fun y hy => ?_, h2, by omega⟩
          rcases List.mem_append.1 hy with hy | hy
          · exact h1 y hy
          · rw [List.mem_singleton.1 hy]; exact hmt
        · exact .inr ⟨y, List.mem_append_left _ hy, h1, b, h2, h3, by omega, (kA b (by omega)).trans h5, by omega⟩
      refine ⟨by rcases hrow with ⟨_, _, h⟩ | ⟨_, _, _, _, _, _, _, _, h⟩ <;> omega, NI.mk r1 r13 (by omega) oldA itA hrow⟩
    | true =>
      rw [hm] at hmt
      have hrow : (∀ y ∈ vs, mtc p y = false) ∧ ρ 5 = .slice none 0 0 ∧ h'.next = ho.next + 1 := by
        rcases x.row with h | ⟨y, hy, h1, _⟩
        · exact h
        · exfalso
          obtain ⟨y', hy', hkv2⟩ := u.mem2 (hp.sub y (List.mem_append_left _ hy))
          obtain ⟨i, hi⟩ := List.getElem?_of_mem he'
          obtain ⟨j, hj⟩ := List.getElem?_of_mem hy'
          have e1 : mtc p e' = true := by unfold mtc at hmt ⊢; rw [hkey]; exact hmt
          have e2 : mtc p y' = true := by unfold mtc at h1 ⊢; rw [show y'.key = y.key from congrArg Prod.fst hkv2]; exact h1
          have hij := filter_one hone hi hj e1 e2
          rw [hij, hj] at hi
          have hyk : y.key = e.key := by rw [← show y'.key = y.key from congrArg Prod.fst hkv2, Option.some.inj hi, hkey]
          obtain ⟨a, ha⟩ := List.getElem?_of_mem (hp.sub y (List.mem_append_left _ hy))
          obtain ⟨b, hb⟩ := List.getElem?_of_mem he
          have hab := u.dist.get ha hb hyk (by rw [hyk]; exact hks)
          rw [hab, hb] at ha
          have hey := Option.some.inj ha
          have hnd := hp.nodup
          rw [List.map_append, List.nodup_append] at hnd
          exact hnd.2.2 e.born (by rw [hey]; exact List.mem_map_of_mem hy) e.born (by simp) rfl
      obtain ⟨_, r5, hn5⟩ := hrow
      obtain ⟨d', h2, happ, ow, g2, n2, hb2, k2⟩ := own_app sl_s_string okSrc_s (Own.nil hA (hA.new (.cells [.string kb] true none)) 1 t_string) (Grow.new hA (.cells [.string kb] true none)) (b2 := hA.next) (o2 := 0) (n := 1) (c2 := 1) (new := [.string kb]) (by rw [get_new_same]; rfl) (by decide) rfl (by simp) (by decide)
      rcases ow with ⟨_, e0⟩ | ⟨b, n, rfl, hn0, hnl, hb0, hb1, hg⟩
      · cases e0
      · have hn1 : n = 1 := by simpa using hnl
        subst hn1
        have hbk : b = (hA.new (.cells [.string kb] true none)).next := Option.some.inj hb2
        have hbn : (hA.new (.cells [.string kb] true none)).next = hA.next + 1 := rfl
        rw [hbn] at n2 hbk
        simp (maxSteps := 10000000) (disch := omega) only [vq0, vq1, vq2, vq3, vq4, vq5, tagOf, reduceIte, reduceCtorEq, Nat.reduceEqDiff, Nat.reduceAdd, Nat.reduceSub, Nat.reduceMul, Nat.reduceLT, Nat.reduceLeDiff, Int.reduceToNat, Nat.reduceBEq, tq1, tq2, r5, happ]
        refine ⟨by omega, NI.mk r1 r13 (by omega) (fun y hy => (g2.get y (by omega)).trans (oldA y hy)) ((g2.get ho.next (by omega)).trans itA) (.inr ⟨e, List.mem_append_right _ (List.mem_singleton_self _), hmt, b, rfl, by omega, by omega, by rw [hkb]; exact hg, by omega⟩)⟩
  · rintro vs ρ h' hp hev x
    show blockQ 0 _ (.exit 0) _ _
    unfold blockQ
    simp only [if_pos]
    have hx5 : ∃ a n c, ρ 5 = .slice a n c ∧ n ≤ 1 := by
      rcases x.row with ⟨_, h, _⟩ | ⟨_, _, _, _, h, _⟩
      · exact ⟨_, _, _, h, by decide⟩
      · exact ⟨_, _, _, h, by decide⟩
    have hnx : h'.next ≤ ho.next + 3 := by rcases x.row with ⟨_, _, h⟩ | ⟨_, _, _, _, _, _, _, _, h⟩ <;> omega
    obtain ⟨a, n, c5, r5, hn⟩ := hx5
    refine hg_seq (hg_det okE ?_)
    simp (maxSteps := 10000000) (disch := omega) only [vq0, vq1, vq2, vq3, vq4, vq5, tagOf, reduceIte, reduceCtorEq, Nat.reduceEqDiff, Nat.reduceAdd, Nat.reduceSub, Nat.reduceMul, Nat.reduceLT, Nat.reduceLeDiff, Int.reduceToNat, Nat.reduceBEq, tq1, tq2, r5]
    refine (sort_n h' a n c5 hn).mono ?_
    rintro w h2 rfl
    simp (maxSteps := 10000000) (disch := omega) only [vq0, vq1, vq2, vq3, vq4, vq5, tagOf, reduceIte, reduceCtorEq, Nat.reduceEqDiff, Nat.reduceAdd, Nat.reduceSub, Nat.reduceMul, Nat.reduceLT, Nat.reduceLeDiff, Int.reduceToNat, Nat.reduceBEq, tq1, tq2, r5]
    refine ⟨by omega, ?_⟩
    refine hg_seq (hg_det okE ?_)
    simp (maxSteps := 10000000) (disch := omega) only [vq0, vq1, vq2, vq3, vq4, vq5, tagOf, reduceIte, reduceCtorEq, Nat.reduceEqDiff, Nat.reduceAdd, Nat.reduceSub, Nat.reduceMul, Nat.reduceLT, Nat.reduceLeDiff, Int.reduceToNat, Nat.reduceBEq, tq1, tq2, r5]
    refine ⟨by omega, ?_⟩
    refine hg_det okE ?_
    simp (maxSteps := 10000000) (disch := omega) only [vq0, vq1, vq2, vq3, vq4, vq5, tagOf, reduceIte, reduceCtorEq, Nat.reduceEqDiff, Nat.reduceAdd, Nat.reduceSub, Nat.reduceMul, Nat.reduceLT, Nat.reduceLeDiff, Int.reduceToNat, Nat.reduceBEq, tq1, tq2]
    exact ⟨by omega, vs, ρ, x, r5.symm, hp, hev⟩
  · refine NI.mk rfl rfl (Nat.le_refl _) (fun b hb => get_new_ne (by omega)) mB (.inl ⟨(fun _ h => nomatch h), rfl, rfl⟩)
end Go.Proofs.YtenhhbammadpbaaGreatDoor.Cp
open Go Go.Vi
namespace Go.Proofs.YtenhhbammadpbaaGreatDoor.Cp
set_option linter.unusedSimpArgs false
set_option maxRecDepth 100000
set_option maxHeartbeats 40000000
theorem names_sr (ho : Heap) (hf : ∀ b, ho.next ≤ b → ho.get b = none) (s mo c : Nat) (p : ByteArray) (v0 v1 v2 v3 v4 v5 v6 v7 v8 : Value) (w1 : Bool) (o1 : Option (Nat × Nat)) (es es2 : List MapEntry)
    (hs : ho.get s = some (.cells [v0, v1, v2, v3, v4, v5, v6, v7, v8, .map (some mo)] w1 o1)) (hmo : ho.get mo = some (.map es2 c)) (u : UPerm es es2 c) (hstr : es.all (fun e => isStr e.key) = true) (hone : (es.filter (mtc p)).length ≤ 1) (K : Known) :
    ∃ fn, E.fn f_p_store_Store_Names = some fn ∧ SR K Tryz.prog (ho.next + 4) fn.body ([.pointer (some ⟨s, 0, none⟩), .string p] ++ List.replicate (fn.fn.ntmps - [Value.pointer (some ⟨s, 0, none⟩), .string p].length) undef, ho) fun x s' => (x = .normal ∨ x = .ret) ∧
      ((es.filter (mtc p) = [] → ∃ k τ, resultsV E s' fn.fn.results.toList = some k ∧ Ren ho s'.2 { ho with next := ho.next + 4 } τ ∧ VR τ (.slice none 0 0) (oneOrTuple k)) ∧
       ∀ e, es.filter (mtc p) = [e] → ∃ k τ, resultsV E s' fn.fn.results.toList = some k ∧ Ren ho s'.2 { next := ho.next + 4, tr := (ho.set ho.next (.cells [e.key] true (some (1, t_string)))).tr } τ ∧ VR τ (.slice (some ⟨ho.next, 0, none⟩) 1 1) (oneOrTuple k)) := by
  obtain ⟨fn, hfn, _, hres, hsr⟩ := hg_sr (K := K) (P := Tryz.prog) okE is_p_store_Store_Names (args := [.pointer (some ⟨s, 0, none⟩), .string p]) (Nat.le_of_ble_eq_true rfl) (h := ho) (N := ho.next + 4)
    (S := fun x s' => (x = .normal ∨ x = .ret) ∧
      ((es.filter (mtc p) = [] → ∃ k τ, resultsV E s' [.tmp 4] = some k ∧ Ren ho s'.2 { ho with next := ho.next + 4 } τ ∧ VR τ (.slice none 0 0) (oneOrTuple k)) ∧
       ∀ e, es.filter (mtc p) = [e] → ∃ k τ, resultsV E s' [.tmp 4] = some k ∧ Ren ho s'.2 { next := ho.next + 4, tr := (ho.set ho.next (.cells [e.key] true (some (1, t_string)))).tr } τ ∧ VR τ (.slice (some ⟨ho.next, 0, none⟩) 1 1) (oneOrTuple k)))
    (fun pl => (names_hg ho hf s mo c p v0 v1 v2 v3 v4 v5 v6 v7 v8 w1 o1 es es2 hs hmo u hstr hone pl).mono fun x ρ' h1 ⟨hx, vs, ρ1, x', r4, hp, hev⟩ t bt => by
      have hres : resultsV E (t, h1) [.tmp 4] = some [ρ' 4] := by rw [res_H bt h1 [.tmp 4] rfl]; rfl
      have hmk : ∀ (a b : MapEntry), kv a = kv b → mtc p a = mtc p b := fun a b h => by unfold mtc; rw [show a.key = b.key from congrArg Prod.fst h]
      have hn1 := x'.n1
      have q1 : ho.next ≤ h1.next := by omega
      have q2 : h1.next ≤ ho.next + 4 := by rcases x'.row with ⟨_, _, h⟩ | ⟨_, _, _, _, _, _, _, _, h⟩ <;> omega
      refine ⟨.inr hx, fun hnil => ⟨_, _, hres, ren_none hf q1 q2 x'.old, ?_⟩, fun e he => ?_⟩
      · show VR _ _ (ρ' 4)
        rw [r4]
        rcases x'.row with ⟨_, h, _⟩ | ⟨y, hy, hm, _⟩
        · rw [h]; exact .slice0
        · exfalso
          obtain ⟨y', hy', hk⟩ := u.mem2 (hp.sub y hy)
          have : y' ∈ es.filter (mtc p) := List.mem_filter.2 ⟨hy', by rw [hmk _ _ hk]; exact hm⟩
          rw [hnil] at this
          cases this
      · have hem : e ∈ es ∧ mtc p e = true := List.mem_filter.1 (by rw [he]; exact List.mem_singleton_self _)
        obtain ⟨e2, he2, hk2⟩ := u.mem hem.1
        have hm2 : mtc p e2 = true := by rw [hmk _ _ hk2]; exact hem.2
        rcases x'.row with ⟨h, _⟩ | ⟨y, hy, hm, b, r5, hb1, hb2, hg, h3⟩
        · rw [h e2 (hev e2 he2)] at hm2; cases hm2
        · obtain ⟨y', hy', hk⟩ := u.mem2 (hp.sub y hy)
          have hy2 : y' ∈ es.filter (mtc p) := List.mem_filter.2 ⟨hy', by rw [hmk _ _ hk]; exact hm⟩
          rw [he, List.mem_singleton] at hy2
          have hyk : y.key = e.key := by rw [← show y'.key = y.key from congrArg Prod.fst hk, hy2]
          rw [hyk] at hg
          refine ⟨_, _, hres, ren_one hf q1 q2 x'.old (b := b) ⟨by omega, hb2⟩ (List.all_eq_true.1 hstr e hem.1) hg, ?_⟩
          show VR _ _ (ρ' 4)
          rw [r4, r5]
          have := VR.slice (τ := swapT ho.next b) ho.next 0 1 1
          rw [show swapT ho.next b ho.next = b by unfold swapT; rw [if_pos rfl]] at this
          exact this)
  refine ⟨fn, hfn, ?_⟩
  rw [hres]
  exact hsr
theorem namesX_ok {K : Known} : ExtOk K Tryz.prog f_p_store_Store_Names (namesX t_string) := by
  intro args h v h' hc
  unfold namesX at hc
  split at hc
  · rename_i s p
    split at hc
    · rename_i v0 v1 v2 v3 v4 v5 v6 v7 v8 mo w1 o1 hs
      split at hc
      · rename_i es hes
        split at hc
        · rename_i hstr
          have hone : (es.filter (mtc p)).length ≤ 1 := by
            split at hc
            · rename_i e; rw [e]; exact Nat.zero_le _
            · rename_i e; rw [e]; exact Nat.le_refl _
            · cases hc
          have hnx : h'.next = h.next + 4 := by
            split at hc
            · cases hc; rfl
            · cases hc; rfl
            · cases hc
          obtain ⟨fn0, hf0⟩ : ∃ fn, E.fn f_p_store_Store_Names = some fn := by obtain ⟨_, _, fn, h1, _⟩ := is_p_store_Store_Names; exact ⟨fn, h1⟩
          have q := (okE (K := K)).fn _ _ hf0
          refine ⟨⟨fn0.fn, q.fn, q.name, by rw [q.body]; simp⟩, by rw [hnx]; omega, fun ρ w args' g win hargs => ?_⟩
          unfold entsU at hes
          split at hes
          · rename_i es0 c hmo
            split at hes
            · rename_i hu
              cases hes
              obtain ⟨fn, hf, hsr⟩ := names_sr h g.fresh s mo c p v0 v1 v2 v3 v4 v5 v6 v7 v8 w1 o1 es es hs hmo (uniqB_ok hu) hstr hone K
              rw [← hnx] at hsr
              refine sr_call okE hf (hsr.mono fun x s' ⟨hx, ha, hb⟩ => ⟨hx, ?_⟩) g win hargs
              split at hc
              · rename_i e; cases hc; exact ha e
              · rename_i e he; cases hc; exact hb e he
              · cases hc
            · cases hes
          · rename_i es0 hmo
            cases hes
            obtain ⟨i, hi⟩ : ∃ i, ρ mo = some i := by
              obtain ⟨v', r', _, hv', _⟩ := hargs.cons_inv
              cases hv' with
              | ptr _ _ j hj =>
                obtain ⟨_, _, _, _, _, _, _, hcs, _⟩ := g.rel s j _ hj hs
                obtain ⟨u, _, hu⟩ := hcs.get (j := 9) rfl
                cases hu with
                | map _ i hi => exact ⟨i, hi⟩
            obtain ⟨es2, c, u, go⟩ := g.opened hi hmo
            have hml : mo < h.next := Nat.lt_of_not_le fun hx => by rw [g.fresh mo hx] at hmo; cases hmo
            have hso : (h.set mo (.map es2 c)).get s = _ := (get_set_ne fun e => by rw [e, hmo] at hs; cases hs).trans hs
            obtain ⟨fn, hf, hsr⟩ := names_sr (h.set mo (.map es2 c)) go.fresh s mo c p v0 v1 v2 v3 v4 v5 v6 v7 v8 w1 o1 es es2 hso (get_set_same _ _ _) u hstr hone K
            have hg' : h'.get mo = some (.umap es) := by
              split at hc
              · cases hc; exact hmo
              · cases hc
                exact (get_set_ne (by omega) : (h.set h.next _).get mo = h.get mo).trans hmo
              · cases hc
            refine (sr_call (h' := h'.set mo (.map es2 c)) okE hf ?_ go win hargs).mono fun e w' p => Post.shut hi hmo hg' u p
            have hsr2 := hsr
            rw [show (h.set mo (.map es2 c)).next + 4 = h'.next from hnx.symm] at hsr2
            refine hsr2.mono fun x s' ⟨hx, ha, hb⟩ => ⟨hx, ?_⟩
            split at hc
            · rename_i e
              cases hc
              obtain ⟨k, τ, r1, r2, r3⟩ := ha e
              exact ⟨k, τ, r1, r2.congr rfl fun y => rfl, r3⟩
            · rename_i e he
              cases hc
              obtain ⟨k, τ, r1, r2, r3⟩ := hb e he
              refine ⟨k, τ, r1, r2.congr rfl fun y => ?_, r3⟩
              show ((h.set h.next _).set mo _).get y = ((h.set mo _).set h.next _).get y
              by_cases ya : y = mo
              · rw [ya, get_set_same, get_set_ne (by omega), get_set_same]
              · rw [get_set_ne ya]
                by_cases yb : y = h.next
                · rw [yb, get_set_same]
                  exact (get_set_same _ _ _).symm
                · rw [get_set_ne yb]
                  have hne : ((h.set mo (.map es2 c)).set h.next (.cells [e.key] true (some (1, t_string)))).get y = (h.set mo (.map es2 c)).get y := get_set_ne yb
                  rw [hne, get_set_ne ya]
            · cases hc
          · cases hes
        · cases hc
      · cases hc
    · cases hc
  · cases hc
noncomputable def EC : Env := (E.tell f_p_store_Store_Copy (copyX t_uint8 t_api_Extent)).tell f_p_store_Store_Names (namesX t_string)
theorem okC {K : Known} : EnvOk K Tryz.prog EC := tell_ok (tell_ok okE copyX_ok) namesX_ok
end Go.Proofs.YtenhhbammadpbaaGreatDoor.Cp
