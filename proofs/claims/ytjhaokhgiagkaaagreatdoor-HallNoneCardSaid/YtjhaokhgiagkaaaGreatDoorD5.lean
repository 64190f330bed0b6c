/- D5: rows, put together. -/
import Derived.Test.YtjhaokhgiagkaaaGreatDoorD4
open Go Go.Vi Go.Bm
namespace Go.Proofs.YtjhaokhgiagkaaaGreatDoor.C
set_option linter.unusedSimpArgs false
set_option maxRecDepth 100000
set_option maxHeartbeats 40000000
def joined (ps : List (Value × List UInt8)) : List UInt8 := ps.flatMap (·.2)
theorem joined_take (ps : List (Value × List UInt8)) (i : Nat) (h : i < ps.length) : joined (ps.take (i + 1)) = joined (ps.take i) ++ (ps[i]).2 := by
  unfold joined
  rw [List.take_add_one, List.getElem?_eq_getElem h, List.flatMap_append]
  simp
theorem joined_le (ps : List (Value × List UInt8)) (i : Nat) : (joined (ps.take i)).length ≤ (joined ps).length := by
  have : joined ps = joined (ps.take i) ++ joined (ps.drop i) := by unfold joined; rw [← List.flatMap_append, List.take_append_drop]
  rw [this, List.length_append]
  omega
theorem concat_ok (h : Heap) (b c : Nat) (wr : Bool) (p : Option (Nat × Nat)) (ps : List (Value × List UInt8)) (hb : b < h.next) (hg : h.get b = some (.cells (ps.map (·.1)) wr p)) (hr : ∀ q ∈ ps, BRow h q.1 q.2) (hn : ps.length ≤ 1000) (hj : 0 < (joined ps).length) (hl : (joined ps).length ≤ 100000000) :
    Ret E f_slices_Concat_s_byte_byte [.slice (some ⟨b, 0, none⟩) ps.length c] h fun v h' => Grow h h' ∧ BRow h' v (joined ps) ∧ ∀ a, blkOf v = some a → h.next ≤ a := by
  refine ret_fun is_slices_Concat_s_byte_byte (by simp) ?_
  unfold g_slices_Concat_s_byte_byte
  simp (maxSteps := 10000000) (disch := omega) only [vq0, vq1, vq2, vq3, vq4, vq5, tagOf, reduceIte, reduceCtorEq, Nat.reduceEqDiff, Nat.reduceAdd, Nat.reduceSub, Nat.reduceMul, Nat.reduceLT, Nat.reduceLeDiff, Int.reduceToNat, Nat.reduceBEq, tq1, tq2, tq3, tq4, tq5]
  refine r_loop (k := ps.length) (fun k ρ h' => ∃ i : Nat, i + k = ps.length ∧ h' = h ∧ ρ 0 = .slice (some ⟨b, 0, none⟩) ps.length c ∧ ρ 3 = .int .i64 (joined (ps.take i)).length ∧ ρ 9 = .slice (some ⟨b, 0, none⟩) ps.length c ∧ ρ 10 = .int .i64 ps.length ∧ ρ 11 = .int .i64 (i : Int)) ?_ ?_
  · rintro k ρ h' ⟨i, hk, rfl, r0, r3, r9, r10, r11⟩
    unfold g_slices_Concat_s_byte_byte_L0
    rcases Nat.lt_or_ge i ps.length with hi | hi
    · have hjt := joined_take ps i hi
      have hjl := joined_le ps (i + 1)
      have hm : (ps.map (·.1))[i]? = some ps[i].1 := by rw [List.getElem?_map, List.getElem?_eq_getElem hi]; rfl
      have hrow := hr ps[i] (List.getElem_mem hi)
      rw [hjt, List.length_append] at hjl
      generalize ps[i] = q at hjt hjl hm hrow
      obtain ⟨a1, c1, hq⟩ := hrow.is
      rw [hq] at hm
      simp (maxSteps := 10000000) (disch := omega) only [vq0, vq1, vq2, vq3, vq4, vq5, tagOf, reduceIte, reduceCtorEq, Nat.reduceEqDiff, Nat.reduceAdd, Nat.reduceSub, Nat.reduceMul, Nat.reduceLT, Nat.reduceLeDiff, Int.reduceToNat, Nat.reduceBEq, tq1, tq2, tq3, tq4, tq5, r0, r3, r9, r10, r11, hg, hm]
      exact ⟨k - 1, by omega, i + 1, by omega, by rw [hjt, List.length_append, Int.natCast_add], rfl⟩
    · have hi2 : i = ps.length := by omega
      subst hi2
      rw [List.take_length] at r3
      simp (maxSteps := 10000000) (disch := omega) only [vq0, vq1, vq2, vq3, vq4, vq5, tagOf, reduceIte, reduceCtorEq, Nat.reduceEqDiff, Nat.reduceAdd, Nat.reduceSub, Nat.reduceMul, Nat.reduceLT, Nat.reduceLeDiff, Int.reduceToNat, Nat.reduceBEq, tq1, tq2, tq3, tq4, tq5, r0, r3, r9, r10, r11]
      refine (grow0_ok _ h' hj hl).mono ?_
      rintro v h1 ⟨rfl, g1, n1, cs, hcs, hB⟩
      simp (maxSteps := 10000000) (disch := omega) only [vq0, vq1, vq2, vq3, vq4, vq5, tagOf, reduceIte, reduceCtorEq, Nat.reduceEqDiff, Nat.reduceAdd, Nat.reduceSub, Nat.reduceMul, Nat.reduceLT, Nat.reduceLeDiff, Int.reduceToNat, Nat.reduceBEq, tq1, tq2, tq3, tq4, tq5, r0]
      refine r_loop (k := ps.length) (fun k ρ h2 => ∃ (i : Nat) (cs : List Value), i + k = ps.length ∧ ρ 6 = .slice (some ⟨h'.next, 0, none⟩) (joined (ps.take i)).length (joined ps).length ∧ ρ 25 = .slice (some ⟨b, 0, none⟩) ps.length c ∧ ρ 26 = .int .i64 ps.length ∧ ρ 27 = .int .i64 (i : Int) ∧
        Grow h' h2 ∧ h'.next < h2.next ∧ cs.length = (joined ps).length ∧ cs.take (joined (ps.take i)).length = (joined (ps.take i)).map byteV ∧ h2.get h'.next = some (.cells cs true (some (1, t_uint8)))) ?_ ?_
      · rintro k ρ h2 ⟨i, cs, hk, r6, r25, r26, r27, g2, hlt, hcl, hct, hB2⟩
        unfold g_slices_Concat_s_byte_byte_L1
        have hgb : h2.get b = _ := (g2.get b hb).trans hg
        rcases Nat.lt_or_ge i ps.length with hi | hi
        · have hjt := joined_take ps i hi
          have hjl := joined_le ps (i + 1)
          have hm : (ps.map (·.1))[i]? = some ps[i].1 := by rw [List.getElem?_map, List.getElem?_eq_getElem hi]; rfl
          have hrow := (hr ps[i] (List.getElem_mem hi)).grow g2
          rw [hjt, List.length_append] at hjl
          generalize ps[i] = q at hjt hjl hm hrow
          rcases Nat.eq_zero_or_pos q.2.length with h0 | h0
          · have hq0 : q.2 = [] := List.length_eq_zero_iff.1 h0
            have happ := app_none0 (E := E) (b := h'.next) (o := 0) (len := (joined (ps.take i)).length) (cap := (joined ps).length) sl_s_uint8 okSrc_bytes (by rw [hq0] at hrow; exact hrow) (by omega)
            obtain ⟨a1, c1, hq⟩ := hrow.is
            rw [hq] at hm happ
            simp (maxSteps := 10000000) (disch := omega) only [vq0, vq1, vq2, vq3, vq4, vq5, tagOf, reduceIte, reduceCtorEq, Nat.reduceEqDiff, Nat.reduceAdd, Nat.reduceSub, Nat.reduceMul, Nat.reduceLT, Nat.reduceLeDiff, Int.reduceToNat, Nat.reduceBEq, tq1, tq2, tq3, tq4, tq5, r6, r25, r26, r27, hgb, hm, happ]
            exact ⟨k - 1, by omega, i + 1, cs, by omega, by rw [hjt, hq0, List.append_nil], rfl, g2, hlt, hcl, by rw [hjt, hq0, List.append_nil]; exact hct, hB2⟩
          · have happ := app_room sl_s_uint8 okSrc_bytes (srcV_row hrow (by rw [Nat.mul_one, List.length_map]) (by omega)) (by rw [List.length_map, Nat.mul_one]) (bytes_one _) hB2 (o := 0) (len := (joined (ps.take i)).length) (cap := (joined ps).length) hjl h0 (by rw [List.length_map]; omega)
            obtain ⟨a1, c1, hq⟩ := hrow.is
            rw [hq] at hm happ
            simp (maxSteps := 10000000) (disch := omega) only [vq0, vq1, vq2, vq3, vq4, vq5, tagOf, reduceIte, reduceCtorEq, Nat.reduceEqDiff, Nat.reduceAdd, Nat.reduceSub, Nat.reduceMul, Nat.reduceLT, Nat.reduceLeDiff, Int.reduceToNat, Nat.reduceBEq, tq1, tq2, tq3, tq4, tq5, r6, r25, r26, r27, hgb, hm, happ]
            refine ⟨k - 1, by omega, i + 1, _, by omega, by rw [hjt, List.length_append], rfl, g2.set (Nat.le_refl _) _, hlt, ?_, ?_, rfl⟩
            · simp only [List.length_append, List.length_take, List.length_drop, List.length_map]
              omega
            · rw [hjt, List.length_append, List.map_append, ← hct]
              exact List.take_left' (by simp only [List.length_append, List.length_take, List.length_map]; omega)
        · have hi2 : i = ps.length := by omega
          subst hi2
          rw [List.take_length] at r6 hct
          simp (maxSteps := 10000000) (disch := omega) only [vq0, vq1, vq2, vq3, vq4, vq5, tagOf, reduceIte, reduceCtorEq, Nat.reduceEqDiff, Nat.reduceAdd, Nat.reduceSub, Nat.reduceMul, Nat.reduceLT, Nat.reduceLeDiff, Int.reduceToNat, Nat.reduceBEq, tq1, tq2, tq3, tq4, tq5, r6, r25, r26, r27]
          rw [List.take_of_length_le (by omega)] at hct
          rw [hct] at hB2
          have hrow : RowV h2 1 (.slice (some ⟨h'.next, 0, none⟩) (joined ps).length (joined ps).length) (((joined ps).map byteV).take ((joined ps).length * 1)) := RowV.own (z := 1) (n := (joined ps).length) (c := (joined ps).length) hlt (Nat.le_refl _) hB2 (by rw [List.length_map]; omega)
          rw [List.take_of_length_le (by rw [List.length_map]; omega)] at hrow
          refine ⟨g2, hrow, fun a ha => ?_⟩
          have hh : h'.next = a := Option.some.inj ha
          omega
      · refine ⟨0, cs, by omega, ?_⟩
        simp (maxSteps := 10000000) (disch := omega) only [vq0, vq1, vq2, vq3, vq4, vq5, tagOf, reduceIte, reduceCtorEq, Nat.reduceEqDiff, Nat.reduceAdd, Nat.reduceSub, Nat.reduceMul, Nat.reduceLT, Nat.reduceLeDiff, Int.reduceToNat, Nat.reduceBEq, tq1, tq2, tq3, tq4, tq5]
        exact ⟨rfl, rfl, g1, by omega, hcs, rfl, hB⟩
  · refine ⟨0, by omega, rfl, ?_⟩
    simp (maxSteps := 10000000) (disch := omega) only [vq0, vq1, vq2, vq3, vq4, vq5, tagOf, reduceIte, reduceCtorEq, Nat.reduceEqDiff, Nat.reduceAdd, Nat.reduceSub, Nat.reduceMul, Nat.reduceLT, Nat.reduceLeDiff, Int.reduceToNat, Nat.reduceBEq, tq1, tq2, tq3, tq4, tq5]
    exact ⟨rfl, rfl⟩
end Go.Proofs.YtjhaokhgiagkaaaGreatDoor.C
