/- W8: the document's reader. -/
import Derived.Test.YtdmakachnphddaaW7
open Nat (reduceEqDiff reduceAdd reduceSub reduceMul reduceLT reduceLeDiff)
open Int (reduceToNat)
open Go Go.Vi Go.Bm
namespace Go.Proofs.Ytdmakachnphddaa.C
set_option linter.unusedSimpArgs false
set_option maxRecDepth 100000
set_option maxHeartbeats 40000000
theorem qtake_ok (o p : Nat) (r : Rd) (n : Int) (h : Heap) (x : Rdr o h p r) : Ret E Fj_ [.pointer (some ⟨p, 0, none⟩), .int .i64 n] h (fun u h' => Rdr o h' p (tkR r n).2 ∧ But p p h h' ∧ BRow h' u (tkR r n).1 ∧ ∀ b, blkOf u = some b → h.next ≤ b) := by
  refine ret_fun IB_ (by simp) ?_
  unfold Gad_
  have hnil : ∀ k : Heap, BRow k (.slice none 0 0) [] := fun k => RowV.nil _ _
  have hoff : ∀ b, blkOf (.slice none 0 0) = some b → h.next ≤ b := fun b hb => by cases hb
  have hoff1 : Off o p (.slice none 0 0) := fun b hb => by cases hb
  cases r with
  | none =>
    obtain ⟨hp, hg⟩ := x
    simp (maxSteps := 10000000) (disch := omega) only [vqA, tagOf, reduceIte, reduceCtorEq, reduceEqDiff, reduceAdd, reduceSub, reduceMul, reduceLT, reduceLeDiff, reduceToNat, Nat.reduceBEq, tqA, hg]
    exact ⟨⟨hp, by simp (maxSteps := 10000000) (disch := omega) only [vqA, tagOf, reduceIte, reduceCtorEq, reduceEqDiff, reduceAdd, reduceSub, reduceMul, reduceLT, reduceLeDiff, reduceToNat, Nat.reduceBEq, tqA]⟩, ((But.refl p p h).setx _).setx _, hnil _, hoff⟩
  | some l =>
    obtain ⟨hp, hl, v, hg, hv, ho, hne, hcut⟩ := x
    unfold tkR
    by_cases hc : n < 0 ∨ (l.length : Int) < n
    · simp only [if_pos hc]
      obtain ⟨a, c, rfl⟩ := hv.is
      by_cases h0 : n < 0
      · simp (maxSteps := 10000000) (disch := omega) only [vqA, tagOf, reduceIte, reduceCtorEq, reduceEqDiff, reduceAdd, reduceSub, reduceMul, reduceLT, reduceLeDiff, reduceToNat, Nat.reduceBEq, tqA, hg]
        exact ⟨⟨hp, by simp (maxSteps := 10000000) (disch := omega) only [vqA, tagOf, reduceIte, reduceCtorEq, reduceEqDiff, reduceAdd, reduceSub, reduceMul, reduceLT, reduceLeDiff, reduceToNat, Nat.reduceBEq, tqA]⟩, ((But.refl p p h).setx _).setx _, hnil _, hoff⟩
      · have hc2 : (l.length : Int) < n := by rcases hc with q | q; exact absurd q h0; exact q
        simp (maxSteps := 10000000) (disch := omega) only [vqA, tagOf, reduceIte, reduceCtorEq, reduceEqDiff, reduceAdd, reduceSub, reduceMul, reduceLT, reduceLeDiff, reduceToNat, Nat.reduceBEq, tqA, hg]
        exact ⟨⟨hp, by simp (maxSteps := 10000000) (disch := omega) only [vqA, tagOf, reduceIte, reduceCtorEq, reduceEqDiff, reduceAdd, reduceSub, reduceMul, reduceLT, reduceLeDiff, reduceToNat, Nat.reduceBEq, tqA]⟩, ((But.refl p p h).setx _).setx _, hnil _, hoff⟩
    · simp only [if_neg hc]
      obtain ⟨m, rfl⟩ : ∃ m : Nat, n = (m : Int) := ⟨n.toNat, by omega⟩
      have hm : m ≤ l.length := by omega
      have hb0 : ∀ b, blkOf (.slice (some ⟨h.next, 0, none⟩) 0 0) = some b → h.next ≤ b := fun b hb => by obtain rfl : h.next = b := Option.some.inj hb; exact Nat.le_refl _
      have gn : Grow h (h.new (.cells [] true none)) := .new h _
      have hp1 : (h.new (.cells [] true none)).get p = _ := (gn.get p hp).trans hg
      rcases hv with ⟨rfl | rfl, hm0⟩ | ⟨b2, o2, k, c2, row, w, q, hb2, rfl, hc2, hl2, hg2, h1, h2⟩
      · have hl0 : l = [] := List.map_eq_nil_iff.1 hm0
        subst hl0
        have hm00 : m = 0 := by simpa using hm
        subst hm00
        rw [show ((0 : Nat) : Int) = 0 from rfl]
        have nil_c : ∀ h : Heap, sliceS E Tc_ (.slice none 0 0) none (some (.int .i64 0)) none h = some (.slice none 0 0) := fun h => by kernel_rfl
        simp (maxSteps := 10000000) (disch := omega) only [vqA, tagOf, reduceIte, reduceCtorEq, reduceEqDiff, reduceAdd, reduceSub, reduceMul, reduceLT, reduceLeDiff, reduceToNat, Nat.reduceBEq, tqA, hg, nil_b, nil_c]
        exact ⟨⟨Nat.lt_succ_of_lt hp, Nat.zero_le _, _, by simp (maxSteps := 10000000) (disch := omega) only [vqA, tagOf, reduceIte, reduceCtorEq, reduceEqDiff, reduceAdd, reduceSub, reduceMul, reduceLT, reduceLeDiff, reduceToNat, Nat.reduceBEq, tqA], hnil _, hoff1, hne, fun b hb => by cases hb⟩, (But.of gn).setx _, RowV.own (z := 1) (n := 0) (c := 0) (row := []) (w := true) (p := none) (Nat.lt_succ_self _) (Nat.le_refl _) (by rw [get_set_ne (by omega), get_new_same]) (Nat.le_refl _), hb0⟩
      · exact absurd rfl hne
      · rw [List.length_map, Nat.mul_one] at hl2
        subst hl2
        obtain ⟨cs, w', q', e, hq⟩ := hcut b2 rfl
        rw [hg2] at e
        cases e
        obtain ⟨hbp', hob⟩ : b2 < p ∧ o ≤ b2 := ho b2 rfl
        have hbp : b2 ≠ p := by omega
        rw [List.length_map] at h1 h2
        have hoff2 : ∀ x n c, Off o p (.slice (some ⟨b2, x, none⟩) n c) := fun x n c b hb => by obtain rfl : b2 = b := Option.some.inj hb; exact ⟨hbp', hob⟩
        have rest : ∀ k : Heap, h.next ≤ k.next → (∀ c, c < h.next → k.get c = h.get c) → Rdr o (k.set p (.cells [.slice (some ⟨b2, if c2 = m then o2 else o2 + m, none⟩) (l.length - m) (c2 - m), .bool false] true none)) p (some (l.drop m)) := fun k hk hkg => by
          have hgs : ∀ x, (k.set p x).get b2 = some (.cells row w q) := fun x => by rw [get_set_ne hbp, hkg b2 hb2]; exact hg2
          refine ⟨by show p < k.next; omega, by rw [List.length_drop]; omega, _, get_set_same _ _ _, .inr ⟨b2, if c2 = m then o2 else o2 + m, l.length - m, c2 - m, row, w, q, by show b2 < k.next; omega, rfl, by omega, by simp, hgs _, ?_, ?_⟩, hoff2 _ _ _, sl_ne, fun b hb => by obtain rfl : b2 = b := Option.some.inj hb; exact ⟨_, _, _, hgs _, hq⟩⟩
          · rw [List.length_map, List.length_drop]
            split <;> omega
          · rw [List.length_map, List.length_drop]
            by_cases e : c2 = m
            · have hlm : l.length - m = 0 := by omega
              rw [hlm, List.take_zero, List.drop_of_length_le (by omega)]
              rfl
            · rw [if_neg e, part_row h2 (by omega), List.take_of_length_le (by rw [List.length_drop]; omega)]
        rcases Nat.eq_zero_or_pos m with rfl | hmp
        · simp (maxSteps := 10000000) (disch := omega) only [vqA, tagOf, reduceIte, reduceCtorEq, reduceEqDiff, reduceAdd, reduceSub, reduceMul, reduceLT, reduceLeDiff, reduceToNat, Nat.reduceBEq, tqA, hg, hg2, cut_ok hq]
          exact ⟨rest (h.new (.cells [] true none)) (Nat.le_succ _) fun c hc => get_new_ne (by omega), (But.of gn).setx _, RowV.own (z := 1) (n := 0) (c := 0) (row := []) (w := true) (p := none) (Nat.lt_succ_self _) (Nat.le_refl _) (by rw [get_set_ne (by omega), get_new_same]) (Nat.le_refl _), hb0⟩
        · have hnw : (row.drop o2).take (m - 0) = (l.take m).map byteV := by
            have := part_row (i := 0) (k := m) h2 (by omega)
            rw [Nat.add_zero, List.drop_zero] at this
            exact this
          have hk := appK_lit (z := 1) (bytes := 1) (elem := Te_) (h := h.new (.cells [] true none)) (b := h.next) (len := 0) (n := m) (wr := true) (cs := []) (new := (l.take m).map byteV) hmp rfl (by omega) (by omega)
          simp (maxSteps := 10000000) (disch := omega) only [vqA, tagOf, reduceIte, reduceCtorEq, reduceEqDiff, reduceAdd, reduceSub, reduceMul, reduceLT, reduceLeDiff, reduceToNat, Nat.reduceBEq, tqA, hg, hg2, cut_ok hq]
          rw [hnw, if_pos ⟨by rw [List.length_map, List.length_take]; omega, bytes_one _⟩, Nat.sub_zero, hk]
          simp (maxSteps := 10000000) (disch := omega) only [vqA, tagOf, reduceIte, reduceCtorEq, reduceEqDiff, reduceAdd, reduceSub, reduceMul, reduceLT, reduceLeDiff, reduceToNat, Nat.reduceBEq, tqA, hg, hg2, cut_ok hq]
          have g2 : Grow h ((h.new (.cells [] true none)).new (.cells ((l.take m).map byteV) true (some (1, Te_)))) := gn.more _
          refine ⟨rest _ g2.next g2.get, (But.of g2).setx _, .inr ⟨h.next + 1, 0, m, m, (l.take m).map byteV, true, some (1, Te_), Nat.lt_succ_self _, rfl, Nat.le_refl _, by simp; omega, by rw [get_set_ne (by omega)]; exact get_new_same _ _, by simp, by rw [List.drop_zero, List.take_length]⟩, fun b hb => by obtain rfl : h.next + 1 = b := Option.some.inj hb; exact Nat.le_succ _⟩
end Go.Proofs.Ytdmakachnphddaa.C
