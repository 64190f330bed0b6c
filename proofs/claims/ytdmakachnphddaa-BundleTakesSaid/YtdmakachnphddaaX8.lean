/- X8: the bundle of a stream, as the program takes it: one diff. -/
import Derived.Test.YtdmakachnphddaaX7
import Derived.Test.YtdmakachnphddaaMa
open Nat (reduceEqDiff reduceAdd reduceSub reduceMul reduceLT reduceLeDiff)
open Int (reduceToNat)
open Go Go.Vi Go.Bm
namespace Go.Proofs.Ytdmakachnphddaa.C
set_option linter.unusedSimpArgs false
set_option maxRecDepth 100000
set_option maxHeartbeats 40000000
theorem DNew.keep {base : Nat} {h h' : Heap} {v : Value} {recs : List Rec} (x : DNew base h v recs) (hn : h.next ≤ h'.next) (g : ∀ c, base ≤ c → c < h.next → h'.get c = h.get c) : DNew base h' v recs := by
  obtain ⟨items, h1, h2, h4, h3⟩ := x
  exact ⟨items, h1, RowV.keep h2 hn fun c hc hlt => g c (h4 c hc) hlt, h4, fun p hp => ⟨RowV.keep (h3 p hp).1 hn fun c hc hlt => g c ((h3 p hp).2 c hc) hlt, (h3 p hp).2⟩⟩
theorem take1_ok (o p C B : Nat) (r : Rd) (bad : Bool) (h : Heap) (x : Rdr o h p r) (hop : o ≤ p) (hC : h.get C = some (.cells [.pointer (some ⟨p, 0, none⟩)] true none)) (hB : h.get B = some (.cells [.bool bad] true none)) (lC : p < C ∧ C < h.next) (lB : p < B ∧ B < h.next) (_ : C ≠ B) (hl : lf r ≤ 80000001) :
    Ret E FA_ [.pointer (some ⟨C, 0, none⟩), .pointer (some ⟨B, 0, none⟩)] h (fun u h' => Rdr o h' p (bytesR r).2 ∧ But p B h h' ∧ ∃ d w bad', u = .agg ⟨difC d w⟩ ∧ DNew h.next h' w d.recs ∧ h'.get B = some (.cells [.bool bad'] true none) ∧
      ((goodD d = true ∧ putD d = (bytesR r).1 ∧ bad' = bad) ∨ ((∀ d, goodD d = true → putD d ≠ (bytesR r).1) ∧ d = ⟨0, 0, []⟩ ∧ bad' = true))) := by
  refine ret_fun Ik_ (by simp) ?_
  unfold Gal_
  have hbl := bytesR_len r
  obtain ⟨h0, e0⟩ : ∃ y, y = h.new (.cells [.int .i64 0, .int .i64 0, .slice none 0 0] true none) := ⟨_, rfl⟩
  have g0 : Grow h h0 := by rw [e0]; exact .new h _
  have n0 : h0.next = h.next + 1 := by rw [e0]; rfl
  have m0 : h0.get h.next = some (.cells [.int .i64 0, .int .i64 0, .slice none 0 0] true none) := by rw [e0, get_new_same]
  have hp := x.lt
  simp (maxSteps := 10000000) (disch := omega) only [vqA, tagOf, reduceIte, reduceCtorEq, reduceEqDiff, reduceAdd, reduceSub, reduceMul, reduceLT, reduceLeDiff, reduceToNat, Nat.reduceBEq, tqA, hC]
  rw [← e0]
  refine (rbytes_ok o p r h0 (x.grow g0 hop)).mono ?_
  rintro u h1 ⟨x1, b1, hm, _⟩
  have n1 := b1.next
  simp (maxSteps := 10000000) (disch := omega) only [vqA, tagOf, reduceIte, reduceCtorEq, reduceEqDiff, reduceAdd, reduceSub, reduceMul, reduceLT, reduceLeDiff, reduceToNat, Nat.reduceBEq, tqA]
  refine (diffTake_ok u (bytesR r).1 h1 hm (by omega)).mono ?_
  rintro y h2 ⟨g2, a, e, rfl, hq⟩
  have n2 := g2.next
  have hB2 : h2.get B = some (.cells [.bool bad] true none) := (g2.get _ (by omega)).trans ((b1.get _ (by omega) (by omega) (by omega)).trans ((g0.get _ lB.2).trans hB))
  have m2 : h2.get h.next = some (.cells [.int .i64 0, .int .i64 0, .slice none 0 0] true none) := (g2.get _ (by omega)).trans ((b1.get _ (by omega) (by omega) (by omega)).trans m0)
  have x2 := x1.grow g2 hop
  have fin : ∀ (d : Dif) (w : Value) (c1 c2 c3 : Blk) (bad' : Bool), DNew h1.next h2 w d.recs → ((goodD d = true ∧ putD d = (bytesR r).1 ∧ bad' = bad) ∨ ((∀ d, goodD d = true → putD d ≠ (bytesR r).1) ∧ d = ⟨0, 0, []⟩ ∧ bad' = true)) →
      Rdr o (((((h2.new c1).set h2.next c2).set B (.cells [.bool bad'] true none))).set h.next c3) p (bytesR r).2 ∧ But p B h ((((h2.new c1).set h2.next c2).set B (.cells [.bool bad'] true none)).set h.next c3) ∧ ∃ d' w' bad'', Value.agg ⟨difC d w⟩ = .agg ⟨difC d' w'⟩ ∧ DNew h.next ((((h2.new c1).set h2.next c2).set B (.cells [.bool bad'] true none)).set h.next c3) w' d'.recs ∧ ((((h2.new c1).set h2.next c2).set B (.cells [.bool bad'] true none)).set h.next c3).get B = some (.cells [.bool bad''] true none) ∧
      ((goodD d' = true ∧ putD d' = (bytesR r).1 ∧ bad'' = bad) ∨ ((∀ d, goodD d = true → putD d ≠ (bytesR r).1) ∧ d' = ⟨0, 0, []⟩ ∧ bad'' = true)) := by
    intro d w c1 c2 c3 bad' hd hor
    have keep : ∀ c, c ≠ h.next → c ≠ B → c < h2.next → ((((h2.new c1).set h2.next c2).set B (.cells [.bool bad'] true none)).set h.next c3).get c = h2.get c := fun c q1 q2 q3 => by
      rw [get_set_ne q1, get_set_ne q2, get_set_ne (by omega), get_new_ne (by omega)]
    have hnx : ((((h2.new c1).set h2.next c2).set B (.cells [.bool bad'] true none)).set h.next c3).next = h2.next + 1 := rfl
    refine ⟨x2.keep (by omega) (fun c _ hcp hlt => keep c (by omega) (by omega) hlt) hop, ⟨by omega, fun c hc q1 q2 => ?_⟩, d, w, bad', rfl, DNew.le (DNew.keep hd (by omega) fun c q1 q2 => keep c (by omega) (by omega) q2) (by omega), ?_, hor⟩
    · rw [keep c (by omega) q2 (by omega), g2.get c (by omega), b1.get c (by omega) q1 q1, g0.get c hc]
    · rw [get_set_ne (by omega), get_set_same]
  rcases hq with ⟨d, w, q1, q2, rfl, rfl, q3⟩ | ⟨q1, rfl, rfl⟩
  · obtain ⟨aw, cw, rfl⟩ := q3.row.is
    have hdc : difC d (.slice aw d.recs.length cw) = [.int .i64 d.fr, .int .i64 d.to, .slice aw d.recs.length cw] := rfl
    have fin := fin d (.slice aw d.recs.length cw) (.cells [.int .i64 0, .int .i64 0, .slice none 0 0] true none) (.cells [.int .i64 d.fr, .int .i64 d.to, .slice aw d.recs.length cw] true none) (.cells [.int .i64 d.fr, .int .i64 d.to, .slice aw d.recs.length cw] true none) bad q3 (.inl ⟨q1, q2, rfl⟩)
    rw [hdc] at fin ⊢
    cases bad
    · simp (maxSteps := 10000000) (disch := omega) only [vqA, tagOf, reduceIte, reduceCtorEq, reduceEqDiff, reduceAdd, reduceSub, reduceMul, reduceLT, reduceLeDiff, reduceToNat, Nat.reduceBEq, tqA, hB2, m2]
      obtain ⟨f1, f2, d', w', b', f3, f4, f5, f6⟩ := fin
      rw [get_set_ne (by omega), get_set_same] at f5
      exact ⟨f1, f2, d', w', b', f3, f4, f5, f6⟩
    · simp (maxSteps := 10000000) (disch := omega) only [vqA, tagOf, reduceIte, reduceCtorEq, reduceEqDiff, reduceAdd, reduceSub, reduceMul, reduceLT, reduceLeDiff, reduceToNat, Nat.reduceBEq, tqA, hB2, m2]
      obtain ⟨f1, f2, d', w', b', f3, f4, f5, f6⟩ := fin
      rw [get_set_ne (by omega), get_set_same] at f5
      exact ⟨f1, f2, d', w', b', f3, f4, f5, f6⟩
  · have hdc : difC ⟨0, 0, []⟩ (.slice none 0 0) = [.int .i64 0, .int .i64 0, .slice none 0 0] := rfl
    have hnil : DNew h1.next h2 (.slice none 0 0) [] := ⟨[], rfl, .nil _ 4, (fun b hb => by cases hb), fun p hp => by cases hp⟩
    have fin := fin ⟨0, 0, []⟩ (.slice none 0 0) (.cells [.int .i64 0, .int .i64 0, .slice none 0 0] true none) (.cells [.int .i64 0, .int .i64 0, .slice none 0 0] true none) (.cells [.int .i64 0, .int .i64 0, .slice none 0 0] true none) true hnil (.inr ⟨q1, rfl, rfl⟩)
    rw [hdc] at fin ⊢
    cases bad
    · simp (maxSteps := 10000000) (disch := omega) only [vqA, tagOf, reduceIte, reduceCtorEq, reduceEqDiff, reduceAdd, reduceSub, reduceMul, reduceLT, reduceLeDiff, reduceToNat, Nat.reduceBEq, tqA, hB2, m2]
      obtain ⟨f1, f2, d', w', b', f3, f4, f5, f6⟩ := fin
      rw [get_set_ne (by omega), get_set_same] at f5
      exact ⟨f1, f2, d', w', b', f3, f4, f5, f6⟩
    · simp (maxSteps := 10000000) (disch := omega) only [vqA, tagOf, reduceIte, reduceCtorEq, reduceEqDiff, reduceAdd, reduceSub, reduceMul, reduceLT, reduceLeDiff, reduceToNat, Nat.reduceBEq, tqA, hB2, m2]
      obtain ⟨f1, f2, d', w', b', f3, f4, f5, f6⟩ := fin
      rw [get_set_ne (by omega), get_set_same] at f5
      exact ⟨f1, f2, d', w', b', f3, f4, f5, f6⟩
end Go.Proofs.Ytdmakachnphddaa.C
