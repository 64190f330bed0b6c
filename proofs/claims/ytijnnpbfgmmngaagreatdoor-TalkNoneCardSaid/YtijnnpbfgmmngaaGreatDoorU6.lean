/- U6: a word, put where a verb wants it: all of them. -/
import Derived.Test.YtijnnpbfgmmngaaGreatDoorU5
open Go Go.Vi Go.Tk
namespace Go.Proofs.YtijnnpbfgmmngaaGreatDoor.C
set_option linter.unusedSimpArgs false
set_option maxRecDepth 100000
set_option maxHeartbeats 40000000
theorem takeQ_fin {b : Nat} {h h1 h' : Heap} {o' : TOp} {d' : Value} (hlt : b < h1.next) (g1 : GrowBut b h h1) (hb : h1.get b = some (.cells (opC o' d') true none)) (hd : DataAt h1 b d' o'.data) (g : Grow h1 h') (ok : Bool) :
    TakeQ b h (if ok then some o' else none) (.bool ok) h' := by
  refine ⟨g1.trans (.of g), ?_⟩
  cases ok with
  | false => rfl
  | true => exact ⟨rfl, d', by rw [g.get b hlt]; exact hb, hd.keep (.of g)⟩
theorem take_ok (b : Nat) (o : TOp) (d : Value) (want : UInt8) (w : List UInt8) (hw : w.length ≤ 100000) (h : Heap) (hlt : b < h.next) (hb : h.get b = some (.cells (opC o d) true none)) (hd : DataAt h b d o.data) :
    Ret E f_talk_take [.pointer (some ⟨b, 0, none⟩), .int .u8 want.toNat, .string (strOf w)] h (TakeQ b h (takeT o want w)) := by
  refine ret_fun is_talk_take (by simp) ?_
  unfold g_talk_take
  have hb0 := hb
  unfold opC at hb
  by_cases c1 : want.toNat = 105
  · unfold takeT
    rw [if_pos c1]
    simp (maxSteps := 10000000) (disch := omega) only [vq0, vq1, vq2, vq3, vq4, vq5, tagOf, reduceIte, reduceCtorEq, Nat.reduceEqDiff, Nat.reduceAdd, Nat.reduceSub, Nat.reduceMul, Nat.reduceLT, Nat.reduceLeDiff, Int.reduceToNat, Nat.reduceBEq, tq1, tq2, tq3, hb]
    refine (named_ok w (by omega) _).mono ?_
    rintro v h' ⟨rfl, g⟩
    simp (maxSteps := 10000000) (disch := omega) only [vq0, vq1, vq2, vq3, vq4, vq5, tagOf, reduceIte, reduceCtorEq, Nat.reduceEqDiff, Nat.reduceAdd, Nat.reduceSub, Nat.reduceMul, Nat.reduceLT, Nat.reduceLeDiff, Int.reduceToNat, Nat.reduceBEq, tq1, tq2, tq3]
    exact takeQ_fin (o' := { o with image := w }) (d' := d) (h1 := h.set b _) hlt ((GrowBut.of (.refl _)).set _) (get_set_same _ _ _) (hd.keep ((GrowBut.of (.refl _)).set _)) g _
  by_cases c2 : want.toNat = 118
  · unfold takeT
    rw [if_neg c1, if_pos c2]
    simp (maxSteps := 10000000) (disch := omega) only [vq0, vq1, vq2, vq3, vq4, vq5, tagOf, reduceIte, reduceCtorEq, Nat.reduceEqDiff, Nat.reduceAdd, Nat.reduceSub, Nat.reduceMul, Nat.reduceLT, Nat.reduceLeDiff, Int.reduceToNat, Nat.reduceBEq, tq1, tq2, tq3, hb]
    refine (pair_ok w hw _).mono ?_
    rintro v h1 ⟨rfl, g1⟩
    have hb1 : h1.get b = some (.cells (opC o d) true none) := by rw [g1.get b hlt]; exact hb0
    have hd1 := hd.keep (.of g1)
    have hlt1 : b < h1.next := Nat.lt_of_lt_of_le hlt g1.next
    unfold opC at hb1
    cases hp : pairB w with
    | true =>
      simp (maxSteps := 10000000) (disch := omega) only [vq0, vq1, vq2, vq3, vq4, vq5, tagOf, reduceIte, reduceCtorEq, Nat.reduceEqDiff, Nat.reduceAdd, Nat.reduceSub, Nat.reduceMul, Nat.reduceLT, Nat.reduceLeDiff, Int.reduceToNat, Nat.reduceBEq, tq1, tq2, tq3, hb1]
      exact takeQ_fin (o' := { o with image := (twoOf w).1, snap := (twoOf w).2.1 }) (d' := d) (ok := true) (h1 := (h1.set b _).set b _) hlt1 (((GrowBut.of g1).set _).set _) (get_set_same _ _ _) (hd1.keep (((GrowBut.of (.refl _)).set _).set _)) (.refl _)
    | false =>
      simp (maxSteps := 10000000) (disch := omega) only [vq0, vq1, vq2, vq3, vq4, vq5, tagOf, reduceIte, reduceCtorEq, Nat.reduceEqDiff, Nat.reduceAdd, Nat.reduceSub, Nat.reduceMul, Nat.reduceLT, Nat.reduceLeDiff, Int.reduceToNat, Nat.reduceBEq, tq1, tq2, tq3, hb1]
      refine (named_ok w (by omega) _).mono ?_
      rintro v h' ⟨rfl, g⟩
      simp (maxSteps := 10000000) (disch := omega) only [vq0, vq1, vq2, vq3, vq4, vq5, tagOf, reduceIte, reduceCtorEq, Nat.reduceEqDiff, Nat.reduceAdd, Nat.reduceSub, Nat.reduceMul, Nat.reduceLT, Nat.reduceLeDiff, Int.reduceToNat, Nat.reduceBEq, tq1, tq2, tq3]
      exact takeQ_fin (o' := { o with image := w, snap := [] }) (d' := d) (h1 := (((h1.set b _).set b _).set b _).set b _) hlt1 (((((GrowBut.of g1).set _).set _).set _).set _) (get_set_same _ _ _) (hd1.keep (((((GrowBut.of (.refl _)).set _).set _).set _).set _)) g _
  by_cases c3 : want.toNat = 115
  · unfold takeT
    rw [if_neg c1, if_neg c2, if_pos c3]
    simp (maxSteps := 10000000) (disch := omega) only [vq0, vq1, vq2, vq3, vq4, vq5, tagOf, reduceIte, reduceCtorEq, Nat.reduceEqDiff, Nat.reduceAdd, Nat.reduceSub, Nat.reduceMul, Nat.reduceLT, Nat.reduceLeDiff, Int.reduceToNat, Nat.reduceBEq, tq1, tq2, tq3, hb]
    refine (pair_ok w hw _).mono ?_
    rintro v h1 ⟨rfl, g1⟩
    have hb1 : h1.get b = some (.cells (opC o d) true none) := by rw [g1.get b hlt]; exact hb0
    have hd1 := hd.keep (.of g1)
    have hlt1 : b < h1.next := Nat.lt_of_lt_of_le hlt g1.next
    unfold opC at hb1
    simp (maxSteps := 10000000) (disch := omega) only [vq0, vq1, vq2, vq3, vq4, vq5, tagOf, reduceIte, reduceCtorEq, Nat.reduceEqDiff, Nat.reduceAdd, Nat.reduceSub, Nat.reduceMul, Nat.reduceLT, Nat.reduceLeDiff, Int.reduceToNat, Nat.reduceBEq, tq1, tq2, tq3, hb1]
    exact takeQ_fin (o' := { o with image := (twoOf w).1, snap := (twoOf w).2.1 }) (d' := d) (h1 := (h1.set b _).set b _) hlt1 (((GrowBut.of g1).set _).set _) (get_set_same _ _ _) (hd1.keep (((GrowBut.of (.refl _)).set _).set _)) (.refl _) _
  by_cases c4 : want.toNat = 112
  · unfold takeT
    rw [if_neg c1, if_neg c2, if_neg c3, if_pos c4]
    simp (maxSteps := 10000000) (disch := omega) only [vq0, vq1, vq2, vq3, vq4, vq5, tagOf, reduceIte, reduceCtorEq, Nat.reduceEqDiff, Nat.reduceAdd, Nat.reduceSub, Nat.reduceMul, Nat.reduceLT, Nat.reduceLeDiff, Int.reduceToNat, Nat.reduceBEq, tq1, tq2, tq3, hb]
    refine (pair_ok w hw _).mono ?_
    rintro v h1 ⟨rfl, g1⟩
    have hb1 : h1.get b = some (.cells (opC o d) true none) := by rw [g1.get b hlt]; exact hb0
    have hd1 := hd.keep (.of g1)
    have hlt1 : b < h1.next := Nat.lt_of_lt_of_le hlt g1.next
    unfold opC at hb1
    simp (maxSteps := 10000000) (disch := omega) only [vq0, vq1, vq2, vq3, vq4, vq5, tagOf, reduceIte, reduceCtorEq, Nat.reduceEqDiff, Nat.reduceAdd, Nat.reduceSub, Nat.reduceMul, Nat.reduceLT, Nat.reduceLeDiff, Int.reduceToNat, Nat.reduceBEq, tq1, tq2, tq3, hb1]
    exact takeQ_fin (o' := { o with parent := (twoOf w).1, snap := (twoOf w).2.1 }) (d' := d) (h1 := (h1.set b _).set b _) hlt1 (((GrowBut.of g1).set _).set _) (get_set_same _ _ _) (hd1.keep (((GrowBut.of (.refl _)).set _).set _)) (.refl _) _
  by_cases c5 : want.toNat = 50
  · unfold takeT
    rw [if_neg c1, if_neg c2, if_neg c3, if_neg c4, if_pos c5]
    by_cases hw45 : w = [45]
    · have hwb : (w == [45]) = true := by rw [hw45]; rfl
      rw [if_pos hw45]
      simp (maxSteps := 10000000) (disch := omega) only [vq0, vq1, vq2, vq3, vq4, vq5, tagOf, reduceIte, reduceCtorEq, Nat.reduceEqDiff, Nat.reduceAdd, Nat.reduceSub, Nat.reduceMul, Nat.reduceLT, Nat.reduceLeDiff, Int.reduceToNat, Nat.reduceBEq, tq1, tq2, tq3, hb, hwb]
      exact takeQ_fin (o' := { o with snap2 := [] }) (d' := d) (ok := true) (h1 := (h.set b _).set b _) hlt (((GrowBut.of (.refl _)).set _).set _) (get_set_same _ _ _) (hd.keep (((GrowBut.of (.refl _)).set _).set _)) (.refl _)
    · have hwb : (w == [45]) = false := by rw [beq_eq_false_iff_ne]; exact hw45
      rw [if_neg hw45]
      simp (maxSteps := 10000000) (disch := omega) only [vq0, vq1, vq2, vq3, vq4, vq5, tagOf, reduceIte, reduceCtorEq, Nat.reduceEqDiff, Nat.reduceAdd, Nat.reduceSub, Nat.reduceMul, Nat.reduceLT, Nat.reduceLeDiff, Int.reduceToNat, Nat.reduceBEq, tq1, tq2, tq3, hb, hwb]
      refine (named_ok w (by omega) _).mono ?_
      rintro v h' ⟨rfl, g⟩
      simp (maxSteps := 10000000) (disch := omega) only [vq0, vq1, vq2, vq3, vq4, vq5, tagOf, reduceIte, reduceCtorEq, Nat.reduceEqDiff, Nat.reduceAdd, Nat.reduceSub, Nat.reduceMul, Nat.reduceLT, Nat.reduceLeDiff, Int.reduceToNat, Nat.reduceBEq, tq1, tq2, tq3]
      exact takeQ_fin (o' := { o with snap2 := w }) (d' := d) (h1 := h.set b _) hlt ((GrowBut.of (.refl _)).set _) (get_set_same _ _ _) (hd.keep ((GrowBut.of (.refl _)).set _)) g _
  by_cases c6 : want.toNat = 100
  · simp (maxSteps := 10000000) (disch := omega) only [vq0, vq1, vq2, vq3, vq4, vq5, tagOf, reduceIte, reduceCtorEq, Nat.reduceEqDiff, Nat.reduceAdd, Nat.reduceSub, Nat.reduceMul, Nat.reduceLT, Nat.reduceLeDiff, Int.reduceToNat, Nat.reduceBEq, tq1, tq2, tq3]
    refine (bytesOf_ok w hw _).mono ?_
    rintro v h1 ⟨g1, d1, l, ok, rfl, hr, hok, hl⟩
    have hb1 : h1.get b = some (.cells (opC o d) true none) := by rw [g1.get b hlt]; exact hb0
    have hlt1 : b < h1.next := Nat.lt_of_lt_of_le hlt g1.next
    have hd1 := data_of_own hr hlt
    unfold opC at hb1
    have e : takeT o want w = if ok then some { o with data := l } else none := by
      unfold takeT
      rw [if_neg c1, if_neg c2, if_neg c3, if_neg c4, if_neg c5, if_pos c6]
      cases hq : dataOf w with
      | none => rw [hq] at hok; rw [← hok]; rfl
      | some m => rw [hq] at hok; rw [← hok, hl m hq]; rfl
    rw [e]
    have key : ∀ x, x = d1 → oneCell x = true → TakeQ b h (if ok then some { o with data := l } else none) (.bool ok) (h1.set b (.cells (opC { o with data := l } x) true none)) := fun x hx _ => by
      subst hx
      exact takeQ_fin (o' := { o with data := l }) (h1 := h1.set b _) hlt1 ((GrowBut.of g1).set _) (get_set_same _ _ _) (hd1.keep ((GrowBut.of (.refl _)).set _)) (.refl _) _
    rcases hd1 with ⟨rfl, _⟩ | ⟨c, _, _, rfl, _⟩
    · simp (maxSteps := 10000000) (disch := omega) only [vq0, vq1, vq2, vq3, vq4, vq5, tagOf, reduceIte, reduceCtorEq, Nat.reduceEqDiff, Nat.reduceAdd, Nat.reduceSub, Nat.reduceMul, Nat.reduceLT, Nat.reduceLeDiff, Int.reduceToNat, Nat.reduceBEq, tq1, tq2, tq3, hb1]
      exact key _ rfl rfl
    · simp (maxSteps := 10000000) (disch := omega) only [vq0, vq1, vq2, vq3, vq4, vq5, tagOf, reduceIte, reduceCtorEq, Nat.reduceEqDiff, Nat.reduceAdd, Nat.reduceSub, Nat.reduceMul, Nat.reduceLT, Nat.reduceLeDiff, Int.reduceToNat, Nat.reduceBEq, tq1, tq2, tq3, hb1]
      exact key _ rfl rfl
  by_cases c7 : want.toNat = 109
  · unfold takeT
    rw [if_neg c1, if_neg c2, if_neg c3, if_neg c4, if_neg c5, if_neg c6, if_pos c7]
    by_cases hon : w = [111, 110]
    · have hwb : (w == [111, 110]) = true := by rw [hon]; rfl
      rw [if_pos hon]
      simp (maxSteps := 10000000) (disch := omega) only [vq0, vq1, vq2, vq3, vq4, vq5, tagOf, reduceIte, reduceCtorEq, Nat.reduceEqDiff, Nat.reduceAdd, Nat.reduceSub, Nat.reduceMul, Nat.reduceLT, Nat.reduceLeDiff, Int.reduceToNat, Nat.reduceBEq, tq1, tq2, tq3, hb, hwb]
      exact takeQ_fin (o' := { o with on := true }) (d' := d) (ok := true) (h1 := h.set b _) hlt ((GrowBut.of (.refl _)).set _) (get_set_same _ _ _) (hd.keep ((GrowBut.of (.refl _)).set _)) (.refl _)
    · have hwb : (w == [111, 110]) = false := by rw [beq_eq_false_iff_ne]; exact hon
      rw [if_neg hon]
      by_cases hoff : w = [111, 102, 102]
      · have hwf : (w == [111, 102, 102]) = true := by rw [hoff]; rfl
        rw [if_pos hoff]
        simp (maxSteps := 10000000) (disch := omega) only [vq0, vq1, vq2, vq3, vq4, vq5, tagOf, reduceIte, reduceCtorEq, Nat.reduceEqDiff, Nat.reduceAdd, Nat.reduceSub, Nat.reduceMul, Nat.reduceLT, Nat.reduceLeDiff, Int.reduceToNat, Nat.reduceBEq, tq1, tq2, tq3, hb, hwb, hwf]
        exact takeQ_fin (o' := { o with on := false }) (d' := d) (ok := true) (h1 := h.set b _) hlt ((GrowBut.of (.refl _)).set _) (get_set_same _ _ _) (hd.keep ((GrowBut.of (.refl _)).set _)) (.refl _)
      · have hwf : (w == [111, 102, 102]) = false := by rw [beq_eq_false_iff_ne]; exact hoff
        rw [if_neg hoff]
        simp (maxSteps := 10000000) (disch := omega) only [vq0, vq1, vq2, vq3, vq4, vq5, tagOf, reduceIte, reduceCtorEq, Nat.reduceEqDiff, Nat.reduceAdd, Nat.reduceSub, Nat.reduceMul, Nat.reduceLT, Nat.reduceLeDiff, Int.reduceToNat, Nat.reduceBEq, tq1, tq2, tq3, hb, hwb, hwf]
        exact ⟨(GrowBut.of (.refl _)).set _, rfl⟩
  simp (maxSteps := 10000000) (disch := omega) only [vq0, vq1, vq2, vq3, vq4, vq5, tagOf, reduceIte, reduceCtorEq, Nat.reduceEqDiff, Nat.reduceAdd, Nat.reduceSub, Nat.reduceMul, Nat.reduceLT, Nat.reduceLeDiff, Int.reduceToNat, Nat.reduceBEq, tq1, tq2, tq3]
  refine (sized_ok b o d want w hw h hb0 hd c1 c2 c3 c4 c5 c6 c7).mono ?_
  intro v h' hq
  obtain ⟨hg, hm⟩ := hq
  cases ht : takeT o want w with
  | none =>
    rw [ht] at hm
    subst hm
    simp (maxSteps := 10000000) (disch := omega) only [vq0, vq1, vq2, vq3, vq4, vq5, tagOf, reduceIte, reduceCtorEq, Nat.reduceEqDiff, Nat.reduceAdd, Nat.reduceSub, Nat.reduceMul, Nat.reduceLT, Nat.reduceLeDiff, Int.reduceToNat, Nat.reduceBEq, tq1, tq2, tq3]
    exact ⟨hg, rfl⟩
  | some o' =>
    rw [ht] at hm
    obtain ⟨rfl, d', hx, hy⟩ := hm
    simp (maxSteps := 10000000) (disch := omega) only [vq0, vq1, vq2, vq3, vq4, vq5, tagOf, reduceIte, reduceCtorEq, Nat.reduceEqDiff, Nat.reduceAdd, Nat.reduceSub, Nat.reduceMul, Nat.reduceLT, Nat.reduceLeDiff, Int.reduceToNat, Nat.reduceBEq, tq1, tq2, tq3]
    exact ⟨hg, rfl, d', hx, hy⟩
end Go.Proofs.YtijnnpbfgmmngaaGreatDoor.C
