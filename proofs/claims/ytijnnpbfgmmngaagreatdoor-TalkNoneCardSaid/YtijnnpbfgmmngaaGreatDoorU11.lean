/- U11: the document's answer: words; the table of verbs. -/
import Derived.Test.YtijnnpbfgmmngaaGreatDoorU10
open Go Go.Vi Go.Tk
namespace Go.Proofs.YtijnnpbfgmmngaaGreatDoor.C
set_option linter.unusedSimpArgs false
set_option maxRecDepth 100000
set_option maxHeartbeats 40000000
def glueL (xs : List (List UInt8)) (y : List UInt8) : List (List UInt8) → List (List UInt8)
  | h :: t => xs ++ (y ++ h) :: t
  | [] => xs ++ [y]
theorem textsV_app (a b : List (List UInt8)) : textsV (a ++ b) = textsV a ++ textsV b := by unfold textsV; rw [List.map_append]
theorem textsV_len (a : List (List UInt8)) : (textsV a).length = a.length := by unfold textsV; rw [List.length_map]
theorem refWords_ok (w : List UInt8) (hw : w.length ≤ 100000) (h : Heap) :
    Ret E f_laminaref25_words [.string (strOf w)] h (fun v h' => Grow h h' ∧ ∃ b p, v = .slice (some ⟨b, 0, none⟩) (wordsL w).length (wordsL w).length ∧ h.next ≤ b ∧ b < h'.next ∧ h'.get b = some (.cells (textsV (wordsL w)) true p)) := by
  refine ret_fun is_laminaref25_words (by simp) ?_
  unfold g_laminaref25_words
  simp (maxSteps := 10000000) (disch := omega) only [vq0, vq1, vq2, vq3, vq4, vq5, tagOf, reduceIte, reduceCtorEq, Nat.reduceEqDiff, Nat.reduceAdd, Nat.reduceSub, Nat.reduceMul, Nat.reduceLT, Nat.reduceLeDiff, Int.reduceToNat, Nat.reduceBEq, tq1, tq2, tq3]
  refine r_loop (k := w.length) (fun k ρ h' => ∃ (i b : Nat) (xs : List (List UInt8)) (y : List UInt8) (p : Option (Nat × Nat)), i + k = w.length ∧ xs.length ≤ i ∧ y.length ≤ i ∧ wordsL w = glueL xs y (wordsL (w.drop i)) ∧ (p = none ∨ p = some (1, t_string)) ∧
    ρ 0 = .string (strOf w) ∧ ρ 4 = .int .i64 (i : Int) ∧ ρ 3 = .slice (some ⟨b, 0, none⟩) (xs.length + 1) (xs.length + 1) ∧ h'.get b = some (.cells (textsV (xs ++ [y])) true p) ∧ h.next ≤ b ∧ b < h'.next ∧ Grow h h') ?_ ?_
  · rintro k ρ h' ⟨i, b, xs, y, p, hk, hx, hy, hg, hp, r0, r4, r3, hb, hb0, hb1, gr⟩
    unfold g_laminaref25_words_L0
    have htl : (textsV (xs ++ [y])).length = xs.length + 1 := by rw [textsV_len]; simp
    rcases Nat.lt_or_ge i w.length with hi | hi
    · have hc : w[i]? = some w[i] := List.getElem?_eq_getElem hi
      have hd1 : (w.drop i).take 1 = [w[i]] := by rw [List.drop_eq_getElem_cons hi]; rfl
      rw [List.drop_eq_getElem_cons hi] at hg
      generalize w[i] = c at hc hg hd1
      have ic : w[((i : Int)).toNat]? = some c := by rw [Int.toNat_natCast]; exact hc
      by_cases h32 : c = 32
      · subst h32
        have hcn : ((32 : UInt8).toNat : Int) = 32 := rfl
        have hg2 : wordsL w = glueL (xs ++ [y]) [] (wordsL (w.drop (i + 1))) := by
          rw [hg]
          conv => lhs; unfold wordsL
          rw [if_pos rfl]
          cases hq : wordsL (w.drop (i + 1)) with
          | nil => exact absurd hq (wordsL_ne _)
          | cons a t => simp [glueL]
        have hnew : textsV (xs ++ [y]) ++ [.string (strOf [])] = textsV ((xs ++ [y]) ++ [[]]) := by rw [textsV_app (xs ++ [y])]; rfl
        rcases hp with rfl | rfl
        · simp (maxSteps := 10000000) (disch := omega) only [vq0, vq1, vq2, vq3, vq4, vq5, tagOf, reduceIte, reduceCtorEq, Nat.reduceEqDiff, Nat.reduceAdd, Nat.reduceSub, Nat.reduceMul, Nat.reduceLT, Nat.reduceLeDiff, Int.reduceToNat, Nat.reduceBEq, tq1, tq2, tq3, r0, r4, r3, ic, byteV_at, hcn, hb, htl]
          exact ⟨k - 1, by omega, i + 1, h'.next + 1, xs ++ [y], [], some (1, t_string), by omega, by simp; omega, by simp, hg2, .inr rfl, rfl, by simp, by simp (maxSteps := 10000000) (disch := omega) only [vq0, vq1, vq2, vq3, vq4, vq5, tagOf, reduceIte, reduceCtorEq, Nat.reduceEqDiff, Nat.reduceAdd, Nat.reduceSub, Nat.reduceMul, Nat.reduceLT, Nat.reduceLeDiff, Int.reduceToNat, Nat.reduceBEq, tq1, tq2, tq3, hnew], by have := gr.next; omega, by omega, (gr.more _).more _⟩
        · simp (maxSteps := 10000000) (disch := omega) only [vq0, vq1, vq2, vq3, vq4, vq5, tagOf, reduceIte, reduceCtorEq, Nat.reduceEqDiff, Nat.reduceAdd, Nat.reduceSub, Nat.reduceMul, Nat.reduceLT, Nat.reduceLeDiff, Int.reduceToNat, Nat.reduceBEq, tq1, tq2, tq3, r0, r4, r3, ic, byteV_at, hcn, hb, htl]
          exact ⟨k - 1, by omega, i + 1, h'.next + 1, xs ++ [y], [], some (1, t_string), by omega, by simp; omega, by simp, hg2, .inr rfl, rfl, by simp, by simp (maxSteps := 10000000) (disch := omega) only [vq0, vq1, vq2, vq3, vq4, vq5, tagOf, reduceIte, reduceCtorEq, Nat.reduceEqDiff, Nat.reduceAdd, Nat.reduceSub, Nat.reduceMul, Nat.reduceLT, Nat.reduceLeDiff, Int.reduceToNat, Nat.reduceBEq, tq1, tq2, tq3, hnew], by have := gr.next; omega, by omega, ((gr.more _).more _).kill hb0⟩
      · have hcn : c.toNat ≠ 32 := fun e => h32 (UInt8.toNat_inj.1 e)
        have hlast : (textsV (xs ++ [y]))[xs.length]? = some (.string (strOf y)) := texts_at (by simp)
        have il : (textsV (xs ++ [y]))[((((xs.length + 1 : Nat) : Int)) - 1).toNat]? = some (.string (strOf y)) := by
          rw [show ((((xs.length + 1 : Nat) : Int)) - 1).toNat = xs.length from by omega]; exact hlast
        have es : (w.drop i).take (((i : Int) + 1).toNat - i) = [c] := by
          rw [show ((i : Int) + 1).toNat - i = 1 from by omega]; exact hd1
        have hset : (textsV (xs ++ [y])).set ((((xs.length + 1 : Nat) : Int)) - 1).toNat (.string (strOf (y ++ [c]))) = textsV (xs ++ [y ++ [c]]) := by
          rw [show ((((xs.length + 1 : Nat) : Int)) - 1).toNat = xs.length from by omega, textsV_app, textsV_app, List.set_append_right _ _ (by rw [textsV_len]; exact Nat.le_refl _), textsV_len, Nat.sub_self]
          rfl
        have hg2 : wordsL w = glueL xs (y ++ [c]) (wordsL (w.drop (i + 1))) := by
          rw [hg]
          conv => lhs; unfold wordsL
          rw [if_neg h32]
          cases hq : wordsL (w.drop (i + 1)) with
          | nil => exact absurd hq (wordsL_ne _)
          | cons a t => simp [glueL]
        have hadd : strV .add (strOf y) (strOf [c]) = some (.string (strOf (y ++ [c]))) := str_add (by simp; omega)
        simp (maxSteps := 10000000) (disch := omega) only [vq0, vq1, vq2, vq3, vq4, vq5, tagOf, reduceIte, reduceCtorEq, Nat.reduceEqDiff, Nat.reduceAdd, Nat.reduceSub, Nat.reduceMul, Nat.reduceLT, Nat.reduceLeDiff, Int.reduceToNat, Nat.reduceBEq, tq1, tq2, tq3, r0, r4, r3, ic, byteV_at, hb, il, es, hset, htl, hadd]
        exact ⟨k - 1, by omega, i + 1, b, xs, y ++ [c], p, by omega, by omega, by simp; omega, hg2, hp, rfl, rfl, by simp (maxSteps := 10000000) (disch := omega) only [vq0, vq1, vq2, vq3, vq4, vq5, tagOf, reduceIte, reduceCtorEq, Nat.reduceEqDiff, Nat.reduceAdd, Nat.reduceSub, Nat.reduceMul, Nat.reduceLT, Nat.reduceLeDiff, Int.reduceToNat, Nat.reduceBEq, tq1, tq2, tq3], hb0, hb1, gr.set hb0 _⟩
    · rw [List.drop_of_length_le hi] at hg
      have hg : wordsL w = xs ++ [y ++ []] := hg
      rw [List.append_nil] at hg
      simp (maxSteps := 10000000) (disch := omega) only [vq0, vq1, vq2, vq3, vq4, vq5, tagOf, reduceIte, reduceCtorEq, Nat.reduceEqDiff, Nat.reduceAdd, Nat.reduceSub, Nat.reduceMul, Nat.reduceLT, Nat.reduceLeDiff, Int.reduceToNat, Nat.reduceBEq, tq1, tq2, tq3, r0, r4, r3]
      rw [hg]
      exact ⟨gr, b, p, by simp, hb0, hb1, hb⟩
  · refine ⟨0, h.next, [], [], none, by omega, by simp, by simp, ?_, .inl rfl, ?_⟩
    · rw [List.drop_zero]
      cases hq : wordsL w with
      | nil => exact absurd hq (wordsL_ne _)
      | cons a t => simp [glueL]
    · simp (maxSteps := 10000000) (disch := omega) only [vq0, vq1, vq2, vq3, vq4, vq5, tagOf, reduceIte, reduceCtorEq, Nat.reduceEqDiff, Nat.reduceAdd, Nat.reduceSub, Nat.reduceMul, Nat.reduceLT, Nat.reduceLeDiff, Int.reduceToNat, Nat.reduceBEq, tq1, tq2, tq3]
      exact ⟨rfl, rfl, Nat.le_refl _, Nat.lt_succ_self _, .new _ _⟩
end Go.Proofs.YtijnnpbfgmmngaaGreatDoor.C
