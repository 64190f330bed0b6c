/- U8: the document's answer: halves, names, signs, words. -/
import Derived.Test.YtijnnpbfgmmngaaGreatDoorU7
open Go Go.Vi Go.Tk
namespace Go.Proofs.YtijnnpbfgmmngaaGreatDoor.C
set_option linter.unusedSimpArgs false
set_option maxRecDepth 100000
set_option maxHeartbeats 40000000
theorem two_take (w : List UInt8) : ∀ i, i ≤ w.length → (∀ j c, j < i → w[j]? = some c → c ≠ 64) → twoOf w = (w.take i ++ (twoOf (w.drop i)).1, (twoOf (w.drop i)).2.1, (twoOf (w.drop i)).2.2) := by
  induction w with
  | nil => intro i hi _; simp at hi; subst hi; rfl
  | cons b r ih =>
    intro i hi hall
    cases i with
    | zero => simp
    | succ i =>
      have hb : b ≠ 64 := hall 0 b (by omega) rfl
      have := ih i (by simpa using hi) (fun j c hj hc => hall (j + 1) c (by omega) (by simpa using hc))
      conv => lhs; unfold twoOf
      rw [if_neg hb, this]
      simp
theorem refTwo_ok (w : List UInt8) (hw : w.length ≤ 100000) (h : Heap) :
    Ret E f_laminaref25_two [.string (strOf w)] h (fun v h' => v = .tuple ⟨[.string (strOf (twoOf w).1), .string (strOf (twoOf w).2.1), .bool (twoOf w).2.2]⟩ ∧ h' = h) := by
  refine ret_fun is_laminaref25_two (by simp) ?_
  unfold g_laminaref25_two
  simp (maxSteps := 10000000) (disch := omega) only [vq0, vq1, vq2, vq3, vq4, vq5, tagOf, reduceIte, reduceCtorEq, Nat.reduceEqDiff, Nat.reduceAdd, Nat.reduceSub, Nat.reduceMul, Nat.reduceLT, Nat.reduceLeDiff, Int.reduceToNat, Nat.reduceBEq, tq1, tq2, tq3]
  refine r_loop (k := w.length) (fun k ρ h' => ∃ i, i + k = w.length ∧ (∀ j c, j < i → w[j]? = some c → c ≠ 64) ∧ ρ 0 = .string (strOf w) ∧ ρ 5 = .int .i64 (i : Int) ∧ h' = h) ?_ ?_
  · rintro k ρ h' ⟨i, hk, hall, r0, r5, rfl⟩
    unfold g_laminaref25_two_L0
    rcases Nat.lt_or_ge i w.length with hi | hi
    · have hc : w[i]? = some w[i] := List.getElem?_eq_getElem hi
      have ht := two_take w i (by omega) hall
      rw [List.drop_eq_getElem_cons hi] at ht
      generalize w[i] = c at hc ht
      have ic : w[((i : Int)).toNat]? = some c := by rw [Int.toNat_natCast]; exact hc
      by_cases h64 : c = 64
      · subst h64
        have h0 : ((64 : UInt8).toNat : Int) = 64 := rfl
        simp (maxSteps := 10000000) (disch := omega) only [vq0, vq1, vq2, vq3, vq4, vq5, tagOf, reduceIte, reduceCtorEq, Nat.reduceEqDiff, Nat.reduceAdd, Nat.reduceSub, Nat.reduceMul, Nat.reduceLT, Nat.reduceLeDiff, Int.reduceToNat, Nat.reduceBEq, tq1, tq2, tq3, r0, r5, ic, byteV_at, h0]
        rw [ht]
        unfold twoOf
        rw [if_pos rfl]
        simp only [List.append_nil]
        rw [show ((i : Int) + 1).toNat = i + 1 from by omega]
      · have h0 : c.toNat ≠ 64 := fun e => h64 (UInt8.toNat_inj.1 e)
        simp (maxSteps := 10000000) (disch := omega) only [vq0, vq1, vq2, vq3, vq4, vq5, tagOf, reduceIte, reduceCtorEq, Nat.reduceEqDiff, Nat.reduceAdd, Nat.reduceSub, Nat.reduceMul, Nat.reduceLT, Nat.reduceLeDiff, Int.reduceToNat, Nat.reduceBEq, tq1, tq2, tq3, r0, r5, ic, byteV_at]
        refine ⟨k - 1, by omega, i + 1, by omega, fun j x hj hx => ?_, rfl⟩
        rcases Nat.lt_or_ge j i with hlt | hge
        · exact hall j x hlt hx
        · have : j = i := by omega
          subst this
          rw [hc] at hx
          cases hx
          exact h64
    · have ht := two_take w i (by omega) hall
      rw [List.drop_of_length_le hi, List.take_of_length_le hi] at ht
      simp (maxSteps := 10000000) (disch := omega) only [vq0, vq1, vq2, vq3, vq4, vq5, tagOf, reduceIte, reduceCtorEq, Nat.reduceEqDiff, Nat.reduceAdd, Nat.reduceSub, Nat.reduceMul, Nat.reduceLT, Nat.reduceLeDiff, Int.reduceToNat, Nat.reduceBEq, tq1, tq2, tq3, r0, r5]
      rw [ht]
      unfold twoOf
      simp
  · exact ⟨0, by omega, fun _ _ h => absurd h (by omega), by simp (maxSteps := 10000000) (disch := omega) only [vq0, vq1, vq2, vq3, vq4, vq5, tagOf, reduceIte, reduceCtorEq, Nat.reduceEqDiff, Nat.reduceAdd, Nat.reduceSub, Nat.reduceMul, Nat.reduceLT, Nat.reduceLeDiff, Int.reduceToNat, Nat.reduceBEq, tq1, tq2, tq3], by simp (maxSteps := 10000000) (disch := omega) only [vq0, vq1, vq2, vq3, vq4, vq5, tagOf, reduceIte, reduceCtorEq, Nat.reduceEqDiff, Nat.reduceAdd, Nat.reduceSub, Nat.reduceMul, Nat.reduceLT, Nat.reduceLeDiff, Int.reduceToNat, Nat.reduceBEq, tq1, tq2, tq3]; rfl, rfl⟩
theorem refNamed_ok (w : List UInt8) (hw : w.length ≤ 1000000) (h : Heap) : Ret E f_laminaref11_Named [.string (strOf w)] h (fun v h' => v = .bool (namedB w) ∧ h' = h) := by
  refine ret_fun is_laminaref11_Named (by simp) ?_
  unfold g_laminaref11_Named
  by_cases h1 : w.length < 1
  · have e : namedB w = false := by unfold namedB; rw [decide_eq_false (show ¬ 1 ≤ w.length by omega)]; rfl
    simp (maxSteps := 10000000) (disch := omega) only [vq0, vq1, vq2, vq3, vq4, vq5, tagOf, reduceIte, reduceCtorEq, Nat.reduceEqDiff, Nat.reduceAdd, Nat.reduceSub, Nat.reduceMul, Nat.reduceLT, Nat.reduceLeDiff, Int.reduceToNat, Nat.reduceBEq, tq1, tq2, tq3, e]
  by_cases h2 : w.length > 20
  · have e : namedB w = false := by unfold namedB; rw [decide_eq_false (show ¬ w.length ≤ 20 by omega)]; simp
    simp (maxSteps := 10000000) (disch := omega) only [vq0, vq1, vq2, vq3, vq4, vq5, tagOf, reduceIte, reduceCtorEq, Nat.reduceEqDiff, Nat.reduceAdd, Nat.reduceSub, Nat.reduceMul, Nat.reduceLT, Nat.reduceLeDiff, Int.reduceToNat, Nat.reduceBEq, tq1, tq2, tq3, e]
  simp (maxSteps := 10000000) (disch := omega) only [vq0, vq1, vq2, vq3, vq4, vq5, tagOf, reduceIte, reduceCtorEq, Nat.reduceEqDiff, Nat.reduceAdd, Nat.reduceSub, Nat.reduceMul, Nat.reduceLT, Nat.reduceLeDiff, Int.reduceToNat, Nat.reduceBEq, tq1, tq2, tq3]
  refine r_loop (k := w.length) (fun k ρ h' => ∃ i, i + k = w.length ∧ (∀ j c, j < i → w[j]? = some c → Tk.okB c = true) ∧ ρ 0 = .string (strOf w) ∧ ρ 3 = .int .i64 (i : Int) ∧ h' = h) ?_ ?_
  · rintro k ρ h' ⟨i, hk, hall, r0, r3, rfl⟩
    unfold g_laminaref11_Named_L0
    rcases Nat.lt_or_ge i w.length with hi | hi
    · have hc : w[i]? = some w[i] := List.getElem?_eq_getElem hi
      have hmem : w[i] ∈ w := List.getElem_mem hi
      generalize w[i] = c at hc hmem
      have ic : w[((i : Int)).toNat]? = some c := by rw [Int.toNat_natCast]; exact hc
      have good : Tk.okB c = true → ∃ k', k' < k ∧ ∃ i_1, i_1 + k' = w.length ∧ (∀ (j : Nat) (c : UInt8), j < i_1 → w[j]? = some c → Tk.okB c = true) ∧ Value.int IntKind.i64 ((i : Int) + 1) = .int .i64 (i_1 : Int) := fun hq =>
        ⟨k - 1, by omega, i + 1, by omega, fun j x hj hx => by
          rcases Nat.lt_or_ge j i with hlt | hge
          · exact hall j x hlt hx
          · have : j = i := by omega
            subst this
            rw [hc] at hx
            cases hx
            exact hq, rfl⟩
      have bad : Tk.okB c = false → namedB w = false := fun hq => by
        unfold namedB
        have : w.all Tk.okB = false := by rw [List.all_eq_false]; exact ⟨c, hmem, by rw [hq]; simp⟩
        rw [this]; simp
      have okI : Tk.okB c = (decide (97 ≤ c.toNat ∧ c.toNat ≤ 122) || decide (48 ≤ c.toNat ∧ c.toNat ≤ 57) || decide (c.toNat = 45)) := rfl
      by_cases c1 : c.toNat < 97 <;> by_cases c2 : c.toNat > 122 <;> by_cases c3 : c.toNat < 48 <;> by_cases c4 : c.toNat > 57 <;> by_cases c5 : c.toNat = 45 <;> first
        | omega
        | (have hq : Tk.okB c = true := by (rw [okI]; simp; omega)
           simp (maxSteps := 10000000) (disch := omega) only [vq0, vq1, vq2, vq3, vq4, vq5, tagOf, reduceIte, reduceCtorEq, Nat.reduceEqDiff, Nat.reduceAdd, Nat.reduceSub, Nat.reduceMul, Nat.reduceLT, Nat.reduceLeDiff, Int.reduceToNat, Nat.reduceBEq, tq1, tq2, tq3, r0, r3, ic, byteV_at]
           exact good hq)
        | (have hq : Tk.okB c = false := by (rw [okI]; simp; omega)
           have hb := bad hq
           simp (maxSteps := 10000000) (disch := omega) only [vq0, vq1, vq2, vq3, vq4, vq5, tagOf, reduceIte, reduceCtorEq, Nat.reduceEqDiff, Nat.reduceAdd, Nat.reduceSub, Nat.reduceMul, Nat.reduceLT, Nat.reduceLeDiff, Int.reduceToNat, Nat.reduceBEq, tq1, tq2, tq3, r0, r3, ic, byteV_at, hb])
    · have e : namedB w = true := by
        unfold namedB
        rw [decide_eq_true (show 1 ≤ w.length by omega), decide_eq_true (show w.length ≤ 20 by omega)]
        simp only [Bool.true_and]
        rw [List.all_eq_true]
        intro c hc
        obtain ⟨j, hj, rfl⟩ := List.getElem_of_mem hc
        exact hall j _ (by omega) (List.getElem?_eq_getElem hj)
      simp (maxSteps := 10000000) (disch := omega) only [vq0, vq1, vq2, vq3, vq4, vq5, tagOf, reduceIte, reduceCtorEq, Nat.reduceEqDiff, Nat.reduceAdd, Nat.reduceSub, Nat.reduceMul, Nat.reduceLT, Nat.reduceLeDiff, Int.reduceToNat, Nat.reduceBEq, tq1, tq2, tq3, r0, r3, e]
  · exact ⟨0, by omega, fun _ _ h => absurd h (by omega), by simp (maxSteps := 10000000) (disch := omega) only [vq0, vq1, vq2, vq3, vq4, vq5, tagOf, reduceIte, reduceCtorEq, Nat.reduceEqDiff, Nat.reduceAdd, Nat.reduceSub, Nat.reduceMul, Nat.reduceLT, Nat.reduceLeDiff, Int.reduceToNat, Nat.reduceBEq, tq1, tq2, tq3], by simp (maxSteps := 10000000) (disch := omega) only [vq0, vq1, vq2, vq3, vq4, vq5, tagOf, reduceIte, reduceCtorEq, Nat.reduceEqDiff, Nat.reduceAdd, Nat.reduceSub, Nat.reduceMul, Nat.reduceLT, Nat.reduceLeDiff, Int.reduceToNat, Nat.reduceBEq, tq1, tq2, tq3]; rfl, rfl⟩
theorem refDigit_ok (c : UInt8) (h : Heap) : Ret E f_laminaref25_digit [.int .u8 c.toNat] h (fun v h' => v = .int .i64 (digI c) ∧ h' = h) := by
  refine ret_fun is_laminaref25_digit (by simp) ?_
  unfold g_laminaref25_digit digI digOf
  have hc := c.toNat_lt
  by_cases c1 : c.toNat < 48
  · rw [if_neg (by omega), if_neg (by omega)]
    simp (maxSteps := 10000000) (disch := omega) only [vq0, vq1, vq2, vq3, vq4, vq5, tagOf, reduceIte, reduceCtorEq, Nat.reduceEqDiff, Nat.reduceAdd, Nat.reduceSub, Nat.reduceMul, Nat.reduceLT, Nat.reduceLeDiff, Int.reduceToNat, Nat.reduceBEq, tq1, tq2, tq3]
  by_cases c2 : c.toNat ≤ 57
  · rw [if_pos (by omega)]
    simp (maxSteps := 10000000) (disch := omega) only [vq0, vq1, vq2, vq3, vq4, vq5, tagOf, reduceIte, reduceCtorEq, Nat.reduceEqDiff, Nat.reduceAdd, Nat.reduceSub, Nat.reduceMul, Nat.reduceLT, Nat.reduceLeDiff, Int.reduceToNat, Nat.reduceBEq, tq1, tq2, tq3]
    congr 1
    omega
  by_cases c3 : c.toNat < 97
  · rw [if_neg (by omega), if_neg (by omega)]
    simp (maxSteps := 10000000) (disch := omega) only [vq0, vq1, vq2, vq3, vq4, vq5, tagOf, reduceIte, reduceCtorEq, Nat.reduceEqDiff, Nat.reduceAdd, Nat.reduceSub, Nat.reduceMul, Nat.reduceLT, Nat.reduceLeDiff, Int.reduceToNat, Nat.reduceBEq, tq1, tq2, tq3]
  by_cases c4 : c.toNat ≤ 102
  · rw [if_neg (by omega), if_pos (by omega)]
    simp (maxSteps := 10000000) (disch := omega) only [vq0, vq1, vq2, vq3, vq4, vq5, tagOf, reduceIte, reduceCtorEq, Nat.reduceEqDiff, Nat.reduceAdd, Nat.reduceSub, Nat.reduceMul, Nat.reduceLT, Nat.reduceLeDiff, Int.reduceToNat, Nat.reduceBEq, tq1, tq2, tq3]
    congr 1
    omega
  rw [if_neg (by omega), if_neg (by omega)]
  simp (maxSteps := 10000000) (disch := omega) only [vq0, vq1, vq2, vq3, vq4, vq5, tagOf, reduceIte, reduceCtorEq, Nat.reduceEqDiff, Nat.reduceAdd, Nat.reduceSub, Nat.reduceMul, Nat.reduceLT, Nat.reduceLeDiff, Int.reduceToNat, Nat.reduceBEq, tq1, tq2, tq3]
end Go.Proofs.YtijnnpbfgmmngaaGreatDoor.C
