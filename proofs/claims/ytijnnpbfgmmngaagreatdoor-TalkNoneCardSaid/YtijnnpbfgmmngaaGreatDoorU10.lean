/- U10: the document's answer: numbers. -/
import Derived.Test.YtijnnpbfgmmngaaGreatDoorU9
open Go Go.Vi Go.Tk
namespace Go.Proofs.YtijnnpbfgmmngaaGreatDoor.C
set_option linter.unusedSimpArgs false
set_option maxRecDepth 100000
set_option maxHeartbeats 40000000
theorem num_yes {w : List UInt8} {v : Int} (h : inR v) (e : Lib.itoa v = w) : numB w = true ∧ numV w = v := by
  have ha := atoi_itoa h
  rw [e] at ha
  unfold numB numV
  rw [ha]
  simp [e]
theorem num_get {w : List UInt8} (h : numB w = true) : inR (numV w) ∧ Lib.itoa (numV w) = w := by
  unfold numB at h
  unfold numV
  rcases ha : Lib.atoiAll w with v | _ | _
  · rw [ha] at h; exact ⟨atoi_range ha, by simpa using h⟩
  · rw [ha] at h; cases h
  · rw [ha] at h; cases h
theorem wrap_in (z : Int) : inR (IntKind.i64.wrap z) := by
  unfold inR
  rw [IntKind.wrap_i64]
  omega
theorem wrapU (n : Nat) : IntKind.u64.wrap (n : Int) = ((m64 n : Nat) : Int) := by
  have e : IntKind.u64.wrap (n : Int) = (n : Int) % 18446744073709551616 := by simp [IntKind.wrap, IntKind.bits, IntKind.signed]
  rw [e]
  unfold m64
  omega
theorem mulU (a : Nat) : arithV .mul .u64 10 (a : Int) = some (.int .u64 ((m64 (10 * a) : Nat) : Int)) := by
  rw [ar_mul, show (10 : Int) * (a : Int) = ((10 * a : Nat) : Int) from by omega, wrapU]
theorem addU (a : Nat) (c : UInt8) (hc : 48 ≤ c.toNat) : arithV .add .u64 (a : Int) ((c.toNat : Int) - 48) = some (.int .u64 ((m64 (a + (c.toNat - 48)) : Nat) : Int)) := by
  rw [ar_add, show (a : Int) + ((c.toNat : Int) - 48) = ((a + (c.toNat - 48) : Nat) : Int) from by omega, wrapU]
theorem num_digits {w : List UInt8} {v : Int} (e : Lib.itoa v = w) : ∃ ds at', w.drop at' = ds ∧ ds.all isDig = true ∧ ds ≠ [] ∧ evD 0 ds = v.natAbs ∧ (at' = if w[0]? = some 45 then 1 else 0) ∧ (at' = 1 ↔ v < 0) := by
  unfold Lib.itoa at e
  split at e
  · rename_i hn
    obtain ⟨e1, e2, e3⟩ := dec_ev (v.natAbs + 1) v.natAbs (by omega)
    refine ⟨Lib.decDigits v.natAbs, 1, by rw [← e]; rfl, e2, e3, e1, ?_, by omega⟩
    rw [← e]
    simp
  · rename_i hn
    obtain ⟨e1, e2, e3⟩ := dec_ev (v.toNat + 1) v.toNat (by omega)
    refine ⟨Lib.decDigits v.toNat, 0, by rw [← e]; rfl, e2, e3, by rw [e1]; omega, ?_, by omega⟩
    rw [← e]
    cases hd : Lib.decDigits v.toNat with
    | nil => exact absurd hd e3
    | cons b r =>
      have hb := dec_head hd
      have : b ≠ 45 := fun e => by subst e; simp at hb
      simp [this]
theorem refNumber_ok (w : List UInt8) (hw : w.length ≤ 100000) (h : Heap) :
    Ret E f_laminaref25_number [.string (strOf w)] h (fun v h' => v = .tuple ⟨[.int .i64 (if numB w then numV w else 0), .bool (numB w)]⟩ ∧ h' = h) := by
  refine ret_fun is_laminaref25_number (by simp) ?_
  unfold g_laminaref25_number
  have hlen : numB w = true → 1 ≤ w.length ∧ w.length ≤ 20 := fun hn => by
    obtain ⟨h1, h2⟩ := num_get hn
    have := itoa_len20 h1
    rw [h2] at this
    exact this
  by_cases h1 : w.length < 1
  · have hn : numB w = false := by
      cases hq : numB w with
      | false => rfl
      | true => have := hlen hq; omega
    simp (maxSteps := 10000000) (disch := omega) only [vq0, vq1, vq2, vq3, vq4, vq5, tagOf, reduceIte, reduceCtorEq, Nat.reduceEqDiff, Nat.reduceAdd, Nat.reduceSub, Nat.reduceMul, Nat.reduceLT, Nat.reduceLeDiff, Int.reduceToNat, Nat.reduceBEq, tq1, tq2, tq3, hn]
  by_cases h2 : w.length > 20
  · have hn : numB w = false := by
      cases hq : numB w with
      | false => rfl
      | true => have := hlen hq; omega
    simp (maxSteps := 10000000) (disch := omega) only [vq0, vq1, vq2, vq3, vq4, vq5, tagOf, reduceIte, reduceCtorEq, Nat.reduceEqDiff, Nat.reduceAdd, Nat.reduceSub, Nat.reduceMul, Nat.reduceLT, Nat.reduceLeDiff, Int.reduceToNat, Nat.reduceBEq, tq1, tq2, tq3, hn]
  obtain ⟨c0, hc0⟩ : ∃ c, w[0]? = some c := ⟨w[0], List.getElem?_eq_getElem (by omega)⟩
  have main : ∀ (at' : Nat) (ρ : Fr), at' = (if c0 = 45 then 1 else 0) → ρ 0 = .string (strOf w) → ρ 4 = .int .u64 0 → ρ 5 = .int .i64 (at' : Int) → ρ 6 = .int .i64 (at' : Int) →
      R E (.loop g_laminaref25_number_L0) ρ h (blockQ 0 (seqQ E (.seq (.list [⟨some 44, (.move (.tmp 4)), t_uint64, none⟩,   ⟨some 45, (.convert t_uint64 t_int (.tmp 44)), t_int, none⟩,   ⟨some 7, (.assign (.tmp 45)), t_int, none⟩]) (.seq (.seq (.list [⟨some 46, (.move (.tmp 5)), t_int, none⟩,   ⟨some 47, (.binOp .eql t_int (.tmp 46) (.const (.int .i64 1)) t_int), t_bool, none⟩]) (.cond (.tmp 47) (.list [⟨some 48, (.move (.tmp 4)), t_uint64, none⟩,   ⟨some 49, (.unOp .neg t_uint64 (.tmp 48)), t_uint64, none⟩,   ⟨some 50, (.convert t_uint64 t_int (.tmp 49)), t_int, none⟩,   ⟨some 7, (.assign (.tmp 50)), t_int, none⟩]) (.skip))) (.seq (.seq (.list [⟨some 51, (.move (.tmp 7)), t_int, none⟩,   ⟨some 52, (.call ⟨.value (.func f_laminaref25_Figures), #[(.tmp 51)], #[t_int]⟩), t_string, none⟩,   ⟨some 53, (.move (.tmp 0)), t_string, none⟩,   ⟨some 54, (.binOp .neq t_string (.tmp 52) (.tmp 53) t_string), t_bool, none⟩]) (.cond (.tmp 54) (.seq (.list [⟨some 2, (.assign (.const (.int .i64 0))), t_int, none⟩,   ⟨some 3, (.assign (.const (.bool false))), t_bool, none⟩]) (.ret)) (.skip))) (.seq (.list [⟨some 55, (.move (.tmp 7)), t_int, none⟩,   ⟨some 2, (.assign (.tmp 55)), t_int, none⟩,   ⟨some 3, (.assign (.const (.bool true))), t_bool, none⟩]) (.ret)))))
        (endQ E [.tmp 2, .tmp 3] (fun v h' => v = .tuple ⟨[.int .i64 (if numB w then numV w else 0), .bool (numB w)]⟩ ∧ h' = h)))) := by
    intro at' ρ0 ha s0 s4 s5 s6
    have hdig : numB w = true → ∃ ds, w.drop at' = ds ∧ ds.all isDig = true ∧ evD 0 ds = (numV w).natAbs ∧ (at' = 1 ↔ numV w < 0) := fun hn => by
      obtain ⟨q1, q2⟩ := num_get hn
      obtain ⟨ds, at2, d1, d2, _, d4, d5, d6⟩ := num_digits q2
      have : at2 = at' := by
        rw [d5, ha, hc0]
        simp
      subst this
      exact ⟨ds, d1, d2, d4, d6⟩
    refine r_loop (k := w.length - at') (fun k ρ h' => ∃ (i U : Nat), i + k = w.length ∧ U < 18446744073709551616 ∧ uR U (w.drop i) = uR 0 (w.drop at') ∧ at' ≤ i ∧ ρ 0 = .string (strOf w) ∧ ρ 4 = .int .u64 (U : Int) ∧ ρ 5 = .int .i64 (at' : Int) ∧ ρ 6 = .int .i64 (i : Int) ∧ h' = h) ?_ ?_
    · rintro k ρ h' ⟨i, U, hk, hU, hu, hai, r0, r4, r5, r6, rfl⟩
      unfold g_laminaref25_number_L0
      rcases Nat.lt_or_ge i w.length with hi | hi
      · have hc : w[i]? = some w[i] := List.getElem?_eq_getElem hi
        have hmem : w[i] ∈ w.drop at' := by
          rw [List.mem_drop_iff_getElem]
          exact ⟨i - at', by omega, by congr 1; omega⟩
        rw [List.drop_eq_getElem_cons hi] at hu
        generalize w[i] = c at hc hmem hu
        have ic : w[((i : Int)).toNat]? = some c := by rw [Int.toNat_natCast]; exact hc
        have bad : ¬ (48 ≤ c.toNat ∧ c.toNat ≤ 57) → numB w = false := fun hq => by
          cases hn : numB w with
          | false => rfl
          | true =>
            obtain ⟨ds, d1, d2, _⟩ := hdig hn
            rw [d1] at hmem
            have := List.all_eq_true.1 d2 c hmem
            unfold isDig at this
            exact absurd (by simpa using this) hq
        by_cases c1 : c.toNat < 48
        · have hn := bad (by omega)
          simp (maxSteps := 10000000) (disch := omega) only [vq0, vq1, vq2, vq3, vq4, vq5, tagOf, reduceIte, reduceCtorEq, Nat.reduceEqDiff, Nat.reduceAdd, Nat.reduceSub, Nat.reduceMul, Nat.reduceLT, Nat.reduceLeDiff, Int.reduceToNat, Nat.reduceBEq, tq1, tq2, tq3, r0, r4, r5, r6, ic, byteV_at, hn]
        by_cases c2 : c.toNat > 57
        · have hn := bad (by omega)
          simp (maxSteps := 10000000) (disch := omega) only [vq0, vq1, vq2, vq3, vq4, vq5, tagOf, reduceIte, reduceCtorEq, Nat.reduceEqDiff, Nat.reduceAdd, Nat.reduceSub, Nat.reduceMul, Nat.reduceLT, Nat.reduceLeDiff, Int.reduceToNat, Nat.reduceBEq, tq1, tq2, tq3, r0, r4, r5, r6, ic, byteV_at, hn]
        simp (maxSteps := 10000000) (disch := omega) only [vq0, vq1, vq2, vq3, vq4, vq5, tagOf, reduceIte, reduceCtorEq, Nat.reduceEqDiff, Nat.reduceAdd, Nat.reduceSub, Nat.reduceMul, Nat.reduceLT, Nat.reduceLeDiff, Int.reduceToNat, Nat.reduceBEq, tq1, tq2, tq3, r0, r4, r5, r6, ic, byteV_at, mulU, addU _ c (by omega)]
        exact ⟨k - 1, by omega, i + 1, m64 (m64 (10 * U) + (c.toNat - 48)), by omega, m64_lt _, by rw [← hu, uR_cons], by omega, rfl, rfl⟩
      · rw [List.drop_of_length_le hi] at hu
        have hu : U = uR 0 (w.drop at') := hu
        have key : ∀ n' : Int, inR n' → (numB w = true → n' = numV w) → ((Lib.itoa n' == w) = numB w ∧ (numB w = true → n' = numV w)) := fun n' hin hsame => by
          refine ⟨?_, hsame⟩
          cases hn : numB w with
          | true =>
            rw [hsame hn, (num_get hn).2]
            simp
          | false =>
            rw [beq_eq_false_iff_ne]
            intro e
            have := (num_yes hin e).1
            rw [hn] at this
            cases this
        have hev : numB w = true → U = (numV w).natAbs := fun hn => by
          obtain ⟨ds, d1, d2, d3, _⟩ := hdig hn
          have hr := (num_get hn).1
          unfold inR at hr
          rw [hu, d1, uR_ev ds 0 (by rw [d3]; omega), d3]
        by_cases hc : c0 = 45
        · rw [if_pos hc] at ha
          subst ha
          obtain ⟨k1, k2⟩ := key (IntKind.i64.wrap (IntKind.u64.wrap (0 - (U : Int)))) (wrap_in _) (fun hn => by
            have hr := (num_get hn).1
            obtain ⟨ds, _, _, _, d4⟩ := hdig hn
            have := hev hn
            have hv : numV w < 0 := d4.1 rfl
            unfold inR at hr
            have e : IntKind.u64.wrap (0 - (U : Int)) = (0 - (U : Int)) % 18446744073709551616 := by simp [IntKind.wrap, IntKind.bits, IntKind.signed]
            rw [e, IntKind.wrap_i64]
            omega)
          have hin := wrap_in (IntKind.u64.wrap (0 - (U : Int)))
          generalize hnn : IntKind.i64.wrap (IntKind.u64.wrap (0 - (U : Int))) = n' at k1 k2 hin
          unfold inR at hin
          cases hn : numB w with
          | true =>
            rw [hn] at k1
            simp (maxSteps := 10000000) (disch := omega) only [vq0, vq1, vq2, vq3, vq4, vq5, tagOf, reduceIte, reduceCtorEq, Nat.reduceEqDiff, Nat.reduceAdd, Nat.reduceSub, Nat.reduceMul, Nat.reduceLT, Nat.reduceLeDiff, Int.reduceToNat, Nat.reduceBEq, tq1, tq2, tq3, r0, r4, r5, r6, hnn, figures_ret hin.1 hin.2, k1]
            rw [k2 hn]
          | false =>
            rw [hn] at k1
            simp (maxSteps := 10000000) (disch := omega) only [vq0, vq1, vq2, vq3, vq4, vq5, tagOf, reduceIte, reduceCtorEq, Nat.reduceEqDiff, Nat.reduceAdd, Nat.reduceSub, Nat.reduceMul, Nat.reduceLT, Nat.reduceLeDiff, Int.reduceToNat, Nat.reduceBEq, tq1, tq2, tq3, r0, r4, r5, r6, hnn, figures_ret hin.1 hin.2, k1]
        · rw [if_neg hc] at ha
          subst ha
          obtain ⟨k1, k2⟩ := key (IntKind.i64.wrap (U : Int)) (wrap_in _) (fun hn => by
            have hr := (num_get hn).1
            obtain ⟨ds, _, _, _, d4⟩ := hdig hn
            have := hev hn
            have hv : ¬ numV w < 0 := fun q => by have := d4.2 q; omega
            unfold inR at hr
            rw [IntKind.wrap_i64]
            omega)
          have hin := wrap_in (U : Int)
          generalize hnn : IntKind.i64.wrap (U : Int) = n' at k1 k2 hin
          unfold inR at hin
          cases hn : numB w with
          | true =>
            rw [hn] at k1
            simp (maxSteps := 10000000) (disch := omega) only [vq0, vq1, vq2, vq3, vq4, vq5, tagOf, reduceIte, reduceCtorEq, Nat.reduceEqDiff, Nat.reduceAdd, Nat.reduceSub, Nat.reduceMul, Nat.reduceLT, Nat.reduceLeDiff, Int.reduceToNat, Nat.reduceBEq, tq1, tq2, tq3, r0, r4, r5, r6, hnn, figures_ret hin.1 hin.2, k1]
            rw [k2 hn]
          | false =>
            rw [hn] at k1
            simp (maxSteps := 10000000) (disch := omega) only [vq0, vq1, vq2, vq3, vq4, vq5, tagOf, reduceIte, reduceCtorEq, Nat.reduceEqDiff, Nat.reduceAdd, Nat.reduceSub, Nat.reduceMul, Nat.reduceLT, Nat.reduceLeDiff, Int.reduceToNat, Nat.reduceBEq, tq1, tq2, tq3, r0, r4, r5, r6, hnn, figures_ret hin.1 hin.2, k1]
    · refine ⟨at', 0, ?_, by decide, rfl, Nat.le_refl _, s0, s4, s5, s6, rfl⟩
      have : at' ≤ w.length := by rw [ha]; split <;> omega
      omega
  have i0 : w[((0 : Int)).toNat]? = some c0 := hc0
  by_cases hc : c0 = 45
  · have hcn : c0.toNat = 45 := by rw [hc]; rfl
    simp (maxSteps := 10000000) (disch := omega) only [vq0, vq1, vq2, vq3, vq4, vq5, tagOf, reduceIte, reduceCtorEq, Nat.reduceEqDiff, Nat.reduceAdd, Nat.reduceSub, Nat.reduceMul, Nat.reduceLT, Nat.reduceLeDiff, Int.reduceToNat, Nat.reduceBEq, tq1, tq2, tq3, i0, byteV_at]
    exact main 1 _ (by rw [if_pos hc]) (by simp (maxSteps := 10000000) (disch := omega) only [vq0, vq1, vq2, vq3, vq4, vq5, tagOf, reduceIte, reduceCtorEq, Nat.reduceEqDiff, Nat.reduceAdd, Nat.reduceSub, Nat.reduceMul, Nat.reduceLT, Nat.reduceLeDiff, Int.reduceToNat, Nat.reduceBEq, tq1, tq2, tq3]) (by simp (maxSteps := 10000000) (disch := omega) only [vq0, vq1, vq2, vq3, vq4, vq5, tagOf, reduceIte, reduceCtorEq, Nat.reduceEqDiff, Nat.reduceAdd, Nat.reduceSub, Nat.reduceMul, Nat.reduceLT, Nat.reduceLeDiff, Int.reduceToNat, Nat.reduceBEq, tq1, tq2, tq3]) (by simp (maxSteps := 10000000) (disch := omega) only [vq0, vq1, vq2, vq3, vq4, vq5, tagOf, reduceIte, reduceCtorEq, Nat.reduceEqDiff, Nat.reduceAdd, Nat.reduceSub, Nat.reduceMul, Nat.reduceLT, Nat.reduceLeDiff, Int.reduceToNat, Nat.reduceBEq, tq1, tq2, tq3]; rfl) (by simp (maxSteps := 10000000) (disch := omega) only [vq0, vq1, vq2, vq3, vq4, vq5, tagOf, reduceIte, reduceCtorEq, Nat.reduceEqDiff, Nat.reduceAdd, Nat.reduceSub, Nat.reduceMul, Nat.reduceLT, Nat.reduceLeDiff, Int.reduceToNat, Nat.reduceBEq, tq1, tq2, tq3]; rfl)
  · have hcn : c0.toNat ≠ 45 := fun e => hc (UInt8.toNat_inj.1 e)
    simp (maxSteps := 10000000) (disch := omega) only [vq0, vq1, vq2, vq3, vq4, vq5, tagOf, reduceIte, reduceCtorEq, Nat.reduceEqDiff, Nat.reduceAdd, Nat.reduceSub, Nat.reduceMul, Nat.reduceLT, Nat.reduceLeDiff, Int.reduceToNat, Nat.reduceBEq, tq1, tq2, tq3, i0, byteV_at]
    exact main 0 _ (by rw [if_neg hc]) (by simp (maxSteps := 10000000) (disch := omega) only [vq0, vq1, vq2, vq3, vq4, vq5, tagOf, reduceIte, reduceCtorEq, Nat.reduceEqDiff, Nat.reduceAdd, Nat.reduceSub, Nat.reduceMul, Nat.reduceLT, Nat.reduceLeDiff, Int.reduceToNat, Nat.reduceBEq, tq1, tq2, tq3]) (by simp (maxSteps := 10000000) (disch := omega) only [vq0, vq1, vq2, vq3, vq4, vq5, tagOf, reduceIte, reduceCtorEq, Nat.reduceEqDiff, Nat.reduceAdd, Nat.reduceSub, Nat.reduceMul, Nat.reduceLT, Nat.reduceLeDiff, Int.reduceToNat, Nat.reduceBEq, tq1, tq2, tq3]) (by simp (maxSteps := 10000000) (disch := omega) only [vq0, vq1, vq2, vq3, vq4, vq5, tagOf, reduceIte, reduceCtorEq, Nat.reduceEqDiff, Nat.reduceAdd, Nat.reduceSub, Nat.reduceMul, Nat.reduceLT, Nat.reduceLeDiff, Int.reduceToNat, Nat.reduceBEq, tq1, tq2, tq3]; rfl) (by simp (maxSteps := 10000000) (disch := omega) only [vq0, vq1, vq2, vq3, vq4, vq5, tagOf, reduceIte, reduceCtorEq, Nat.reduceEqDiff, Nat.reduceAdd, Nat.reduceSub, Nat.reduceMul, Nat.reduceLT, Nat.reduceLeDiff, Int.reduceToNat, Nat.reduceBEq, tq1, tq2, tq3]; rfl)
end Go.Proofs.YtijnnpbfgmmngaaGreatDoor.C
