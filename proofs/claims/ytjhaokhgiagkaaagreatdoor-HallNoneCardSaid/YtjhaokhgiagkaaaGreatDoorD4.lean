/- D4: a row that is made larger; the bounds of boxes. -/
import Derived.Test.YtjhaokhgiagkaaaGreatDoorW1
open Go Go.Vi Go.Bm
namespace Go.Proofs.YtjhaokhgiagkaaaGreatDoor.C
set_option linter.unusedSimpArgs false
set_option maxRecDepth 100000
set_option maxHeartbeats 40000000
theorem within_ok (n a b : Int) (h : Heap) : Ret E f_box_within [.int .i64 n, .int .i64 a, .int .i64 b] h fun v h' => v = .bool (decide (a ≤ n ∧ n ≤ b)) ∧ h' = h := by
  refine ret_fun is_box_within (by simp) ?_
  unfold g_box_within
  rcases Int.lt_or_le n a with h1 | h1
  · rw [decide_eq_false (by omega)]
    simp (maxSteps := 10000000) (disch := omega) only [vq0, vq1, vq2, vq3, vq4, vq5, tagOf, reduceIte, reduceCtorEq, Nat.reduceEqDiff, Nat.reduceAdd, Nat.reduceSub, Nat.reduceMul, Nat.reduceLT, Nat.reduceLeDiff, Int.reduceToNat, Nat.reduceBEq, tq1, tq2, tq3, tq4, tq5]
  · rcases Int.lt_or_le b n with h2 | h2
    · rw [decide_eq_false (by omega)]
      simp (maxSteps := 10000000) (disch := omega) only [vq0, vq1, vq2, vq3, vq4, vq5, tagOf, reduceIte, reduceCtorEq, Nat.reduceEqDiff, Nat.reduceAdd, Nat.reduceSub, Nat.reduceMul, Nat.reduceLT, Nat.reduceLeDiff, Int.reduceToNat, Nat.reduceBEq, tq1, tq2, tq3, tq4, tq5]
    · rw [decide_eq_true (by omega)]
      simp (maxSteps := 10000000) (disch := omega) only [vq0, vq1, vq2, vq3, vq4, vq5, tagOf, reduceIte, reduceCtorEq, Nat.reduceEqDiff, Nat.reduceAdd, Nat.reduceSub, Nat.reduceMul, Nat.reduceLT, Nat.reduceLeDiff, Int.reduceToNat, Nat.reduceBEq, tq1, tq2, tq3, tq4, tq5]
theorem cap_nil (h : Heap) : capR E t_s_uint8 (.slice none 0 0) h = some (.int .i64 0) := by
  unfold capR
  rw [show E.ty t_s_uint8 = some ((E.ty t_s_uint8).getD dTy) from by kernel_rfl]
  simp only [Option.bind_eq_bind, Option.bind_some]
  rw [show ((E.ty t_s_uint8).getD dTy).under = .slice t_uint8 from by kernel_rfl]
  rfl
theorem ty_bytes : ∃ i e, E.ty t_s_uint8 = some i ∧ i.under = .slice t_uint8 ∧ E.ty t_uint8 = some e ∧ e.size = 1 ∧ e.bytes = 1 ∧ e.zero = some (.int .u8 0) :=
  ⟨(E.ty t_s_uint8).getD dTy, (E.ty t_uint8).getD dTy, by kernel_rfl, by kernel_rfl, by kernel_rfl, by kernel_rfl, by kernel_rfl, by kernel_rfl⟩
theorem okSrc_int : okSrc E (some t_int) = some false := by kernel_rfl
theorem zero_byte : (E.ty t_uint8).map (fun i => i.zero) = some (some (.int .u8 0)) := by kernel_rfl
theorem app_zero (n : Nat) (h : Heap) (h1 : 0 < n) (h2 : n ≤ 100000000) : appendV E t_s_uint8 (some t_int) (.slice none 0 0) (.int .i64 n) h = some (.slice (some ⟨h.next, 0, none⟩) n n, h.new (.cells (List.replicate n (.int .u8 0)) true (some (1, t_uint8)))) := by
  rw [app0_noughts sl_s_uint8 okSrc_int zero_byte rfl rfl (by omega) (by omega), appN_some h1 (by omega) (by omega)]
theorem slice_nil (h : Heap) : sliceS E t_s_uint8 (.slice none 0 0) none (some (.int .i64 0)) none h = some (.slice none 0 0) := by
  obtain ⟨i, e, hi, hu, he, hs, hb, hz⟩ := ty_bytes
  generalize E = E' at hi he ⊢
  unfold sliceS
  simp only [hi, hu, he, Option.bind_eq_bind, Option.bind_some]
  rw [show boundsV 0 0 none (some (.int .i64 0)) none = some (0, 0, 0) from rfl]
  simp only [Option.bind_some]
  rw [if_neg (by omega), if_pos trivial]
theorem grow0_ok (n : Nat) (h : Heap) (h1 : 0 < n) (h2 : n ≤ 100000000) : Ret E f_slices_Grow_s_byte_byte [.slice none 0 0, .int .i64 n] h fun v h' => v = .slice (some ⟨h.next, 0, none⟩) 0 n ∧ Grow h h' ∧ h'.next = h.next + 1 ∧ ∃ cs, cs.length = n ∧ h'.get h.next = some (.cells cs true (some (1, t_uint8))) := by
  refine ret_fun is_slices_Grow_s_byte_byte (by simp) ?_
  unfold g_slices_Grow_s_byte_byte
  have happ := app_zero n h h1 h2
  have e1 : (n : Int) - (0 - ((0 : Nat) : Int)) = n := by omega
  simp (maxSteps := 10000000) (disch := omega) only [vq0, vq1, vq2, vq3, vq4, vq5, tagOf, reduceIte, reduceCtorEq, Nat.reduceEqDiff, Nat.reduceAdd, Nat.reduceSub, Nat.reduceMul, Nat.reduceLT, Nat.reduceLeDiff, Int.reduceToNat, Nat.reduceBEq, tq1, tq2, tq3, tq4, tq5, cap_nil h, happ, slice_nil h, e1]
  exact ⟨rfl, .new h _, _, List.length_replicate, rfl⟩
end Go.Proofs.YtjhaokhgiagkaaaGreatDoor.C
