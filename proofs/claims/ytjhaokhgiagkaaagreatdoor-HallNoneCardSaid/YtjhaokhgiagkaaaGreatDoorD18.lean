/- D18: the calls of a nil hall; the law. -/
import Derived.Test.YtjhaokhgiagkaaaGreatDoorD17
open Go Go.Vi Go.Bm
namespace Go.Proofs.YtjhaokhgiagkaaaGreatDoor.C
set_option linter.unusedSimpArgs false
set_option maxRecDepth 100000
set_option maxHeartbeats 40000000
theorem num_errno (h : Heap) (k : Int) (hk : 0 < k ∧ k < 1000) : Ret E f_laminanum_Num [.iface t_api_Errno (.int .i64 k)] h fun v h' => v = .int .i64 k ∧ h' = h := by
  refine ret_fun is_laminanum_Num (by simp) ?_
  unfold g_laminanum_Num
  simp (maxSteps := 10000000) (disch := omega) only [vq0, vq1, vq2, vq3, vq4, vq5, tagOf, reduceIte, reduceCtorEq, Nat.reduceEqDiff, Nat.reduceAdd, Nat.reduceSub, Nat.reduceMul, Nat.reduceLT, Nat.reduceLeDiff, Int.reduceToNat, Nat.reduceBEq, tq1, tq2, tq3, tq4, tq5]
theorem is_errno (h : Heap) (k : Int) (hk : 0 < k ∧ k < 1000) : Ret E f_laminanum_Is [.iface t_api_Errno (.int .i64 k), .int .i64 k] h fun v h' => v = .bool true ∧ h' = h := by
  refine ret_fun is_laminanum_Is (by simp) ?_
  unfold g_laminanum_Is
  simp (maxSteps := 10000000) (disch := omega) only [vq0, vq1, vq2, vq3, vq4, vq5, tagOf, reduceIte, reduceCtorEq, Nat.reduceEqDiff, Nat.reduceAdd, Nat.reduceSub, Nat.reduceMul, Nat.reduceLT, Nat.reduceLeDiff, Int.reduceToNat, Nat.reduceBEq, tq1, tq2, tq3, tq4, tq5, (num_errno h k hk).eq]
theorem num_nil (h : Heap) : Ret E f_laminanum_Num [.nilIface] h fun v h' => v = .int .i64 0 ∧ h' = h := by
  refine ret_fun is_laminanum_Num (by simp) ?_
  unfold g_laminanum_Num
  simp (maxSteps := 10000000) (disch := omega) only [vq0, vq1, vq2, vq3, vq4, vq5, tagOf, reduceIte, reduceCtorEq, Nat.reduceEqDiff, Nat.reduceAdd, Nat.reduceSub, Nat.reduceMul, Nat.reduceLT, Nat.reduceLeDiff, Int.reduceToNat, Nat.reduceBEq, tq1, tq2, tq3, tq4, tq5]
theorem crash_nil (h : Heap) (x : Value) : Ret E f_p_hall_Hall_Crash [.pointer none, x] h fun _ h' => h' = h := by
  refine ret_fun is_p_hall_Hall_Crash (by simp) ?_
  unfold g_p_hall_Hall_Crash
  simp (maxSteps := 10000000) (disch := omega) only [vq0, vq1, vq2, vq3, vq4, vq5, tagOf, reduceIte, reduceCtorEq, Nat.reduceEqDiff, Nat.reduceAdd, Nat.reduceSub, Nat.reduceMul, Nat.reduceLT, Nat.reduceLeDiff, Int.reduceToNat, Nat.reduceBEq, tq1, tq2, tq3, tq4, tq5]
theorem ready_nil (h : Heap) (c : Int) : Ret E f_p_hall_Hall_ready [.pointer none, .int .i64 c] h fun v h' => v = .iface t_api_Errno (.int .i64 13) ∧ h' = h := by
  refine ret_fun is_p_hall_Hall_ready (by simp) ?_
  unfold g_p_hall_Hall_ready
  simp (maxSteps := 10000000) (disch := omega) only [vq0, vq1, vq2, vq3, vq4, vq5, tagOf, reduceIte, reduceCtorEq, Nat.reduceEqDiff, Nat.reduceAdd, Nat.reduceSub, Nat.reduceMul, Nat.reduceLT, Nat.reduceLeDiff, Int.reduceToNat, Nat.reduceBEq, tq1, tq2, tq3, tq4, tq5]
theorem step_nil (h : Heap) (c : Int) : Ret E f_p_hall_Hall_Step [.pointer none, .int .i64 c] h fun v h' => v = .tuple #[.agg ⟨[.slice none 0 0, .int .i64 0, .nilIface]⟩, .bool false, .iface t_api_Errno (.int .i64 13)] ∧ Grow h h' := by
  refine ret_fun is_p_hall_Hall_Step (by simp) ?_
  unfold g_p_hall_Hall_Step
  have rd := fun h => (ready_nil h c).eq
  simp (maxSteps := 10000000) (disch := omega) only [vq0, vq1, vq2, vq3, vq4, vq5, tagOf, reduceIte, reduceCtorEq, Nat.reduceEqDiff, Nat.reduceAdd, Nat.reduceSub, Nat.reduceMul, Nat.reduceLT, Nat.reduceLeDiff, Int.reduceToNat, Nat.reduceBEq, tq1, tq2, tq3, tq4, tq5, rd]
  exact (Grow.new h _).set (Nat.le_refl _) _
theorem start_nil (h : Heap) (c : Int) : Ret E f_p_hall_Hall_Start [.pointer none, .int .i64 c, .agg ⟨[.int .i64 0, .string (strOf []), .string (strOf []), .string (strOf []), .string (strOf []), .int .i64 0, .int .i64 0, .int .i64 0, .int .i64 0, .slice none 0 0, .bool false]⟩] h fun v h' => v = .iface t_api_Errno (.int .i64 13) ∧ Grow h h' := by
  refine ret_fun is_p_hall_Hall_Start (by simp) ?_
  unfold g_p_hall_Hall_Start
  have rd := fun h => (ready_nil h c).eq
  simp (maxSteps := 10000000) (disch := omega) only [vq0, vq1, vq2, vq3, vq4, vq5, tagOf, reduceIte, reduceCtorEq, Nat.reduceEqDiff, Nat.reduceAdd, Nat.reduceSub, Nat.reduceMul, Nat.reduceLT, Nat.reduceLeDiff, Int.reduceToNat, Nat.reduceBEq, tq1, tq2, tq3, tq4, tq5, rd]
  exact .new _ _
theorem run_nil (h : Heap) (c : Int) : Ret E f_p_hall_Hall_Run [.pointer none, .int .i64 c, .agg ⟨[.int .i64 0, .string (strOf []), .string (strOf []), .string (strOf []), .string (strOf []), .int .i64 0, .int .i64 0, .int .i64 0, .int .i64 0, .slice none 0 0, .bool false]⟩] h fun v _ => v = .agg ⟨[.slice none 0 0, .int .i64 0, .iface t_api_Errno (.int .i64 13)]⟩ := by
  refine ret_fun is_p_hall_Hall_Run (by simp) ?_
  unfold g_p_hall_Hall_Run
  simp (maxSteps := 10000000) (disch := omega) only [vq0, vq1, vq2, vq3, vq4, vq5, tagOf, reduceIte, reduceCtorEq, Nat.reduceEqDiff, Nat.reduceAdd, Nat.reduceSub, Nat.reduceMul, Nat.reduceLT, Nat.reduceLeDiff, Int.reduceToNat, Nat.reduceBEq, tq1, tq2, tq3, tq4, tq5]
  refine (start_nil _ c).mono ?_
  rintro u h1 ⟨rfl, g1⟩
  have m1 := (g1.get (h.next + 1) (Nat.lt_succ_self _)).trans (get_new_same _ _)
  simp (maxSteps := 10000000) (disch := omega) only [vq0, vq1, vq2, vq3, vq4, vq5, tagOf, reduceIte, reduceCtorEq, Nat.reduceEqDiff, Nat.reduceAdd, Nat.reduceSub, Nat.reduceMul, Nat.reduceLT, Nat.reduceLeDiff, Int.reduceToNat, Nat.reduceBEq, tq1, tq2, tq3, tq4, tq5, m1]
theorem arm_nil (h : Heap) (c : Int) : Ret E f_p_hall_Hall_Arm [.pointer none, .int .i64 c] h fun v h' => v = .iface t_api_Errno (.int .i64 13) ∧ h' = h := by
  refine ret_fun is_p_hall_Hall_Arm (by simp) ?_
  unfold g_p_hall_Hall_Arm
  simp (maxSteps := 10000000) (disch := omega) only [vq0, vq1, vq2, vq3, vq4, vq5, tagOf, reduceIte, reduceCtorEq, Nat.reduceEqDiff, Nat.reduceAdd, Nat.reduceSub, Nat.reduceMul, Nat.reduceLT, Nat.reduceLeDiff, Int.reduceToNat, Nat.reduceBEq, tq1, tq2, tq3, tq4, tq5]
theorem open_nil (h : Heap) : Ret E f_p_hall_Hall_Open [.pointer none] h fun v h' => v = .iface t_api_Errno (.int .i64 13) ∧ h' = h := by
  refine ret_fun is_p_hall_Hall_Open (by simp) ?_
  unfold g_p_hall_Hall_Open
  simp (maxSteps := 10000000) (disch := omega) only [vq0, vq1, vq2, vq3, vq4, vq5, tagOf, reduceIte, reduceCtorEq, Nat.reduceEqDiff, Nat.reduceAdd, Nat.reduceSub, Nat.reduceMul, Nat.reduceLT, Nat.reduceLeDiff, Int.reduceToNat, Nat.reduceBEq, tq1, tq2, tq3, tq4, tq5]
theorem busy_nil (h : Heap) (c : Int) : Ret E f_p_hall_Hall_Busy [.pointer none, .int .i64 c] h fun v h' => v = .bool false ∧ h' = h := by
  refine ret_fun is_p_hall_Hall_Busy (by simp) ?_
  unfold g_p_hall_Hall_Busy
  have rd := fun h => (ready_nil h c).eq
  simp (maxSteps := 10000000) (disch := omega) only [vq0, vq1, vq2, vq3, vq4, vq5, tagOf, reduceIte, reduceCtorEq, Nat.reduceEqDiff, Nat.reduceAdd, Nat.reduceSub, Nat.reduceMul, Nat.reduceLT, Nat.reduceLeDiff, Int.reduceToNat, Nat.reduceBEq, tq1, tq2, tq3, tq4, tq5, rd]
theorem pool_nil (h : Heap) : Ret E f_p_hall_Hall_Pool [.pointer none] h fun v h' => v = .pointer none ∧ h' = h := by
  refine ret_fun is_p_hall_Hall_Pool (by simp) ?_
  unfold g_p_hall_Hall_Pool
  simp (maxSteps := 10000000) (disch := omega) only [vq0, vq1, vq2, vq3, vq4, vq5, tagOf, reduceIte, reduceCtorEq, Nat.reduceEqDiff, Nat.reduceAdd, Nat.reduceSub, Nat.reduceMul, Nat.reduceLT, Nat.reduceLeDiff, Int.reduceToNat, Nat.reduceBEq, tq1, tq2, tq3, tq4, tq5]
theorem disk_nil (h : Heap) : Ret E f_p_hall_Hall_Disk [.pointer none] h fun v h' => v = .pointer none ∧ h' = h := by
  refine ret_fun is_p_hall_Hall_Disk (by simp) ?_
  unfold g_p_hall_Hall_Disk
  simp (maxSteps := 10000000) (disch := omega) only [vq0, vq1, vq2, vq3, vq4, vq5, tagOf, reduceIte, reduceCtorEq, Nat.reduceEqDiff, Nat.reduceAdd, Nat.reduceSub, Nat.reduceMul, Nat.reduceLT, Nat.reduceLeDiff, Int.reduceToNat, Nat.reduceBEq, tq1, tq2, tq3, tq4, tq5]
def badSize (a n : Int) : Bool := decide (a < 1 ∨ 4096 < a ∨ n < 0 ∨ 65536 < n ∨ a < 8)
theorem hall_any (h : Heap) (a n : Int) : Ret E f_hall_New [.int .i64 a, .int .i64 n] h fun u _ => ∃ v e, u = .tuple #[v, e] ∧ ∀ h2, Ret E f_laminanum_Num [e] h2 fun w h3 => w = .int .i64 (if badSize a n then 1 else 0) ∧ h3 = h2 := by
  have ne : badSize a n = true → ∀ h2, Ret E f_laminanum_Num [.iface t_api_Errno (.int .i64 1)] h2 fun w h3 => w = .int .i64 (if badSize a n then 1 else 0) ∧ h3 = h2 := fun e h2 => by
    rw [e]; exact num_errno h2 1 (by decide)
  by_cases h1 : a < 1 ∨ 4096 < a
  · refine (hall_bad h a n h1).mono ?_
    rintro u _ rfl
    exact ⟨_, _, rfl, ne (decide_eq_true (by omega))⟩
  · by_cases h2 : (n < 0 ∨ 65536 < n) ∨ a < 8
    · refine (hall_err h a n (by omega) h2).mono ?_
      rintro u _ rfl
      exact ⟨_, _, rfl, ne (decide_eq_true (by omega))⟩
    · refine (hall_ok h a n (by omega) (by omega)).mono ?_
      rintro u _ ⟨q, rfl⟩
      refine ⟨_, _, rfl, fun h2 => ?_⟩
      rw [show badSize a n = false from decide_eq_false (by omega)]
      exact num_nil h2
theorem alive_ok (h : Heap) : Ret E f_laminalaw21_alive [] h fun v h' => v = .bool true ∧ h' = h := ret_ext (by kernel_rfl) (by rfl) (show memo (.bool true) [] h = some (.bool true, h) from rfl) ⟨rfl, rfl⟩
theorem law_none (c a n : Int) (h : Heap) : Ret E f_laminalaw21_HallNone [.int .i64 c, .int .i64 a, .int .i64 n] h fun u _ => u = .bool true := by
  refine ret_fun is_laminalaw21_HallNone (by simp) ?_
  unfold g_laminalaw21_HallNone
  simp (maxSteps := 10000000) (disch := omega) only [vq0, vq1, vq2, vq3, vq4, vq5, tagOf, reduceIte, reduceCtorEq, Nat.reduceEqDiff, Nat.reduceAdd, Nat.reduceSub, Nat.reduceMul, Nat.reduceLT, Nat.reduceLeDiff, Int.reduceToNat, Nat.reduceBEq, tq1, tq2, tq3, tq4, tq5, (alive_ok h).eq]
  refine (crash_nil _ _).mono ?_
  rintro u h1 rfl
  simp (maxSteps := 10000000) (disch := omega) only [vq0, vq1, vq2, vq3, vq4, vq5, tagOf, reduceIte, reduceCtorEq, Nat.reduceEqDiff, Nat.reduceAdd, Nat.reduceSub, Nat.reduceMul, Nat.reduceLT, Nat.reduceLeDiff, Int.reduceToNat, Nat.reduceBEq, tq1, tq2, tq3, tq4, tq5]
  refine (step_nil _ c).mono ?_
  rintro u h2 ⟨rfl, g2⟩
  simp (maxSteps := 10000000) (disch := omega) only [vq0, vq1, vq2, vq3, vq4, vq5, tagOf, reduceIte, reduceCtorEq, Nat.reduceEqDiff, Nat.reduceAdd, Nat.reduceSub, Nat.reduceMul, Nat.reduceLT, Nat.reduceLeDiff, Int.reduceToNat, Nat.reduceBEq, tq1, tq2, tq3, tq4, tq5]
  refine (hall_any _ a n).mono ?_
  rintro u h3 ⟨v, e, rfl, hnum⟩
  have isk := fun h => (is_errno h 13 (by decide)).eq
  have am := fun h => (arm_nil h c).eq
  have op := fun h => (open_nil h).eq
  have bu := fun h => (busy_nil h c).eq
  have po := fun h => (pool_nil h).eq
  have di := fun h => (disk_nil h).eq
  simp (maxSteps := 10000000) (disch := omega) only [vq0, vq1, vq2, vq3, vq4, vq5, tagOf, reduceIte, reduceCtorEq, Nat.reduceEqDiff, Nat.reduceAdd, Nat.reduceSub, Nat.reduceMul, Nat.reduceLT, Nat.reduceLeDiff, Int.reduceToNat, Nat.reduceBEq, tq1, tq2, tq3, tq4, tq5]
  rcases (show a < 1 ∨ 4096 < a ∨ (1 ≤ a ∧ a ≤ 4096 ∧ n < 0) ∨ (1 ≤ a ∧ a ≤ 4096 ∧ 65536 < n) ∨ (1 ≤ a ∧ a < 8 ∧ 0 ≤ n ∧ n ≤ 65536) ∨ (8 ≤ a ∧ a ≤ 4096 ∧ 0 ≤ n ∧ n ≤ 65536) by omega) with q | q | q | q | q | q
  · have hb : badSize a n = true := decide_eq_true (by omega)
    rw [hb] at hnum
    simp (maxSteps := 10000000) (disch := omega) only [vq0, vq1, vq2, vq3, vq4, vq5, tagOf, reduceIte, reduceCtorEq, Nat.reduceEqDiff, Nat.reduceAdd, Nat.reduceSub, Nat.reduceMul, Nat.reduceLT, Nat.reduceLeDiff, Int.reduceToNat, Nat.reduceBEq, tq1, tq2, tq3, tq4, tq5, isk]
    refine (start_nil _ c).mono ?_
    rintro u h4 ⟨rfl, _⟩
    simp (maxSteps := 10000000) (disch := omega) only [vq0, vq1, vq2, vq3, vq4, vq5, tagOf, reduceIte, reduceCtorEq, Nat.reduceEqDiff, Nat.reduceAdd, Nat.reduceSub, Nat.reduceMul, Nat.reduceLT, Nat.reduceLeDiff, Int.reduceToNat, Nat.reduceBEq, tq1, tq2, tq3, tq4, tq5, isk]
    refine (run_nil _ c).mono ?_
    rintro u h5 rfl
    simp (maxSteps := 10000000) (disch := omega) only [vq0, vq1, vq2, vq3, vq4, vq5, tagOf, reduceIte, reduceCtorEq, Nat.reduceEqDiff, Nat.reduceAdd, Nat.reduceSub, Nat.reduceMul, Nat.reduceLT, Nat.reduceLeDiff, Int.reduceToNat, Nat.reduceBEq, tq1, tq2, tq3, tq4, tq5, isk, am, op, bu, po, di]
    refine (hnum _).mono ?_
    rintro w h6 ⟨rfl, rfl⟩
    simp (maxSteps := 10000000) (disch := omega) only [vq0, vq1, vq2, vq3, vq4, vq5, tagOf, reduceIte, reduceCtorEq, Nat.reduceEqDiff, Nat.reduceAdd, Nat.reduceSub, Nat.reduceMul, Nat.reduceLT, Nat.reduceLeDiff, Int.reduceToNat, Nat.reduceBEq, tq1, tq2, tq3, tq4, tq5]
  · have hb : badSize a n = true := decide_eq_true (by omega)
    rw [hb] at hnum
    simp (maxSteps := 10000000) (disch := omega) only [vq0, vq1, vq2, vq3, vq4, vq5, tagOf, reduceIte, reduceCtorEq, Nat.reduceEqDiff, Nat.reduceAdd, Nat.reduceSub, Nat.reduceMul, Nat.reduceLT, Nat.reduceLeDiff, Int.reduceToNat, Nat.reduceBEq, tq1, tq2, tq3, tq4, tq5, isk]
    refine (start_nil _ c).mono ?_
    rintro u h4 ⟨rfl, _⟩
    simp (maxSteps := 10000000) (disch := omega) only [vq0, vq1, vq2, vq3, vq4, vq5, tagOf, reduceIte, reduceCtorEq, Nat.reduceEqDiff, Nat.reduceAdd, Nat.reduceSub, Nat.reduceMul, Nat.reduceLT, Nat.reduceLeDiff, Int.reduceToNat, Nat.reduceBEq, tq1, tq2, tq3, tq4, tq5, isk]
    refine (run_nil _ c).mono ?_
    rintro u h5 rfl
    simp (maxSteps := 10000000) (disch := omega) only [vq0, vq1, vq2, vq3, vq4, vq5, tagOf, reduceIte, reduceCtorEq, Nat.reduceEqDiff, Nat.reduceAdd, Nat.reduceSub, Nat.reduceMul, Nat.reduceLT, Nat.reduceLeDiff, Int.reduceToNat, Nat.reduceBEq, tq1, tq2, tq3, tq4, tq5, isk, am, op, bu, po, di]
    refine (hnum _).mono ?_
    rintro w h6 ⟨rfl, rfl⟩
    simp (maxSteps := 10000000) (disch := omega) only [vq0, vq1, vq2, vq3, vq4, vq5, tagOf, reduceIte, reduceCtorEq, Nat.reduceEqDiff, Nat.reduceAdd, Nat.reduceSub, Nat.reduceMul, Nat.reduceLT, Nat.reduceLeDiff, Int.reduceToNat, Nat.reduceBEq, tq1, tq2, tq3, tq4, tq5]
  · have hb : badSize a n = true := decide_eq_true (by omega)
    rw [hb] at hnum
    simp (maxSteps := 10000000) (disch := omega) only [vq0, vq1, vq2, vq3, vq4, vq5, tagOf, reduceIte, reduceCtorEq, Nat.reduceEqDiff, Nat.reduceAdd, Nat.reduceSub, Nat.reduceMul, Nat.reduceLT, Nat.reduceLeDiff, Int.reduceToNat, Nat.reduceBEq, tq1, tq2, tq3, tq4, tq5, isk]
    refine (start_nil _ c).mono ?_
    rintro u h4 ⟨rfl, _⟩
    simp (maxSteps := 10000000) (disch := omega) only [vq0, vq1, vq2, vq3, vq4, vq5, tagOf, reduceIte, reduceCtorEq, Nat.reduceEqDiff, Nat.reduceAdd, Nat.reduceSub, Nat.reduceMul, Nat.reduceLT, Nat.reduceLeDiff, Int.reduceToNat, Nat.reduceBEq, tq1, tq2, tq3, tq4, tq5, isk]
    refine (run_nil _ c).mono ?_
    rintro u h5 rfl
    simp (maxSteps := 10000000) (disch := omega) only [vq0, vq1, vq2, vq3, vq4, vq5, tagOf, reduceIte, reduceCtorEq, Nat.reduceEqDiff, Nat.reduceAdd, Nat.reduceSub, Nat.reduceMul, Nat.reduceLT, Nat.reduceLeDiff, Int.reduceToNat, Nat.reduceBEq, tq1, tq2, tq3, tq4, tq5, isk, am, op, bu, po, di]
    refine (hnum _).mono ?_
    rintro w h6 ⟨rfl, rfl⟩
    simp (maxSteps := 10000000) (disch := omega) only [vq0, vq1, vq2, vq3, vq4, vq5, tagOf, reduceIte, reduceCtorEq, Nat.reduceEqDiff, Nat.reduceAdd, Nat.reduceSub, Nat.reduceMul, Nat.reduceLT, Nat.reduceLeDiff, Int.reduceToNat, Nat.reduceBEq, tq1, tq2, tq3, tq4, tq5]
  · have hb : badSize a n = true := decide_eq_true (by omega)
    rw [hb] at hnum
    simp (maxSteps := 10000000) (disch := omega) only [vq0, vq1, vq2, vq3, vq4, vq5, tagOf, reduceIte, reduceCtorEq, Nat.reduceEqDiff, Nat.reduceAdd, Nat.reduceSub, Nat.reduceMul, Nat.reduceLT, Nat.reduceLeDiff, Int.reduceToNat, Nat.reduceBEq, tq1, tq2, tq3, tq4, tq5, isk]
    refine (start_nil _ c).mono ?_
    rintro u h4 ⟨rfl, _⟩
    simp (maxSteps := 10000000) (disch := omega) only [vq0, vq1, vq2, vq3, vq4, vq5, tagOf, reduceIte, reduceCtorEq, Nat.reduceEqDiff, Nat.reduceAdd, Nat.reduceSub, Nat.reduceMul, Nat.reduceLT, Nat.reduceLeDiff, Int.reduceToNat, Nat.reduceBEq, tq1, tq2, tq3, tq4, tq5, isk]
    refine (run_nil _ c).mono ?_
    rintro u h5 rfl
    simp (maxSteps := 10000000) (disch := omega) only [vq0, vq1, vq2, vq3, vq4, vq5, tagOf, reduceIte, reduceCtorEq, Nat.reduceEqDiff, Nat.reduceAdd, Nat.reduceSub, Nat.reduceMul, Nat.reduceLT, Nat.reduceLeDiff, Int.reduceToNat, Nat.reduceBEq, tq1, tq2, tq3, tq4, tq5, isk, am, op, bu, po, di]
    refine (hnum _).mono ?_
    rintro w h6 ⟨rfl, rfl⟩
    simp (maxSteps := 10000000) (disch := omega) only [vq0, vq1, vq2, vq3, vq4, vq5, tagOf, reduceIte, reduceCtorEq, Nat.reduceEqDiff, Nat.reduceAdd, Nat.reduceSub, Nat.reduceMul, Nat.reduceLT, Nat.reduceLeDiff, Int.reduceToNat, Nat.reduceBEq, tq1, tq2, tq3, tq4, tq5]
  · have hb : badSize a n = true := decide_eq_true (by omega)
    rw [hb] at hnum
    simp (maxSteps := 10000000) (disch := omega) only [vq0, vq1, vq2, vq3, vq4, vq5, tagOf, reduceIte, reduceCtorEq, Nat.reduceEqDiff, Nat.reduceAdd, Nat.reduceSub, Nat.reduceMul, Nat.reduceLT, Nat.reduceLeDiff, Int.reduceToNat, Nat.reduceBEq, tq1, tq2, tq3, tq4, tq5, isk]
    refine (start_nil _ c).mono ?_
    rintro u h4 ⟨rfl, _⟩
    simp (maxSteps := 10000000) (disch := omega) only [vq0, vq1, vq2, vq3, vq4, vq5, tagOf, reduceIte, reduceCtorEq, Nat.reduceEqDiff, Nat.reduceAdd, Nat.reduceSub, Nat.reduceMul, Nat.reduceLT, Nat.reduceLeDiff, Int.reduceToNat, Nat.reduceBEq, tq1, tq2, tq3, tq4, tq5, isk]
    refine (run_nil _ c).mono ?_
    rintro u h5 rfl
    simp (maxSteps := 10000000) (disch := omega) only [vq0, vq1, vq2, vq3, vq4, vq5, tagOf, reduceIte, reduceCtorEq, Nat.reduceEqDiff, Nat.reduceAdd, Nat.reduceSub, Nat.reduceMul, Nat.reduceLT, Nat.reduceLeDiff, Int.reduceToNat, Nat.reduceBEq, tq1, tq2, tq3, tq4, tq5, isk, am, op, bu, po, di]
    refine (hnum _).mono ?_
    rintro w h6 ⟨rfl, rfl⟩
    simp (maxSteps := 10000000) (disch := omega) only [vq0, vq1, vq2, vq3, vq4, vq5, tagOf, reduceIte, reduceCtorEq, Nat.reduceEqDiff, Nat.reduceAdd, Nat.reduceSub, Nat.reduceMul, Nat.reduceLT, Nat.reduceLeDiff, Int.reduceToNat, Nat.reduceBEq, tq1, tq2, tq3, tq4, tq5]
  · have hb : badSize a n = false := decide_eq_false (by omega)
    rw [hb] at hnum
    simp (maxSteps := 10000000) (disch := omega) only [vq0, vq1, vq2, vq3, vq4, vq5, tagOf, reduceIte, reduceCtorEq, Nat.reduceEqDiff, Nat.reduceAdd, Nat.reduceSub, Nat.reduceMul, Nat.reduceLT, Nat.reduceLeDiff, Int.reduceToNat, Nat.reduceBEq, tq1, tq2, tq3, tq4, tq5, isk]
    refine (start_nil _ c).mono ?_
    rintro u h4 ⟨rfl, _⟩
    simp (maxSteps := 10000000) (disch := omega) only [vq0, vq1, vq2, vq3, vq4, vq5, tagOf, reduceIte, reduceCtorEq, Nat.reduceEqDiff, Nat.reduceAdd, Nat.reduceSub, Nat.reduceMul, Nat.reduceLT, Nat.reduceLeDiff, Int.reduceToNat, Nat.reduceBEq, tq1, tq2, tq3, tq4, tq5, isk]
    refine (run_nil _ c).mono ?_
    rintro u h5 rfl
    simp (maxSteps := 10000000) (disch := omega) only [vq0, vq1, vq2, vq3, vq4, vq5, tagOf, reduceIte, reduceCtorEq, Nat.reduceEqDiff, Nat.reduceAdd, Nat.reduceSub, Nat.reduceMul, Nat.reduceLT, Nat.reduceLeDiff, Int.reduceToNat, Nat.reduceBEq, tq1, tq2, tq3, tq4, tq5, isk, am, op, bu, po, di]
    refine (hnum _).mono ?_
    rintro w h6 ⟨rfl, rfl⟩
    simp (maxSteps := 10000000) (disch := omega) only [vq0, vq1, vq2, vq3, vq4, vq5, tagOf, reduceIte, reduceCtorEq, Nat.reduceEqDiff, Nat.reduceAdd, Nat.reduceSub, Nat.reduceMul, Nat.reduceLT, Nat.reduceLeDiff, Int.reduceToNat, Nat.reduceBEq, tq1, tq2, tq3, tq4, tq5]
end Go.Proofs.YtjhaokhgiagkaaaGreatDoor.C
