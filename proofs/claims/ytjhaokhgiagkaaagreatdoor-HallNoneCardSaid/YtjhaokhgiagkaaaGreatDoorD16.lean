/- D16: a store without objects, and its bytes. -/
import Derived.Test.YtjhaokhgiagkaaaGreatDoorD15
open Go Go.Vi Go.Bm
namespace Go.Proofs.YtjhaokhgiagkaaaGreatDoor.C
set_option linter.unusedSimpArgs false
set_option maxRecDepth 100000
set_option maxHeartbeats 40000000
theorem tx_string0 : (E.ty t_string).map (fun i => i.under) = some .string := by kernel_rfl
theorem tx_string : Tx E t_string := tx_string0
theorem ix0 (l : List UInt8) (q : IntKind) : indexV E t_string (.string (strOf (0 :: l))) (.int q 0) = some (.int .u8 0) := ixT (c := 0) tx_string (Int.le_refl 0) rfl
theorem len64_0 (h : Heap) : Ret E f_math_bits_Len64 [.int .u64 0] h fun v h' => v = .int .i64 0 ∧ h' = h := by
  refine ret_fun is_math_bits_Len64 (by simp) ?_
  unfold g_math_bits_Len64
  simp (maxSteps := 10000000) (disch := omega) only [vq0, vq1, vq2, vq3, vq4, vq5, tagOf, reduceIte, reduceCtorEq, Nat.reduceEqDiff, Nat.reduceAdd, Nat.reduceSub, Nat.reduceMul, Nat.reduceLT, Nat.reduceLeDiff, Int.reduceToNat, Nat.reduceBEq, tq1, tq2, tq3, tq4, tq5, ix0, Int.reduceAdd]
theorem len_0 (h : Heap) : Ret E f_math_bits_Len [.int .u64 0] h fun v h' => v = .int .i64 0 ∧ h' = h := by
  refine ret_fun is_math_bits_Len (by simp) ?_
  unfold g_math_bits_Len
  simp (maxSteps := 10000000) (disch := omega) only [vq0, vq1, vq2, vq3, vq4, vq5, tagOf, reduceIte, reduceCtorEq, Nat.reduceEqDiff, Nat.reduceAdd, Nat.reduceSub, Nat.reduceMul, Nat.reduceLT, Nat.reduceLeDiff, Int.reduceToNat, Nat.reduceBEq, tq1, tq2, tq3, tq4, tq5, (len64_0 h).eq]
theorem insert_0 (h : Heap) : Ret E f_slices_insertionSortOrdered_string [.slice none 0 0, .int .i64 0, .int .i64 0] h fun _ h' => h' = h := by
  refine ret_fun is_slices_insertionSortOrdered_string (by simp) ?_
  unfold g_slices_insertionSortOrdered_string
  simp (maxSteps := 10000000) (disch := omega) only [vq0, vq1, vq2, vq3, vq4, vq5, tagOf, reduceIte, reduceCtorEq, Nat.reduceEqDiff, Nat.reduceAdd, Nat.reduceSub, Nat.reduceMul, Nat.reduceLT, Nat.reduceLeDiff, Int.reduceToNat, Nat.reduceBEq, tq1, tq2, tq3, tq4, tq5]
  refine r_loop (k := 0) (fun _ ρ h' => h' = h ∧ ρ 0 = .slice none 0 0 ∧ ρ 1 = .int .i64 0 ∧ ρ 2 = .int .i64 0 ∧ ρ 6 = .int .i64 1) ?_ ?_
  · rintro k ρ h' ⟨rfl, r0, r1, r2, r6⟩
    unfold g_slices_insertionSortOrdered_string_L1
    simp (maxSteps := 10000000) (disch := omega) only [vq0, vq1, vq2, vq3, vq4, vq5, tagOf, reduceIte, reduceCtorEq, Nat.reduceEqDiff, Nat.reduceAdd, Nat.reduceSub, Nat.reduceMul, Nat.reduceLT, Nat.reduceLeDiff, Int.reduceToNat, Nat.reduceBEq, tq1, tq2, tq3, tq4, tq5, r0, r1, r2, r6]
  · simp (maxSteps := 10000000) (disch := omega) only [vq0, vq1, vq2, vq3, vq4, vq5, tagOf, reduceIte, reduceCtorEq, Nat.reduceEqDiff, Nat.reduceAdd, Nat.reduceSub, Nat.reduceMul, Nat.reduceLT, Nat.reduceLeDiff, Int.reduceToNat, Nat.reduceBEq, tq1, tq2, tq3, tq4, tq5, Int.reduceAdd]
theorem pdq_0 (h : Heap) : Ret E f_slices_pdqsortOrdered_string [.slice none 0 0, .int .i64 0, .int .i64 0, .int .i64 0] h fun _ h' => h' = h := by
  refine ret_fun is_slices_pdqsortOrdered_string (by simp) ?_
  unfold g_slices_pdqsortOrdered_string
  simp (maxSteps := 10000000) (disch := omega) only [vq0, vq1, vq2, vq3, vq4, vq5, tagOf, reduceIte, reduceCtorEq, Nat.reduceEqDiff, Nat.reduceAdd, Nat.reduceSub, Nat.reduceMul, Nat.reduceLT, Nat.reduceLeDiff, Int.reduceToNat, Nat.reduceBEq, tq1, tq2, tq3, tq4, tq5]
  refine r_loop (k := 0) (fun _ ρ h' => h' = h ∧ ρ 0 = .slice none 0 0 ∧ ρ 1 = .int .i64 0 ∧ ρ 2 = .int .i64 0) ?_ ?_
  · rintro k ρ h' ⟨rfl, r0, r1, r2⟩
    unfold g_slices_pdqsortOrdered_string_L0
    simp (maxSteps := 10000000) (disch := omega) only [vq0, vq1, vq2, vq3, vq4, vq5, tagOf, reduceIte, reduceCtorEq, Nat.reduceEqDiff, Nat.reduceAdd, Nat.reduceSub, Nat.reduceMul, Nat.reduceLT, Nat.reduceLeDiff, Int.reduceToNat, Nat.reduceBEq, tq1, tq2, tq3, tq4, tq5, r0, r1, r2]
    refine (insert_0 h').mono ?_
    rintro u h2 rfl
    simp (maxSteps := 10000000) (disch := omega) only [vq0, vq1, vq2, vq3, vq4, vq5, tagOf, reduceIte, reduceCtorEq, Nat.reduceEqDiff, Nat.reduceAdd, Nat.reduceSub, Nat.reduceMul, Nat.reduceLT, Nat.reduceLeDiff, Int.reduceToNat, Nat.reduceBEq, tq1, tq2, tq3, tq4, tq5, r0, r1, r2]
  · simp (maxSteps := 10000000) (disch := omega) only [vq0, vq1, vq2, vq3, vq4, vq5, tagOf, reduceIte, reduceCtorEq, Nat.reduceEqDiff, Nat.reduceAdd, Nat.reduceSub, Nat.reduceMul, Nat.reduceLT, Nat.reduceLeDiff, Int.reduceToNat, Nat.reduceBEq, tq1, tq2, tq3, tq4, tq5]
theorem sort_0 (h : Heap) : Ret E f_slices_Sort_s_string_string [.slice none 0 0] h fun _ h' => h' = h := by
  refine ret_fun is_slices_Sort_s_string_string (by simp) ?_
  unfold g_slices_Sort_s_string_string
  simp (maxSteps := 10000000) (disch := omega) only [vq0, vq1, vq2, vq3, vq4, vq5, tagOf, reduceIte, reduceCtorEq, Nat.reduceEqDiff, Nat.reduceAdd, Nat.reduceSub, Nat.reduceMul, Nat.reduceLT, Nat.reduceLeDiff, Int.reduceToNat, Nat.reduceBEq, tq1, tq2, tq3, tq4, tq5, (len_0 h).eq, show ((0 : Nat) : Int) = 0 from rfl]
  refine (pdq_0 h).mono ?_
  rintro u h2 rfl
  simp (maxSteps := 10000000) (disch := omega) only [vq0, vq1, vq2, vq3, vq4, vq5, tagOf, reduceIte, reduceCtorEq, Nat.reduceEqDiff, Nat.reduceAdd, Nat.reduceSub, Nat.reduceMul, Nat.reduceLT, Nat.reduceLeDiff, Int.reduceToNat, Nat.reduceBEq, tq1, tq2, tq3, tq4, tq5]
theorem space_ok (h : Heap) (n : Int) (hn : 0 ≤ n ∧ n ≤ 65536) : Ret E f_space_New [.int .i64 n] h fun u h' => ∃ s hv, u = .tuple #[.pointer (some ⟨s, 0, none⟩), .nilIface] ∧ Grow h h' ∧ h.next ≤ s ∧ s < h'.next ∧ h'.get s = some (.cells [.int .i64 n, hv] true none) := by
  refine ret_fun is_space_New (by simp) ?_
  unfold g_space_New
  rcases (show n = 0 ∨ 0 < n by omega) with e | e
  · subst e
    simp (maxSteps := 10000000) (disch := omega) only [vq0, vq1, vq2, vq3, vq4, vq5, tagOf, reduceIte, reduceCtorEq, Nat.reduceEqDiff, Nat.reduceAdd, Nat.reduceSub, Nat.reduceMul, Nat.reduceLT, Nat.reduceLeDiff, Int.reduceToNat, Nat.reduceBEq, tq1, tq2, tq3, tq4, tq5]
    refine ⟨h.next, .slice none 0 0, rfl, .new _ _, Nat.le_refl _, Nat.lt_succ_self _, ?_⟩
    simp (maxSteps := 10000000) (disch := omega) only [vq0, vq1, vq2, vq3, vq4, vq5, tagOf, reduceIte, reduceCtorEq, Nat.reduceEqDiff, Nat.reduceAdd, Nat.reduceSub, Nat.reduceMul, Nat.reduceLT, Nat.reduceLeDiff, Int.reduceToNat, Nat.reduceBEq, tq1, tq2, tq3, tq4, tq5]
  · simp (maxSteps := 10000000) (disch := omega) only [vq0, vq1, vq2, vq3, vq4, vq5, tagOf, reduceIte, reduceCtorEq, Nat.reduceEqDiff, Nat.reduceAdd, Nat.reduceSub, Nat.reduceMul, Nat.reduceLT, Nat.reduceLeDiff, Int.reduceToNat, Nat.reduceBEq, tq1, tq2, tq3, tq4, tq5]
    refine ⟨h.next, .slice (some ⟨h.next + 1, 0, none⟩) 1 1, rfl, (((Grow.new h _).trans (.new _ _)).set (Nat.le_refl _) _), Nat.le_refl _, by omega, ?_⟩
    simp (maxSteps := 10000000) (disch := omega) only [vq0, vq1, vq2, vq3, vq4, vq5, tagOf, reduceIte, reduceCtorEq, Nat.reduceEqDiff, Nat.reduceAdd, Nat.reduceSub, Nat.reduceMul, Nat.reduceLT, Nat.reduceLeDiff, Int.reduceToNat, Nat.reduceBEq, tq1, tq2, tq3, tq4, tq5]
theorem space_bad (h : Heap) (n : Int) (hn : n < 0 ∨ 65536 < n) : Ret E f_space_New [.int .i64 n] h fun u h' => u = .tuple #[.pointer none, .iface t_api_Errno (.int .i64 1)] ∧ h' = h := by
  refine ret_fun is_space_New (by simp) ?_
  unfold g_space_New
  rcases hn with e | e
  · simp (maxSteps := 10000000) (disch := omega) only [vq0, vq1, vq2, vq3, vq4, vq5, tagOf, reduceIte, reduceCtorEq, Nat.reduceEqDiff, Nat.reduceAdd, Nat.reduceSub, Nat.reduceMul, Nat.reduceLT, Nat.reduceLeDiff, Int.reduceToNat, Nat.reduceBEq, tq1, tq2, tq3, tq4, tq5]
  · simp (maxSteps := 10000000) (disch := omega) only [vq0, vq1, vq2, vq3, vq4, vq5, tagOf, reduceIte, reduceCtorEq, Nat.reduceEqDiff, Nat.reduceAdd, Nat.reduceSub, Nat.reduceMul, Nat.reduceLT, Nat.reduceLeDiff, Int.reduceToNat, Nat.reduceBEq, tq1, tq2, tq3, tq4, tq5]
theorem slen_ok (h : Heap) (s : Nat) (n : Int) (hv : Value) (hg : h.get s = some (.cells [.int .i64 n, hv] true none)) : Ret E f_p_space_Space_Len [.pointer (some ⟨s, 0, none⟩)] h fun v h' => v = .int .i64 n ∧ h' = h := by
  refine ret_fun is_p_space_Space_Len (by simp) ?_
  unfold g_p_space_Space_Len
  simp (maxSteps := 10000000) (disch := omega) only [vq0, vq1, vq2, vq3, vq4, vq5, tagOf, reduceIte, reduceCtorEq, Nat.reduceEqDiff, Nat.reduceAdd, Nat.reduceSub, Nat.reduceMul, Nat.reduceLT, Nat.reduceLeDiff, Int.reduceToNat, Nat.reduceBEq, tq1, tq2, tq3, tq4, tq5, hg]
def StNone (h : Heap) (s : Nat) (n : Int) : Prop := ∃ sp mo hv, s < h.next ∧ sp < h.next ∧ mo < h.next ∧ h.get s = some (.cells [.pointer (some ⟨sp, 0, none⟩), .bool false, .bool false, .bool false, .bool false, .bool false, .bool false, .bool false, .bool false, .map (some mo)] true none) ∧
  h.get sp = some (.cells [.int .i64 n, hv] true none) ∧ h.get mo = some (.map [] 0)
theorem store_bad (h : Heap) (n : Int) (hn : n < 0 ∨ 65536 < n) : Ret E f_store_New [.int .i64 n] h fun u h' => u = .tuple #[.pointer none, .iface t_api_Errno (.int .i64 1)] ∧ h' = h := by
  refine ret_fun is_store_New (by simp) ?_
  unfold g_store_New
  simp (maxSteps := 10000000) (disch := omega) only [vq0, vq1, vq2, vq3, vq4, vq5, tagOf, reduceIte, reduceCtorEq, Nat.reduceEqDiff, Nat.reduceAdd, Nat.reduceSub, Nat.reduceMul, Nat.reduceLT, Nat.reduceLeDiff, Int.reduceToNat, Nat.reduceBEq, tq1, tq2, tq3, tq4, tq5, (space_bad h n hn).eq]
theorem ty_objs : ∃ i k v, E.ty t_m_string_p_store_object = some i ∧ i.under = .map k v :=
  ⟨(E.ty t_m_string_p_store_object).getD dTy, t_string, t_p_store_object, by kernel_rfl, by kernel_rfl⟩
theorem range_objs {h : Heap} {m : Nat} (hg : h.get m = some (.map [] 0)) : rangeV E t_m_string_p_store_object (.map (some m)) h = some (.pointer (some ⟨h.next, 0, none⟩), h.new (.mit (some m) 0 [] 0)) := by
  obtain ⟨i, k, v, hi, hu⟩ := ty_objs
  generalize E = E' at hi ⊢
  unfold rangeV
  simp only [hi, hu, Option.bind_eq_bind, Option.bind_some]
  unfold mapOf
  simp only [hg, Option.bind_some]
theorem len_objs {h : Heap} {m : Nat} {es : List MapEntry} {c : Nat} (hg : h.get m = some (.map es c)) : orK (lenP E t_m_string_p_store_object (.map (some m))) (lenR E t_m_string_p_store_object (.map (some m)) h) = some (.int .i64 es.length) := by
  obtain ⟨i, k, v, hi, hu⟩ := ty_objs
  generalize E = E' at hi ⊢
  unfold lenP lenR mapOf
  simp only [hi, hu, hg, Option.bind_eq_bind, Option.bind_some]
  rfl
theorem next_none {h : Heap} {r m : Nat} (hr : h.get r = some (.mit (some m) 0 [] 0)) (hg : h.get m = some (.map [] 0)) : nextV (.pointer (some ⟨r, 0, none⟩)) false h = some (.tuple #[.bool false], h) := by
  unfold nextV
  simp only [hr, hg]
  rfl
theorem names_ok (h : Heap) (s : Nat) (n : Int) (x : StNone h s n) : Ret E f_p_store_Store_Names [.pointer (some ⟨s, 0, none⟩), .string (strOf [])] h fun v h' => v = .slice none 0 0 ∧ Grow h h' := by
  refine ret_fun is_p_store_Store_Names (by simp) ?_
  unfold g_p_store_Store_Names
  obtain ⟨sp, mo, hv, l1, l2, l3, g1, g2, g3⟩ := x
  simp (maxSteps := 10000000) (disch := omega) only [vq0, vq1, vq2, vq3, vq4, vq5, tagOf, reduceIte, reduceCtorEq, Nat.reduceEqDiff, Nat.reduceAdd, Nat.reduceSub, Nat.reduceMul, Nat.reduceLT, Nat.reduceLeDiff, Int.reduceToNat, Nat.reduceBEq, tq1, tq2, tq3, tq4, tq5, g1, g3, range_objs g3]
  refine r_loop (k := 0) (fun _ ρ h' => h' = h.new (.mit (some mo) 0 [] 0) ∧ ρ 5 = .slice none 0 0 ∧ ρ 13 = .pointer (some ⟨h.next, 0, none⟩)) ?_ ?_
  · rintro k ρ h' ⟨rfl, r5, r13⟩
    unfold g_p_store_Store_Names_L0
    simp (maxSteps := 10000000) (disch := omega) only [vq0, vq1, vq2, vq3, vq4, vq5, tagOf, reduceIte, reduceCtorEq, Nat.reduceEqDiff, Nat.reduceAdd, Nat.reduceSub, Nat.reduceMul, Nat.reduceLT, Nat.reduceLeDiff, Int.reduceToNat, Nat.reduceBEq, tq1, tq2, tq3, tq4, tq5, r5, r13, next_none (get_new_same h (.mit (some mo) 0 [] 0)) ((get_new_ne (by omega)).trans g3)]
    refine (sort_0 _).mono ?_
    rintro u h2 rfl
    simp (maxSteps := 10000000) (disch := omega) only [vq0, vq1, vq2, vq3, vq4, vq5, tagOf, reduceIte, reduceCtorEq, Nat.reduceEqDiff, Nat.reduceAdd, Nat.reduceSub, Nat.reduceMul, Nat.reduceLT, Nat.reduceLeDiff, Int.reduceToNat, Nat.reduceBEq, tq1, tq2, tq3, tq4, tq5, r5, r13]
    exact .new _ _
  · simp (maxSteps := 10000000) (disch := omega) only [vq0, vq1, vq2, vq3, vq4, vq5, tagOf, reduceIte, reduceCtorEq, Nat.reduceEqDiff, Nat.reduceAdd, Nat.reduceSub, Nat.reduceMul, Nat.reduceLT, Nat.reduceLeDiff, Int.reduceToNat, Nat.reduceBEq, tq1, tq2, tq3, tq4, tq5]
theorem flags_rep (i : Nat) : (List.replicate i (0 : UInt8)) ++ [flagB false] = List.replicate (i + 1) 0 := by
  rw [List.replicate_succ']
  rfl
def noneB (n : Int) : List UInt8 := [] ++ numB n ++ List.replicate 8 0 ++ numB 0
theorem fl_0 : indexV E t_8_bool (.agg ⟨[.bool false, .bool false, .bool false, .bool false, .bool false, .bool false, .bool false, .bool false]⟩) (.int .i64 0) = some (.bool false) := by kernel_rfl
theorem fl_1 : indexV E t_8_bool (.agg ⟨[.bool false, .bool false, .bool false, .bool false, .bool false, .bool false, .bool false, .bool false]⟩) (.int .i64 1) = some (.bool false) := by kernel_rfl
theorem fl_2 : indexV E t_8_bool (.agg ⟨[.bool false, .bool false, .bool false, .bool false, .bool false, .bool false, .bool false, .bool false]⟩) (.int .i64 2) = some (.bool false) := by kernel_rfl
theorem fl_3 : indexV E t_8_bool (.agg ⟨[.bool false, .bool false, .bool false, .bool false, .bool false, .bool false, .bool false, .bool false]⟩) (.int .i64 3) = some (.bool false) := by kernel_rfl
theorem fl_4 : indexV E t_8_bool (.agg ⟨[.bool false, .bool false, .bool false, .bool false, .bool false, .bool false, .bool false, .bool false]⟩) (.int .i64 4) = some (.bool false) := by kernel_rfl
theorem fl_5 : indexV E t_8_bool (.agg ⟨[.bool false, .bool false, .bool false, .bool false, .bool false, .bool false, .bool false, .bool false]⟩) (.int .i64 5) = some (.bool false) := by kernel_rfl
theorem fl_6 : indexV E t_8_bool (.agg ⟨[.bool false, .bool false, .bool false, .bool false, .bool false, .bool false, .bool false, .bool false]⟩) (.int .i64 6) = some (.bool false) := by kernel_rfl
theorem fl_7 : indexV E t_8_bool (.agg ⟨[.bool false, .bool false, .bool false, .bool false, .bool false, .bool false, .bool false, .bool false]⟩) (.int .i64 7) = some (.bool false) := by kernel_rfl
theorem flags_at (i : Nat) (hi : i < 8) : indexV E t_8_bool (.agg ⟨[.bool false, .bool false, .bool false, .bool false, .bool false, .bool false, .bool false, .bool false]⟩) (.int .i64 (i : Int)) = some (.bool false) := by
  rcases (show i = 0 ∨ i = 1 ∨ i = 2 ∨ i = 3 ∨ i = 4 ∨ i = 5 ∨ i = 6 ∨ i = 7 by omega) with rfl | rfl | rfl | rfl | rfl | rfl | rfl | rfl
  · exact fl_0
  · exact fl_1
  · exact fl_2
  · exact fl_3
  · exact fl_4
  · exact fl_5
  · exact fl_6
  · exact fl_7
theorem put_none (h : Heap) (s : Nat) (n : Int) (x : StNone h s n) : Ret E f_p_store_Store_Put [.pointer (some ⟨s, 0, none⟩)] h fun v h' => Grow h h' ∧ BRow h' v (noneB n) ∧ (∀ b, blkOf v = some b → h.next ≤ b) ∧ Cut1 h' v := by
  refine ret_fun is_p_store_Store_Put (by simp) ?_
  unfold g_p_store_Store_Put
  have x' := x
  obtain ⟨sp, mo, hv, l1, l2, l3, g1, g2, g3⟩ := x
  simp (maxSteps := 10000000) (disch := omega) only [vq0, vq1, vq2, vq3, vq4, vq5, tagOf, reduceIte, reduceCtorEq, Nat.reduceEqDiff, Nat.reduceAdd, Nat.reduceSub, Nat.reduceMul, Nat.reduceLT, Nat.reduceLeDiff, Int.reduceToNat, Nat.reduceBEq, tq1, tq2, tq3, tq4, tq5]
  obtain ⟨hA, eA⟩ : ∃ y, y = h.new (.cells [.slice none 0 0] true none) := ⟨_, rfl⟩
  have gA : Grow h hA := by rw [eA]; exact .new h _
  have pA : hA.get h.next = some (.cells [.slice none 0 0] true none) := by rw [eA]; exact get_new_same _ _
  have nA : hA.next = h.next + 1 := by rw [eA]; rfl
  rw [← eA]
  clear eA
  have x0 : Wt h hA h.next [] := ⟨⟨_, pA, .nil _ _ _ _, fun e => nomatch e⟩, ⟨by omega, by omega⟩, gA⟩
  have s1 := (gA.get s l1).trans g1
  have p1 := (gA.get sp l2).trans g2
  simp (maxSteps := 10000000) (disch := omega) only [vq0, vq1, vq2, vq3, vq4, vq5, tagOf, reduceIte, reduceCtorEq, Nat.reduceEqDiff, Nat.reduceAdd, Nat.reduceSub, Nat.reduceMul, Nat.reduceLT, Nat.reduceLeDiff, Int.reduceToNat, Nat.reduceBEq, tq1, tq2, tq3, tq4, tq5, g1, (slen_ok hA sp n hv p1).eq]
  refine (wnum_ok h hA h.next [] n x0 (by simp)).mono ?_
  rintro u h1 ⟨x1, f1⟩
  have s2 := (x1.g.get s l1).trans g1
  simp (maxSteps := 10000000) (disch := omega) only [vq0, vq1, vq2, vq3, vq4, vq5, tagOf, reduceIte, reduceCtorEq, Nat.reduceEqDiff, Nat.reduceAdd, Nat.reduceSub, Nat.reduceMul, Nat.reduceLT, Nat.reduceLeDiff, Int.reduceToNat, Nat.reduceBEq, tq1, tq2, tq3, tq4, tq5, s2]
  have f8 : ∀ i : Nat, i < 8 → indexV E t_8_bool (.agg ⟨[.bool false, .bool false, .bool false, .bool false, .bool false, .bool false, .bool false, .bool false]⟩) (.int .i64 (i : Int)) = some (.bool false) := fun i hi => flags_at i hi
  refine r_loop (k := 8) (fun kk ρ h' => ∃ i : Nat, i + kk = 8 ∧ Wt h h' h.next ([] ++ numB n ++ List.replicate i 0) ∧ ρ 0 = .pointer (some ⟨s, 0, none⟩) ∧ ρ 3 = .pointer (some ⟨h.next, 0, none⟩) ∧
    ρ 28 = .agg ⟨[.bool false, .bool false, .bool false, .bool false, .bool false, .bool false, .bool false, .bool false]⟩ ∧ ρ 29 = .int .i64 (i : Int)) ?_ ?_
  · rintro kk ρ h2 ⟨i, hkk, x2, r0, r3, r28, r29⟩
    unfold g_p_store_Store_Put_L0
    rcases Nat.lt_or_ge i 8 with hi | hi
    · simp (maxSteps := 10000000) (disch := omega) only [vq0, vq1, vq2, vq3, vq4, vq5, tagOf, reduceIte, reduceCtorEq, Nat.reduceEqDiff, Nat.reduceAdd, Nat.reduceSub, Nat.reduceMul, Nat.reduceLT, Nat.reduceLeDiff, Int.reduceToNat, Nat.reduceBEq, tq1, tq2, tq3, tq4, tq5, r0, r3, r28, r29, f8 i hi]
      refine (wflag_ok h h2 h.next _ false x2 (by simp [numB_len]; omega)).mono ?_
      rintro u h3 ⟨x3, f3⟩
      simp (maxSteps := 10000000) (disch := omega) only [vq0, vq1, vq2, vq3, vq4, vq5, tagOf, reduceIte, reduceCtorEq, Nat.reduceEqDiff, Nat.reduceAdd, Nat.reduceSub, Nat.reduceMul, Nat.reduceLT, Nat.reduceLeDiff, Int.reduceToNat, Nat.reduceBEq, tq1, tq2, tq3, tq4, tq5, r0, r3, r28, r29]
      refine ⟨kk - 1, by omega, i + 1, by omega, ?_, rfl⟩
      rw [List.append_assoc, flags_rep] at x3
      exact x3
    · have hi2 : i = 8 := by omega
      subst hi2
      have s3 := (x2.g.get s l1).trans g1
      have m3 := (x2.g.get mo l3).trans g3
      simp (maxSteps := 10000000) (disch := omega) only [vq0, vq1, vq2, vq3, vq4, vq5, tagOf, reduceIte, reduceCtorEq, Nat.reduceEqDiff, Nat.reduceAdd, Nat.reduceSub, Nat.reduceMul, Nat.reduceLT, Nat.reduceLeDiff, Int.reduceToNat, Nat.reduceBEq, tq1, tq2, tq3, tq4, tq5, r0, r3, r28, r29, s3, len_objs m3]
      refine (wnum_ok h h2 h.next _ 0 x2 (by simp [numB_len])).mono ?_
      rintro u h3 ⟨x3, f3⟩
      simp (maxSteps := 10000000) (disch := omega) only [vq0, vq1, vq2, vq3, vq4, vq5, tagOf, reduceIte, reduceCtorEq, Nat.reduceEqDiff, Nat.reduceAdd, Nat.reduceSub, Nat.reduceMul, Nat.reduceLT, Nat.reduceLeDiff, Int.reduceToNat, Nat.reduceBEq, tq1, tq2, tq3, tq4, tq5, r0, r3, r28, r29]
      have n3 := x3.g.next
      have x'3 : StNone h3 s n := ⟨sp, mo, hv, by omega, by omega, by omega, (x3.g.get s l1).trans g1, (x3.g.get sp l2).trans g2, (x3.g.get mo l3).trans g3⟩
      refine (names_ok h3 s n x'3).mono ?_
      rintro u h4 ⟨rfl, g4⟩
      simp (maxSteps := 10000000) (disch := omega) only [vq0, vq1, vq2, vq3, vq4, vq5, tagOf, reduceIte, reduceCtorEq, Nat.reduceEqDiff, Nat.reduceAdd, Nat.reduceSub, Nat.reduceMul, Nat.reduceLT, Nat.reduceLeDiff, Int.reduceToNat, Nat.reduceBEq, tq1, tq2, tq3, tq4, tq5, r0, r3, r28, r29]
      refine r_loop (k := 0) (fun _ ρ h' => h' = h4 ∧ ρ 3 = .pointer (some ⟨h.next, 0, none⟩) ∧ ρ 45 = .int .i64 0 ∧ ρ 46 = .int .i64 0) ?_ ?_
      · rintro k ρ h' ⟨rfl, r3, r45, r46⟩
        unfold g_p_store_Store_Put_L3
        simp (maxSteps := 10000000) (disch := omega) only [vq0, vq1, vq2, vq3, vq4, vq5, tagOf, reduceIte, reduceCtorEq, Nat.reduceEqDiff, Nat.reduceAdd, Nat.reduceSub, Nat.reduceMul, Nat.reduceLT, Nat.reduceLeDiff, Int.reduceToNat, Nat.reduceBEq, tq1, tq2, tq3, tq4, tq5, r3, r45, r46]
        refine (out_cut h h' h.next _ (x3.grow g4) (by simp [numB_len])).mono ?_
        rintro u h5 ⟨g5, hu, hub, huc⟩
        simp (maxSteps := 10000000) (disch := omega) only [vq0, vq1, vq2, vq3, vq4, vq5, tagOf, reduceIte, reduceCtorEq, Nat.reduceEqDiff, Nat.reduceAdd, Nat.reduceSub, Nat.reduceMul, Nat.reduceLT, Nat.reduceLeDiff, Int.reduceToNat, Nat.reduceBEq, tq1, tq2, tq3, tq4, tq5, r3]
        have n4 := (x3.grow g4).g.next
        exact ⟨(x3.grow g4).g.trans g5, hu, fun b hb => by have := hub b hb; omega, huc⟩
      · simp (maxSteps := 10000000) (disch := omega) only [vq0, vq1, vq2, vq3, vq4, vq5, tagOf, reduceIte, reduceCtorEq, Nat.reduceEqDiff, Nat.reduceAdd, Nat.reduceSub, Nat.reduceMul, Nat.reduceLT, Nat.reduceLeDiff, Int.reduceToNat, Nat.reduceBEq, tq1, tq2, tq3, tq4, tq5, r3]
        rfl
  · refine ⟨0, rfl, by simpa using x1, ?_⟩
    simp (maxSteps := 10000000) (disch := omega) only [vq0, vq1, vq2, vq3, vq4, vq5, tagOf, reduceIte, reduceCtorEq, Nat.reduceEqDiff, Nat.reduceAdd, Nat.reduceSub, Nat.reduceMul, Nat.reduceLT, Nat.reduceLeDiff, Int.reduceToNat, Nat.reduceBEq, tq1, tq2, tq3, tq4, tq5]
    rfl
end Go.Proofs.YtjhaokhgiagkaaaGreatDoor.C
