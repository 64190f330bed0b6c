/- D17: a pool on a fresh disk; a hall. -/
import Derived.Test.YtjhaokhgiagkaaaGreatDoorD16
open Go Go.Vi Go.Bm
namespace Go.Proofs.YtjhaokhgiagkaaaGreatDoor.C
set_option linter.unusedSimpArgs false
set_option maxRecDepth 100000
set_option maxHeartbeats 40000000
theorem noneB_len (n : Int) : (noneB n).length = 24 := by unfold noneB; simp [numB_len]
theorem nParts_none (n : Int) : nParts (noneB n) = 1 := by unfold nParts; rw [noneB_len]
def StFrom (n0 : Nat) (h : Heap) (s : Nat) (n : Int) : Prop := n0 ≤ s ∧ ∃ sp mo hv, n0 ≤ sp ∧ n0 ≤ mo ∧ s < h.next ∧ sp < h.next ∧ mo < h.next ∧ h.get s = some (.cells [.pointer (some ⟨sp, 0, none⟩), .bool false, .bool false, .bool false, .bool false, .bool false, .bool false, .bool false, .bool false, .map (some mo)] true none) ∧
  h.get sp = some (.cells [.int .i64 n, hv] true none) ∧ h.get mo = some (.map [] 0)
theorem StFrom.none {n0 : Nat} {h : Heap} {s : Nat} {n : Int} (x : StFrom n0 h s n) : StNone h s n := by
  obtain ⟨_, sp, mo, hv, _, _, h1, h2, h3, h4, h5, h6⟩ := x
  exact ⟨sp, mo, hv, h1, h2, h3, h4, h5, h6⟩
theorem StFrom.frm {n0 : Nat} {h h' : Heap} {s p m : Nat} {n : Int} (x : StFrom n0 h s n) (hp : p < n0) (hm : m < n0) (f : Frm h.next p m h h') : StFrom n0 h' s n := by
  obtain ⟨h0, sp, mo, hv, q1, q2, h1, h2, h3, h4, h5, h6⟩ := x
  have := f.next
  exact ⟨h0, sp, mo, hv, q1, q2, by omega, by omega, by omega, (f.get s h1 (by omega) (by omega)).trans h4, (f.get sp h2 (by omega) (by omega)).trans h5, (f.get mo h3 (by omega) (by omega)).trans h6⟩
theorem store_from (h : Heap) (n : Int) (hn : 0 ≤ n ∧ n ≤ 65536) : Ret E f_store_New [.int .i64 n] h fun u h' => ∃ s, u = .tuple #[.pointer (some ⟨s, 0, none⟩), .nilIface] ∧ Grow h h' ∧ StFrom h.next h' s n := by
  refine ret_fun is_store_New (by simp) ?_
  unfold g_store_New
  have hmk : mkmapK E t_m_string_p_store_object none = some (.map [] 0, .map) := rfl
  simp (maxSteps := 10000000) (disch := omega) only [vq0, vq1, vq2, vq3, vq4, vq5, tagOf, reduceIte, reduceCtorEq, Nat.reduceEqDiff, Nat.reduceAdd, Nat.reduceSub, Nat.reduceMul, Nat.reduceLT, Nat.reduceLeDiff, Int.reduceToNat, Nat.reduceBEq, tq1, tq2, tq3, tq4, tq5]
  refine (space_ok h n hn).mono ?_
  rintro u h1 ⟨sp, hv, rfl, g1, h2, h3, h4⟩
  simp (maxSteps := 10000000) (disch := omega) only [vq0, vq1, vq2, vq3, vq4, vq5, tagOf, reduceIte, reduceCtorEq, Nat.reduceEqDiff, Nat.reduceAdd, Nat.reduceSub, Nat.reduceMul, Nat.reduceLT, Nat.reduceLeDiff, Int.reduceToNat, Nat.reduceBEq, tq1, tq2, tq3, tq4, tq5, hmk]
  have g2 := (Grow.new h1 (.map [] 0)).trans (.new _ (.cells [.pointer (some ⟨sp, 0, none⟩), .bool false, .bool false, .bool false, .bool false, .bool false, .bool false, .bool false, .bool false, .map (some h1.next)] true none))
  have n1 := g1.next
  exact ⟨h1.next + 1, rfl, g1.trans g2, by omega, sp, h1.next, hv, h2, n1, Nat.lt_succ_self _, by have := g2.next; omega, Nat.lt_succ_of_lt (Nat.lt_succ_self _), get_new_same _ _, (g2.get sp h3).trans h4, (get_new_ne (show h1.next ≠ h1.next + 1 by omega)).trans (get_new_same _ _)⟩
def PoolIs (h : Heap) (pl j s : Nat) : Prop := h.get pl = some (.cells [.pointer (some ⟨j, 0, none⟩), .pointer (some ⟨s, 0, none⟩), .bool false] true none)
theorem fpool_bad (h : Heap) (d : Value) (n : Int) (hn : n < 0 ∨ 65536 < n) : Ret E f_pool_Format [d, .int .i64 n] h fun u h' => u = .tuple #[.pointer none, .iface t_api_Errno (.int .i64 1)] ∧ h' = h := by
  refine ret_fun is_pool_Format (by simp) ?_
  unfold g_pool_Format
  simp (maxSteps := 10000000) (disch := omega) only [vq0, vq1, vq2, vq3, vq4, vq5, tagOf, reduceIte, reduceCtorEq, Nat.reduceEqDiff, Nat.reduceAdd, Nat.reduceSub, Nat.reduceMul, Nat.reduceLT, Nat.reduceLeDiff, Int.reduceToNat, Nat.reduceBEq, tq1, tq2, tq3, tq4, tq5, (store_bad h n hn).eq]
theorem fpool_small (h : Heap) (p m N : Nat) (size n : Int) (f : Int → List UInt8) (x : DW h.next N h p m size [] f) (hs : size < 8) (hn : 0 ≤ n ∧ n ≤ 65536) :
    Ret E f_pool_Format [.pointer (some ⟨p, 0, none⟩), .int .i64 n] h fun u h' => u = .tuple #[.pointer none, .iface t_api_Errno (.int .i64 1)] := by
  refine ret_fun is_pool_Format (by simp) ?_
  unfold g_pool_Format
  have pb : p < h.next ∧ m < h.next := by obtain ⟨d, _, _, _, _, _, h6, h7, _⟩ := x; exact ⟨h6, h7⟩
  simp (maxSteps := 10000000) (disch := omega) only [vq0, vq1, vq2, vq3, vq4, vq5, tagOf, reduceIte, reduceCtorEq, Nat.reduceEqDiff, Nat.reduceAdd, Nat.reduceSub, Nat.reduceMul, Nat.reduceLT, Nat.reduceLeDiff, Int.reduceToNat, Nat.reduceBEq, tq1, tq2, tq3, tq4, tq5]
  refine (store_from h n hn).mono ?_
  rintro u h1 ⟨s, rfl, g1, sf⟩
  simp (maxSteps := 10000000) (disch := omega) only [vq0, vq1, vq2, vq3, vq4, vq5, tagOf, reduceIte, reduceCtorEq, Nat.reduceEqDiff, Nat.reduceAdd, Nat.reduceSub, Nat.reduceMul, Nat.reduceLT, Nat.reduceLeDiff, Int.reduceToNat, Nat.reduceBEq, tq1, tq2, tq3, tq4, tq5]
  refine (put_none h1 s n sf.none).mono ?_
  rintro v h2 ⟨g2, hv, hvb, hvc⟩
  have n2 := (g1.trans g2).next
  simp (maxSteps := 10000000) (disch := omega) only [vq0, vq1, vq2, vq3, vq4, vq5, tagOf, reduceIte, reduceCtorEq, Nat.reduceEqDiff, Nat.reduceAdd, Nat.reduceSub, Nat.reduceMul, Nat.reduceLT, Nat.reduceLeDiff, Int.reduceToNat, Nat.reduceBEq, tq1, tq2, tq3, tq4, tq5]
  refine (formatJ_small h2 p m N size f v ((x.grow (g1.trans g2)).base (Nat.le_refl _) (by omega) (by omega)) hs).mono ?_
  rintro u h3 ⟨rfl, rfl⟩
  simp (maxSteps := 10000000) (disch := omega) only [vq0, vq1, vq2, vq3, vq4, vq5, tagOf, reduceIte, reduceCtorEq, Nat.reduceEqDiff, Nat.reduceAdd, Nat.reduceSub, Nat.reduceMul, Nat.reduceLT, Nat.reduceLeDiff, Int.reduceToNat, Nat.reduceBEq, tq1, tq2, tq3, tq4, tq5]
theorem fpool_ok (h : Heap) (p m M : Nat) (size n : Int) (f : Int → List UInt8) (x : DW h.next (M + 7) h p m size [] f) (hs : 8 ≤ size ∧ size ≤ 20000) (hn : 0 ≤ n ∧ n ≤ 65536) :
    Ret E f_pool_Format [.pointer (some ⟨p, 0, none⟩), .int .i64 n] h fun u h' => ∃ pl j s, u = .tuple #[.pointer (some ⟨pl, 0, none⟩), .nilIface] ∧ h.next ≤ pl ∧ pl < h'.next ∧ PoolIs h' pl j s ∧ h.next ≤ j ∧ j < h'.next ∧ JnAt h' j p 1 (noneB n) (.slice none 0 0) 0 ∧ StFrom h.next h' s n ∧
      DW h.next M h' p m size [] (wrote (upd (upd f (0, zsec)) (1, zsec)) size 1 (noneB n)) ∧ Frm h.next p m h h' := by
  refine ret_fun is_pool_Format (by simp) ?_
  unfold g_pool_Format
  have pb : p < h.next ∧ m < h.next := by obtain ⟨d, _, _, _, _, _, h6, h7, _⟩ := x; exact ⟨h6, h7⟩
  simp (maxSteps := 10000000) (disch := omega) only [vq0, vq1, vq2, vq3, vq4, vq5, tagOf, reduceIte, reduceCtorEq, Nat.reduceEqDiff, Nat.reduceAdd, Nat.reduceSub, Nat.reduceMul, Nat.reduceLT, Nat.reduceLeDiff, Int.reduceToNat, Nat.reduceBEq, tq1, tq2, tq3, tq4, tq5]
  refine (store_from h n hn).mono ?_
  rintro u h1 ⟨s, rfl, g1, sf⟩
  simp (maxSteps := 10000000) (disch := omega) only [vq0, vq1, vq2, vq3, vq4, vq5, tagOf, reduceIte, reduceCtorEq, Nat.reduceEqDiff, Nat.reduceAdd, Nat.reduceSub, Nat.reduceMul, Nat.reduceLT, Nat.reduceLeDiff, Int.reduceToNat, Nat.reduceBEq, tq1, tq2, tq3, tq4, tq5]
  refine (put_none h1 s n sf.none).mono ?_
  rintro v h2 ⟨g2, hv, hvb, hvc⟩
  have n1 := g1.next
  have n2 := g2.next
  have hvn : ∀ b, blkOf v = some b → b < h2.next := fun b hb => RowV.lt hv (by intro e; have := congrArg List.length e; rw [List.length_map, noneB_len] at this; cases this) hb
  simp (maxSteps := 10000000) (disch := omega) only [vq0, vq1, vq2, vq3, vq4, vq5, tagOf, reduceIte, reduceCtorEq, Nat.reduceEqDiff, Nat.reduceAdd, Nat.reduceSub, Nat.reduceMul, Nat.reduceLT, Nat.reduceLeDiff, Int.reduceToNat, Nat.reduceBEq, tq1, tq2, tq3, tq4, tq5]
  refine (formatJ_ok h2 p m M size f v (noneB n) ((x.grow (g1.trans g2)).base (Nat.le_refl _) (by omega) (by omega) |> fun y => by rw [nParts_none]; exact y) hs hv hvc (fun b hb => ⟨hvn b hb, by have := hvb b hb; omega, by have := hvb b hb; omega⟩) (by rw [nParts_none]; omega)).mono ?_
  rintro u h3 ⟨j, rfl, j1, j2, jn, dw, fr⟩
  simp (maxSteps := 10000000) (disch := omega) only [vq0, vq1, vq2, vq3, vq4, vq5, tagOf, reduceIte, reduceCtorEq, Nat.reduceEqDiff, Nat.reduceAdd, Nat.reduceSub, Nat.reduceMul, Nat.reduceLT, Nat.reduceLeDiff, Int.reduceToNat, Nat.reduceBEq, tq1, tq2, tq3, tq4, tq5]
  have g4 : Grow h3 (h3.new (.cells [.pointer (some ⟨j, 0, none⟩), .pointer (some ⟨s, 0, none⟩), .bool false] true none)) := .new _ _
  have n3 := fr.next
  have f4 : Frm h.next p m h (h3.new (.cells [.pointer (some ⟨j, 0, none⟩), .pointer (some ⟨s, 0, none⟩), .bool false] true none)) := ((Frm.of (g1.trans g2) (Nat.le_refl _)).trans (fr.down (by omega))).trans (.of g4 (by omega))
  exact ⟨h3.next, j, s, rfl, by omega, Nat.lt_succ_self _, get_new_same _ _, by omega, by omega, jn.grow j2 g4, (sf.frm pb.1 pb.2 (((Frm.of g2 (Nat.le_refl _)).trans (fr.down (by omega))).trans (.of g4 (by omega)))), (dw.grow g4).base (by have := g4.next; omega) pb.1 pb.2, f4⟩
theorem hall_bad (h : Heap) (a n : Int) (ha : a < 1 ∨ 4096 < a) : Ret E f_hall_New [.int .i64 a, .int .i64 n] h fun u h' => u = .tuple #[.pointer none, .iface t_api_Errno (.int .i64 1)] := by
  refine ret_fun is_hall_New (by simp) ?_
  unfold g_hall_New
  simp (maxSteps := 10000000) (disch := omega) only [vq0, vq1, vq2, vq3, vq4, vq5, tagOf, reduceIte, reduceCtorEq, Nat.reduceEqDiff, Nat.reduceAdd, Nat.reduceSub, Nat.reduceMul, Nat.reduceLT, Nat.reduceLeDiff, Int.reduceToNat, Nat.reduceBEq, tq1, tq2, tq3, tq4, tq5, (new_bad h a ha).eq]
theorem fresh_dw {h : Heap} {p m : Nat} {n : Int} (hd : DkAt h p ⟨0, 0, false, false, n, .map (some m), .slice none 0 0⟩) (hm : h.get m = some (.map [] 0)) (hp : p < h.next) (h2 : m < h.next) (ne : m ≠ p) (N : Nat) (hN : N < 1000000000) : DW h.next N h p m n [] (fun _ => zsec) :=
  ⟨_, hd, ⟨rfl, rfl, Int.le_refl 0, by show (0 : Int) + N < _; omega, Int.le_refl 0, by show _ < (0 : Int) - N; omega⟩, rfl, rfl, ⟨[], 0, hm, nums_nil _, fun _ => .inl ⟨rfl, rfl⟩⟩, hp, h2, fun e => ne e.symm, Nat.le_refl _, .nil _ _ _ _, fun _ h => nomatch h⟩
theorem hall_err (h : Heap) (a n : Int) (ha : 1 ≤ a ∧ a ≤ 4096) (hb : (n < 0 ∨ 65536 < n) ∨ a < 8) : Ret E f_hall_New [.int .i64 a, .int .i64 n] h fun u h' => u = .tuple #[.pointer none, .iface t_api_Errno (.int .i64 1)] := by
  refine ret_fun is_hall_New (by simp) ?_
  unfold g_hall_New
  simp (maxSteps := 10000000) (disch := omega) only [vq0, vq1, vq2, vq3, vq4, vq5, tagOf, reduceIte, reduceCtorEq, Nat.reduceEqDiff, Nat.reduceAdd, Nat.reduceSub, Nat.reduceMul, Nat.reduceLT, Nat.reduceLeDiff, Int.reduceToNat, Nat.reduceBEq, tq1, tq2, tq3, tq4, tq5]
  refine (new_ok h a ha.1 ha.2).mono ?_
  rintro u h1 ⟨p, m, rfl, g1, p1, m1, ne, p2, m2, hd, hm⟩
  simp (maxSteps := 10000000) (disch := omega) only [vq0, vq1, vq2, vq3, vq4, vq5, tagOf, reduceIte, reduceCtorEq, Nat.reduceEqDiff, Nat.reduceAdd, Nat.reduceSub, Nat.reduceMul, Nat.reduceLT, Nat.reduceLeDiff, Int.reduceToNat, Nat.reduceBEq, tq1, tq2, tq3, tq4, tq5]
  rcases (show (n < 0 ∨ 65536 < n) ∨ (0 ≤ n ∧ n ≤ 65536 ∧ a < 8) by omega) with hn | hn
  · simp (maxSteps := 10000000) (disch := omega) only [vq0, vq1, vq2, vq3, vq4, vq5, tagOf, reduceIte, reduceCtorEq, Nat.reduceEqDiff, Nat.reduceAdd, Nat.reduceSub, Nat.reduceMul, Nat.reduceLT, Nat.reduceLeDiff, Int.reduceToNat, Nat.reduceBEq, tq1, tq2, tq3, tq4, tq5, (fpool_bad h1 _ n hn).eq]
  · refine (fpool_small h1 p m 0 a n _ (fresh_dw hd hm p2 m2 ne 0 (by decide)) hn.2.2 ⟨hn.1, hn.2.1⟩).mono ?_
    rintro u h2 rfl
    simp (maxSteps := 10000000) (disch := omega) only [vq0, vq1, vq2, vq3, vq4, vq5, tagOf, reduceIte, reduceCtorEq, Nat.reduceEqDiff, Nat.reduceAdd, Nat.reduceSub, Nat.reduceMul, Nat.reduceLT, Nat.reduceLeDiff, Int.reduceToNat, Nat.reduceBEq, tq1, tq2, tq3, tq4, tq5]
theorem hall_ok (h : Heap) (a n : Int) (ha : 8 ≤ a ∧ a ≤ 4096) (hn : 0 ≤ n ∧ n ≤ 65536) : Ret E f_hall_New [.int .i64 a, .int .i64 n] h fun u h' => ∃ q, u = .tuple #[.pointer (some ⟨q, 0, none⟩), .nilIface] := by
  refine ret_fun is_hall_New (by simp) ?_
  unfold g_hall_New
  simp (maxSteps := 10000000) (disch := omega) only [vq0, vq1, vq2, vq3, vq4, vq5, tagOf, reduceIte, reduceCtorEq, Nat.reduceEqDiff, Nat.reduceAdd, Nat.reduceSub, Nat.reduceMul, Nat.reduceLT, Nat.reduceLeDiff, Int.reduceToNat, Nat.reduceBEq, tq1, tq2, tq3, tq4, tq5]
  refine (new_ok h a (by omega) ha.2).mono ?_
  rintro u h1 ⟨p, m, rfl, g1, p1, m1, ne, p2, m2, hd, hm⟩
  simp (maxSteps := 10000000) (disch := omega) only [vq0, vq1, vq2, vq3, vq4, vq5, tagOf, reduceIte, reduceCtorEq, Nat.reduceEqDiff, Nat.reduceAdd, Nat.reduceSub, Nat.reduceMul, Nat.reduceLT, Nat.reduceLeDiff, Int.reduceToNat, Nat.reduceBEq, tq1, tq2, tq3, tq4, tq5]
  refine (fpool_ok h1 p m 0 a n _ (fresh_dw hd hm p2 m2 ne 7 (by decide)) ⟨ha.1, by omega⟩ hn).mono ?_
  rintro u h2 ⟨pl, j, s, rfl, _⟩
  simp (maxSteps := 10000000) (disch := omega) only [vq0, vq1, vq2, vq3, vq4, vq5, tagOf, reduceIte, reduceCtorEq, Nat.reduceEqDiff, Nat.reduceAdd, Nat.reduceSub, Nat.reduceMul, Nat.reduceLT, Nat.reduceLeDiff, Int.reduceToNat, Nat.reduceBEq, tq1, tq2, tq3, tq4, tq5]
  exact ⟨_, rfl⟩
end Go.Proofs.YtjhaokhgiagkaaaGreatDoor.C
