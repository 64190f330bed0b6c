/- D15: the journal of a fresh disk. -/
import Derived.Test.YtjhaokhgiagkaaaGreatDoorD14
open Go Go.Vi Go.Bm
namespace Go.Proofs.YtjhaokhgiagkaaaGreatDoor.C
set_option linter.unusedSimpArgs false
set_option maxRecDepth 100000
set_option maxHeartbeats 40000000
theorem RowsAt.len {h0 h : Heap} {v : Value} {ps : List (List UInt8)} (x : RowsAt h0 h v ps) : ∃ a c, v = .slice a ps.length c := by
  obtain ⟨qs, ow, hq, hr⟩ := x
  obtain ⟨av, nv, cv, ev, hvn, hvc⟩ := ow.row.is
  have : nv = ps.length := by rw [← hq, List.length_map]; rw [List.length_map] at hvn; omega
  subst this
  exact ⟨av, cv, ev⟩
theorem BRow.blk {h : Heap} {v : Value} {l : List UInt8} (x : BRow h v l) (hv : v ≠ voidS) : ∀ b, blkOf v = some b → b < h.next := fun b hb => by
  rcases x with ⟨e | e, _⟩ | ⟨b2, o2, n, k, row, w, p, hb2, e, _⟩
  · rw [e] at hb; cases hb
  · exact absurd e hv
  · rw [e] at hb; cases hb; exact hb2
theorem Cut1.grow {h h' : Heap} {v : Value} (x : Cut1 h v) (hl : ∀ b, blkOf v = some b → b < h.next) (g : Grow h h') : Cut1 h' v := fun b hb => by
  obtain ⟨cs, w, q, h1, h2⟩ := x b hb
  exact ⟨cs, w, q, (g.get b (hl b hb)).trans h1, h2⟩
structure JnAt (h : Heap) (j p : Nat) (gen : Int) (state : List UInt8) (txs : Value) (at_ : Int) : Prop where
  ex : ∃ sv, h.get j = some (.cells [.pointer (some ⟨p, 0, none⟩), .int .i64 gen, sv, txs, .int .i64 at_, .bool false] true none) ∧ BRow h sv state ∧ Cut1 h sv ∧ ∀ b, blkOf sv = some b → b < h.next
theorem JnAt.grow {h h' : Heap} {j p : Nat} {gen : Int} {state : List UInt8} {txs : Value} {at_ : Int} (x : JnAt h j p gen state txs at_) (hj : j < h.next) (g : Grow h h') : JnAt h' j p gen state txs at_ := by
  obtain ⟨sv, h1, h2, h3, h4⟩ := x.ex
  exact ⟨sv, (g.get j hj).trans h1, BRow.grow h2 g, h3.grow h4 g, fun b hb => Nat.lt_of_lt_of_le (h4 b hb) g.next⟩
theorem formatJ_small (h : Heap) (p m N : Nat) (size : Int) (f : Int → List UInt8) (v : Value) (x : DW h.next N h p m size [] f) (hs : size < 8) :
    Ret E f_journal_Format [.pointer (some ⟨p, 0, none⟩), v] h fun u h' => u = .tuple #[.pointer none, .iface t_api_Errno (.int .i64 1)] ∧ h' = h := by
  refine ret_fun is_journal_Format (by simp) ?_
  unfold g_journal_Format
  simp (maxSteps := 10000000) (disch := omega) only [vq0, vq1, vq2, vq3, vq4, vq5, tagOf, reduceIte, reduceCtorEq, Nat.reduceEqDiff, Nat.reduceAdd, Nat.reduceSub, Nat.reduceMul, Nat.reduceLT, Nat.reduceLeDiff, Int.reduceToNat, Nat.reduceBEq, tq1, tq2, tq3, tq4, tq5, x.len.eq]
theorem formatJ_ok (h : Heap) (p m M : Nat) (size : Int) (f : Int → List UInt8) (v : Value) (data : List UInt8) (x : DW h.next (M + nParts data + 6) h p m size [] f) (hs : 8 ≤ size ∧ size ≤ 20000) (hv : BRow h v data) (hc : Cut1 h v) (hlt : ∀ b, blkOf v = some b → b < h.next ∧ b ≠ p ∧ b ≠ m)
    (hN : (nParts data : Int) ≤ (size - 2) / 3) :
    Ret E f_journal_Format [.pointer (some ⟨p, 0, none⟩), v] h fun u h' => ∃ j, u = .tuple #[.pointer (some ⟨j, 0, none⟩), .nilIface] ∧ h.next ≤ j ∧ j < h'.next ∧ JnAt h' j p 1 data (.slice none 0 0) 0 ∧
      DW h.next M h' p m size [] (wrote (upd (upd f (0, zsec)) (1, zsec)) size 1 data) ∧ Frm h.next p m h h' := by
  refine ret_fun is_journal_Format (by simp) ?_
  unfold g_journal_Format
  have hdl : data.length ≤ 10000000 := by unfold nParts at hN; omega
  have pb : p < h.next ∧ m < h.next := by obtain ⟨d, _, _, _, _, _, h6, h7, _⟩ := x; exact ⟨h6, h7⟩
  obtain ⟨av, cv, ev⟩ := hv.is
  simp (maxSteps := 10000000) (disch := omega) only [vq0, vq1, vq2, vq3, vq4, vq5, tagOf, reduceIte, reduceCtorEq, Nat.reduceEqDiff, Nat.reduceAdd, Nat.reduceSub, Nat.reduceMul, Nat.reduceLT, Nat.reduceLeDiff, Int.reduceToNat, Nat.reduceBEq, tq1, tq2, tq3, tq4, tq5, x.len.eq]
  refine (parts_ok h v data hv hc (by omega) (fun b hb => (hlt b hb).1)).mono ?_
  rintro w h1 ⟨g1, bx⟩
  obtain ⟨aw, cw, rfl⟩ := bx.len
  rw [List.length_map, List.length_range, show (data.length + 105) / 106 = nParts data from rfl]
  have n1 := g1.next
  have x1 := x.grow g1
  simp (maxSteps := 10000000) (disch := omega) only [vq0, vq1, vq2, vq3, vq4, vq5, tagOf, reduceIte, reduceCtorEq, Nat.reduceEqDiff, Nat.reduceAdd, Nat.reduceSub, Nat.reduceMul, Nat.reduceLT, Nat.reduceLeDiff, Int.reduceToNat, Nat.reduceBEq, tq1, tq2, tq3, tq4, tq5, (x1.area (by omega) (by omega)).eq]
  refine r_loop (k := 2) (fun kk ρ h' => ∃ (i : Nat) (ws : List (Int × List UInt8)), i + kk = 2 ∧ ws = (List.range i).map (fun j : Nat => ((j : Int), zsec)) ∧ DW h.next (M + nParts data + 4 + kk) h' p m size ws f ∧ Frm h.next p m h h' ∧
    ρ 0 = .pointer (some ⟨p, 0, none⟩) ∧ ρ 1 = v ∧ ρ 23 = .int .i64 (i : Int)) ?_ ?_
  · rintro kk ρ h' ⟨i, ws, hkk, rfl, dw, fr1, r0, r1, r23⟩
    unfold g_journal_Format_L0
    rcases Nat.lt_or_ge i 2 with hi | hi
    · simp (maxSteps := 10000000) (disch := omega) only [vq0, vq1, vq2, vq3, vq4, vq5, tagOf, reduceIte, reduceCtorEq, Nat.reduceEqDiff, Nat.reduceAdd, Nat.reduceSub, Nat.reduceMul, Nat.reduceLT, Nat.reduceLeDiff, Int.reduceToNat, Nat.reduceBEq, tq1, tq2, tq3, tq4, tq5, r0, r1, r23, zsec_is]
      rw [show M + nParts data + 4 + kk = M + nParts data + 4 + (kk - 1) + 1 by omega] at dw
      refine (write_w dw (i : Int) zsec rfl (by omega) (by rw [List.length_map, List.length_range]; omega)).mono ?_
      rintro u h2 ⟨rfl, dw2, fr2⟩
      simp (maxSteps := 10000000) (disch := omega) only [vq0, vq1, vq2, vq3, vq4, vq5, tagOf, reduceIte, reduceCtorEq, Nat.reduceEqDiff, Nat.reduceAdd, Nat.reduceSub, Nat.reduceMul, Nat.reduceLT, Nat.reduceLeDiff, Int.reduceToNat, Nat.reduceBEq, tq1, tq2, tq3, tq4, tq5, r0, r1, r23]
      exact ⟨kk - 1, by omega, i + 1, _, by omega, by rw [List.range_succ, List.map_append]; rfl, dw2, fr1.trans fr2, rfl⟩
    · have hi2 : i = 2 := by omega
      have hk0 : kk = 0 := by omega
      subst hi2 hk0
      simp (maxSteps := 10000000) (disch := omega) only [vq0, vq1, vq2, vq3, vq4, vq5, tagOf, reduceIte, reduceCtorEq, Nat.reduceEqDiff, Nat.reduceAdd, Nat.reduceSub, Nat.reduceMul, Nat.reduceLT, Nat.reduceLeDiff, Int.reduceToNat, Nat.reduceBEq, tq1, tq2, tq3, tq4, tq5, r0, r1, r23]
      refine (flush_w (N := M + nParts data + 3) dw (by decide)).mono ?_
      rintro u h2 ⟨rfl, dw2, fr2⟩
      have fr12 := fr1.trans fr2
      have hv2 : BRow h2 v data := fr12.row (Nat.le_refl _) hv (fun b hb => (hlt b hb).2)
      have hc2 : Cut1 h2 v := fun b hb => by
        obtain ⟨cs, w, q, h3, h4⟩ := hc b hb
        have := hlt b hb
        exact ⟨cs, w, q, (fr12.get b this.1 this.2.1 this.2.2).trans h3, h4⟩
      have n2 := fr12.next
      simp (maxSteps := 10000000) (disch := omega) only [vq0, vq1, vq2, vq3, vq4, vq5, tagOf, reduceIte, reduceCtorEq, Nat.reduceEqDiff, Nat.reduceAdd, Nat.reduceSub, Nat.reduceMul, Nat.reduceLT, Nat.reduceLeDiff, Int.reduceToNat, Nat.reduceBEq, tq1, tq2, tq3, tq4, tq5, r0, r1, r23]
      refine (writeJ_ok h2 p m M size 1 _ v data (dw2.base (Nat.le_refl _) (by omega) (by omega)) hs hv2 hc2 (fun b hb => by have := hlt b hb; omega) (by omega) hN).mono ?_
      rintro u h3 ⟨rfl, dw3, fr3⟩
      have fr23 := fr12.trans (fr3.down n2)
      have hv3 : BRow h3 v data := fr23.row (Nat.le_refl _) hv (fun b hb => (hlt b hb).2)
      have n3 := fr3.next
      simp (maxSteps := 10000000) (disch := omega) only [vq0, vq1, vq2, vq3, vq4, vq5, tagOf, reduceIte, reduceCtorEq, Nat.reduceEqDiff, Nat.reduceAdd, Nat.reduceSub, Nat.reduceMul, Nat.reduceLT, Nat.reduceLeDiff, Int.reduceToNat, Nat.reduceBEq, tq1, tq2, tq3, tq4, tq5, r0, r1, r23]
      refine (cloneB_ok v data h3 hv3 (by omega)).mono ?_
      rintro w h4 ⟨g4, hw, hwb, hwc, hwv⟩
      have n4 := g4.next
      obtain ⟨a4, c4, e4⟩ := hw.is
      have hwcl : cellsOf w = [w] := by rw [e4]; rfl
      have hwo := hw.one
      simp (maxSteps := 10000000) (disch := omega) only [vq0, vq1, vq2, vq3, vq4, vq5, tagOf, reduceIte, reduceCtorEq, Nat.reduceEqDiff, Nat.reduceAdd, Nat.reduceSub, Nat.reduceMul, Nat.reduceLT, Nat.reduceLeDiff, Int.reduceToNat, Nat.reduceBEq, tq1, tq2, tq3, tq4, tq5, r0, r1, r23, hwcl, hwo]
      have g5 : Grow h4 (h4.new (.cells [.pointer (some ⟨p, 0, none⟩), .int .i64 1, w, .slice none 0 0, .int .i64 0, .bool false] true none)) := .new _ _
      exact ⟨h4.next, rfl, by omega, Nat.lt_succ_self _, ⟨w, get_new_same _ _, BRow.grow hw g5, hwc.grow (BRow.blk hw hwv) g5, fun b hb => Nat.lt_of_lt_of_le (BRow.blk hw hwv b hb) g5.next⟩, (dw3.grow (g4.trans g5)).base (by have := g5.next; omega) pb.1 pb.2, fr23.trans (.of (g4.trans g5) (by omega))⟩
  · refine ⟨0, [], by omega, rfl, x1, .of g1 (Nat.le_refl _), ?_⟩
    simp (maxSteps := 10000000) (disch := omega) only [vq0, vq1, vq2, vq3, vq4, vq5, tagOf, reduceIte, reduceCtorEq, Nat.reduceEqDiff, Nat.reduceAdd, Nat.reduceSub, Nat.reduceMul, Nat.reduceLT, Nat.reduceLeDiff, Int.reduceToNat, Nat.reduceBEq, tq1, tq2, tq3, tq4, tq5]
    rfl
end Go.Proofs.YtjhaokhgiagkaaaGreatDoor.C
