/- B9: the law of merges: it answers true, whatever the diffs. -/
import Derived.Test.YthkpbhdljbdliaaB9m
open Go Go.Vi Go.Bm
namespace Go.Proofs.Ythkpbhdljbdliaa.C
set_option linter.unusedSimpArgs false
set_option maxRecDepth 100000
set_option maxHeartbeats 40000000
theorem law_merges (a b : Dif) (va vb x : Value) (l : List UInt8) (h : Heap) (ha : DRow h va a.recs) (hb : DRow h vb b.recs) (hl : BRow h x l) :
    Ret E f_laminalaw23_BundleMerges [.agg ⟨difC a va⟩, .agg ⟨difC b vb⟩, x] h (fun v _ => v = .bool true) := by
  refine ret_fun is_laminalaw23_BundleMerges (by simp) ?_
  unfold g_laminalaw23_BundleMerges
  have hda : difC a va = [.int .i64 a.fr, .int .i64 a.to, va] := rfl
  have hdb : difC b vb = [.int .i64 b.fr, .int .i64 b.to, vb] := rfl
  have oa := ha.one
  have ob := hb.one
  have ea := DRow_veq ha
  have eb := DRow_veq hb
  obtain ⟨al, cl, rfl⟩ := hl.is
  rw [hda, hdb]
  obtain ⟨h0, e0⟩ : ∃ x, x = ((h.new (.cells [.int .i64 a.fr, .int .i64 a.to, va] true none)).new (.cells [.int .i64 b.fr, .int .i64 b.to, vb] true none)) := ⟨_, rfl⟩
  have g0 : Grow h h0 := by rw [e0]; exact (Grow.new h _).more _
  have n0 : h0.next = h.next + 2 := by rw [e0]; rfl
  have pa0 : h0.get h.next = some (.cells [.int .i64 a.fr, .int .i64 a.to, va] true none) := by rw [e0]; simp (maxSteps := 10000000) (disch := omega) only [vq0, vq1, vq2, vq3, vq4, vq5, tagOf, reduceIte, reduceCtorEq, Nat.reduceEqDiff, Nat.reduceAdd, Nat.reduceSub, Nat.reduceMul, Nat.reduceLT, Nat.reduceLeDiff, Int.reduceToNat, Nat.reduceBEq, tq1, tq2, tq3]
  have pb0 : h0.get (h.next + 1) = some (.cells [.int .i64 b.fr, .int .i64 b.to, vb] true none) := by rw [e0]; simp (maxSteps := 10000000) (disch := omega) only [vq0, vq1, vq2, vq3, vq4, vq5, tagOf, reduceIte, reduceCtorEq, Nat.reduceEqDiff, Nat.reduceAdd, Nat.reduceSub, Nat.reduceMul, Nat.reduceLT, Nat.reduceLeDiff, Int.reduceToNat, Nat.reduceBEq, tq1, tq2, tq3]
  have pa : ∀ k : Heap, Grow h0 k → k.get h.next = some (.cells [.int .i64 a.fr, .int .i64 a.to, va] true none) := fun k g => (g.get _ (by omega)).trans pa0
  have pb : ∀ k : Heap, Grow h0 k → k.get (h.next + 1) = some (.cells [.int .i64 b.fr, .int .i64 b.to, vb] true none) := fun k g => (g.get _ (by omega)).trans pb0
  simp (maxSteps := 10000000) (disch := omega) only [vq0, vq1, vq2, vq3, vq4, vq5, tagOf, reduceIte, reduceCtorEq, Nat.reduceEqDiff, Nat.reduceAdd, Nat.reduceSub, Nat.reduceMul, Nat.reduceLT, Nat.reduceLeDiff, Int.reduceToNat, Nat.reduceBEq, tq1, tq2, tq3, alive_ret, oa, ob]
  rw [← e0]
  refine (large_ok a va _ (ha.grow g0)).mono ?_
  rintro v1 h1 ⟨g1, q1⟩
  have k1 := g1
  rcases q1 with rfl | ⟨rfl, fa⟩
  · simp (maxSteps := 10000000) (disch := omega) only [vq0, vq1, vq2, vq3, vq4, vq5, tagOf, reduceIte, reduceCtorEq, Nat.reduceEqDiff, Nat.reduceAdd, Nat.reduceSub, Nat.reduceMul, Nat.reduceLT, Nat.reduceLeDiff, Int.reduceToNat, Nat.reduceBEq, tq1, tq2, tq3]
  simp (maxSteps := 10000000) (disch := omega) only [vq0, vq1, vq2, vq3, vq4, vq5, tagOf, reduceIte, reduceCtorEq, Nat.reduceEqDiff, Nat.reduceAdd, Nat.reduceSub, Nat.reduceMul, Nat.reduceLT, Nat.reduceLeDiff, Int.reduceToNat, Nat.reduceBEq, tq1, tq2, tq3, pb h1 k1, ob]
  refine (large_ok b vb _ (hb.grow (g0.trans k1))).mono ?_
  rintro v2 h2 ⟨g2, q2⟩
  have k2 := k1.trans g2
  rcases q2 with rfl | ⟨rfl, fb⟩
  · simp (maxSteps := 10000000) (disch := omega) only [vq0, vq1, vq2, vq3, vq4, vq5, tagOf, reduceIte, reduceCtorEq, Nat.reduceEqDiff, Nat.reduceAdd, Nat.reduceSub, Nat.reduceMul, Nat.reduceLT, Nat.reduceLeDiff, Int.reduceToNat, Nat.reduceBEq, tq1, tq2, tq3]
  by_cases hbig : (l.length : Int) > 5000
  · simp (maxSteps := 10000000) (disch := omega) only [vq0, vq1, vq2, vq3, vq4, vq5, tagOf, reduceIte, reduceCtorEq, Nat.reduceEqDiff, Nat.reduceAdd, Nat.reduceSub, Nat.reduceMul, Nat.reduceLT, Nat.reduceLeDiff, Int.reduceToNat, Nat.reduceBEq, tq1, tq2, tq3, hbig]
  have hLa : a.recs.length ≤ 1000000 := by have := fa.n; omega
  have hLb : b.recs.length ≤ 1000000 := by have := fb.n; omega
  have hDa : ∀ r ∈ a.recs, r.data.length ≤ 1000000 := fun r hr => by have := fa.data r hr; omega
  have hDb : ∀ r ∈ b.recs, r.data.length ≤ 1000000 := fun r hr => by have := fb.data r hr; omega
  have hnb : ¬ (5000 < l.length) := by omega
  simp (maxSteps := 10000000) (disch := omega) only [vq0, vq1, vq2, vq3, vq4, vq5, tagOf, reduceIte, reduceCtorEq, Nat.reduceEqDiff, Nat.reduceAdd, Nat.reduceSub, Nat.reduceMul, Nat.reduceLT, Nat.reduceLeDiff, Int.reduceToNat, Nat.reduceBEq, tq1, tq2, tq3, hnb, pa h2 k2, oa]
  refine (programDiff_ok a va h2 (ha.grow (g0.trans k2)) hLa hDa).mono ?_
  rintro v4 h4 ⟨g4, wa, rfl, hwa⟩
  have k4 := k2.trans g4
  simp (maxSteps := 10000000) (disch := omega) only [vq0, vq1, vq2, vq3, vq4, vq5, tagOf, reduceIte, reduceCtorEq, Nat.reduceEqDiff, Nat.reduceAdd, Nat.reduceSub, Nat.reduceMul, Nat.reduceLT, Nat.reduceLeDiff, Int.reduceToNat, Nat.reduceBEq, tq1, tq2, tq3, pb h4 k4, ob]
  refine (programDiff_ok b vb h4 (hb.grow (g0.trans k4)) hLb hDb).mono ?_
  rintro v5 h5 ⟨g5, wb, rfl, hwb⟩
  have k5 := k4.trans g5
  have n5 := k5.next
  have oaw := hwa.one
  have obw := hwb.one
  have hdaw : difC a wa = [.int .i64 a.fr, .int .i64 a.to, wa] := rfl
  have hdbw : difC b wb = [.int .i64 b.fr, .int .i64 b.to, wb] := rfl
  rw [hdaw, hdbw]
  simp (maxSteps := 10000000) (disch := omega) only [vq0, vq1, vq2, vq3, vq4, vq5, tagOf, reduceIte, reduceCtorEq, Nat.reduceEqDiff, Nat.reduceAdd, Nat.reduceSub, Nat.reduceMul, Nat.reduceLT, Nat.reduceLeDiff, Int.reduceToNat, Nat.reduceBEq, tq1, tq2, tq3, oaw, obw, pa h2 k2, pb h2 k2, pb h4 k4, ea, eb]
  obtain ⟨hC, eC⟩ : ∃ x, x = ((((h5.new (.cells [.int .i64 0, .int .i64 0, .slice none 0 0] true none)).new (.cells [.int .i64 0, .int .i64 0, .slice none 0 0] true none)).set h5.next (.cells [.int .i64 a.fr, .int .i64 a.to, wa] true none)).set (h5.next + 1) (.cells [.int .i64 b.fr, .int .i64 b.to, wb] true none)) := ⟨_, rfl⟩
  have gC : Grow h5 hC := by rw [eC]; exact (((Grow.new h5 _).more _).set (Nat.le_refl _) _).set (Nat.le_succ _) _
  have nC : hC.next = h5.next + 2 := by rw [eC]; rfl
  have pc0 : hC.get h5.next = some (.cells [.int .i64 a.fr, .int .i64 a.to, wa] true none) := by rw [eC, get_set_ne (by omega), get_set_same]
  have pd0 : hC.get (h5.next + 1) = some (.cells [.int .i64 b.fr, .int .i64 b.to, wb] true none) := by rw [eC, get_set_same]
  have pc : ∀ k : Heap, Grow hC k → k.get h5.next = some (.cells [.int .i64 a.fr, .int .i64 a.to, wa] true none) := fun k g => (g.get _ (by omega)).trans pc0
  have pd : ∀ k : Heap, Grow hC k → k.get (h5.next + 1) = some (.cells [.int .i64 b.fr, .int .i64 b.to, wb] true none) := fun k g => (g.get _ (by omega)).trans pd0
  rw [← eC]
  have mo := fun Q => (merge_ok a b wa wb hC ((hwa.grow g5).grow gC) (hwb.grow gC) hLa hLb).mono (Q' := Q)
  rw [hdaw, hdbw] at mo
  refine mo _ ?_
  rintro v6 h6 ⟨g6, q6⟩
  have kC : Grow h0 hC := k5.trans gC
  have k6 : Grow h0 h6 := kC.trans g6
  have n6 := g6.next
  have hz : difC ⟨0, 0, []⟩ (.slice none 0 0) = [.int .i64 0, .int .i64 0, .slice none 0 0] := rfl
  have eaw := DRow_veq hwa
  have ebw := DRow_veq hwb
  have hq : ∃ m wm e1, v6 = .tuple ⟨[.agg ⟨difC m wm⟩, e1]⟩ ∧ DRow h6 wm m.recs ∧ ((e1 = .nilIface ∧ goodD a = true ∧ goodD b = true ∧ b.fr = a.to ∧ m = mergeD a b) ∨ (m = ⟨0, 0, []⟩ ∧ wm = .slice none 0 0 ∧ ((e1 = .iface t_api_Errno (.int .i64 1) ∧ goodD a = true ∧ goodD b = true ∧ b.fr ≠ a.to) ∨ (e1 = .iface t_api_Errno (.int .i64 2) ∧ ¬(goodD a = true ∧ goodD b = true))))) := by
    unfold MergeQ at q6
    split at q6
    · rename_i hg
      split at q6
      · rename_i hf
        obtain ⟨w, rfl, hw⟩ := q6
        exact ⟨_, w, _, rfl, hw, .inl ⟨rfl, hg.1, hg.2, hf, rfl⟩⟩
      · rename_i hf
        exact ⟨_, _, _, q6, .nil _, .inr ⟨rfl, rfl, .inl ⟨rfl, hg.1, hg.2, hf⟩⟩⟩
    · rename_i hg
      exact ⟨_, _, _, q6, .nil _, .inr ⟨rfl, rfl, .inr ⟨rfl, hg⟩⟩⟩
  clear q6
  obtain ⟨m, wm, e1, rfl, hwm, qq⟩ := hq
  have om := hwm.one
  have em := DRow_veq hwm
  have hdm : difC m wm = [.int .i64 m.fr, .int .i64 m.to, wm] := rfl
  rw [hdm]
  simp (maxSteps := 10000000) (disch := omega) only [vq0, vq1, vq2, vq3, vq4, vq5, tagOf, reduceIte, reduceCtorEq, Nat.reduceEqDiff, Nat.reduceAdd, Nat.reduceSub, Nat.reduceMul, Nat.reduceLT, Nat.reduceLeDiff, Int.reduceToNat, Nat.reduceBEq, tq1, tq2, tq3, om, pc h6 g6, oaw, pa h6 k6, pb h6 k6]
  obtain ⟨h7, e7⟩ : ∃ x, x = (h6.new (.cells [.int .i64 0, .int .i64 0, .slice none 0 0] true none)).set h6.next (.cells [.int .i64 m.fr, .int .i64 m.to, wm] true none) := ⟨_, rfl⟩
  have g7 : Grow h6 h7 := by rw [e7]; exact (Grow.new h6 _).set (Nat.le_refl _) _
  have n7 : h7.next = h6.next + 1 := by rw [e7]; rfl
  have p70 : h7.get h6.next = some (.cells [.int .i64 m.fr, .int .i64 m.to, wm] true none) := by rw [e7, get_set_same]
  have p7 : ∀ k : Heap, Grow h7 k → k.get h6.next = some (.cells [.int .i64 m.fr, .int .i64 m.to, wm] true none) := fun k g => (g.get _ (by omega)).trans p70
  have k7 := k6.trans g7
  have c7 : Grow hC h7 := g6.trans g7
  rw [← e7]
  have po := fun Q => (plainDiff_ok a wa h7 (((hwa.grow g5).grow gC).grow c7) hLa).mono (Q' := Q)
  rw [hdaw] at po
  refine po _ ?_
  rintro v8 h8 ⟨g8, wa2, rfl, hwa2⟩
  have k8 := k7.trans g8
  have c8 := c7.trans g8
  have oa2 := hwa2.one
  have ea2 := DRow_veq hwa2
  have hda2 : difC a wa2 = [.int .i64 a.fr, .int .i64 a.to, wa2] := rfl
  simp (maxSteps := 10000000) (disch := omega) only [vq0, vq1, vq2, vq3, vq4, vq5, tagOf, reduceIte, reduceCtorEq, Nat.reduceEqDiff, Nat.reduceAdd, Nat.reduceSub, Nat.reduceMul, Nat.reduceLT, Nat.reduceLeDiff, Int.reduceToNat, Nat.reduceBEq, tq1, tq2, tq3, pa h8 k8, oa]
  have so := fun Q => (refSame_ok a wa2 va h8 hwa2 (ha.grow (g0.trans k8)) hLa).mono (Q' := Q)
  rw [hda2, hda] at so
  rw [hda2]
  refine so _ ?_
  rintro v9 h9 ⟨g9, rfl⟩
  have k9 := k8.trans g9
  have c9 := c8.trans g9
  simp (maxSteps := 10000000) (disch := omega) only [vq0, vq1, vq2, vq3, vq4, vq5, tagOf, reduceIte, reduceCtorEq, Nat.reduceEqDiff, Nat.reduceAdd, Nat.reduceSub, Nat.reduceMul, Nat.reduceLT, Nat.reduceLeDiff, Int.reduceToNat, Nat.reduceBEq, tq1, tq2, tq3, pd h9 c9, obw]
  have po2 := fun Q => (plainDiff_ok b wb h9 ((hwb.grow gC).grow c9) hLb).mono (Q' := Q)
  rw [hdbw] at po2
  refine po2 _ ?_
  rintro v10 h10 ⟨g10, wb2, rfl, hwb2⟩
  have k10 := k9.trans g10
  have c10 := c9.trans g10
  have ob2 := hwb2.one
  have eb2 := DRow_veq hwb2
  have hdb2 : difC b wb2 = [.int .i64 b.fr, .int .i64 b.to, wb2] := rfl
  simp (maxSteps := 10000000) (disch := omega) only [vq0, vq1, vq2, vq3, vq4, vq5, tagOf, reduceIte, reduceCtorEq, Nat.reduceEqDiff, Nat.reduceAdd, Nat.reduceSub, Nat.reduceMul, Nat.reduceLT, Nat.reduceLeDiff, Int.reduceToNat, Nat.reduceBEq, tq1, tq2, tq3, pb h10 k10, ob]
  have so2 := fun Q => (refSame_ok b wb2 vb h10 hwb2 (hb.grow (g0.trans k10)) hLb).mono (Q' := Q)
  rw [hdb2, hdb] at so2
  rw [hdb2]
  refine so2 _ ?_
  rintro v11 h11 ⟨g11, rfl⟩
  have k11 := k10.trans g11
  have c11 := c10.trans g11
  simp (maxSteps := 10000000) (disch := omega) only [vq0, vq1, vq2, vq3, vq4, vq5, tagOf, reduceIte, reduceCtorEq, Nat.reduceEqDiff, Nat.reduceAdd, Nat.reduceSub, Nat.reduceMul, Nat.reduceLT, Nat.reduceLeDiff, Int.reduceToNat, Nat.reduceBEq, tq1, tq2, tq3, pa h7 k7, pa h8 k8, pa h9 k9, pa h10 k10, pa h11 k11, pb h7 k7, pb h8 k8, pb h9 k9, pb h10 k10, pb h11 k11, pc h7 c7, pc h8 c8, pc h9 c9, pc h10 c10, pc h11 c11, pd h7 c7, pd h8 c8, pd h9 c9, pd h10 c10, pd h11 c11, ea, eb, eaw, ebw, ea2, eb2, oa, ob]
  have go := fun Q => (refGood_ok a va h11 (ha.grow (g0.trans k11)) hLa).mono (Q' := Q)
  rw [hda] at go
  refine go _ ?_
  rintro v12 h12 ⟨g12, rfl⟩
  have k12 := k11.trans g12
  have s12 : Grow h7 h12 := (((g8.trans g9).trans g10).trans g11).trans g12
  have is2 := fun h Q => is_err 2 (by omega) h Q
  have is1 := fun h Q => is_err 1 (by omega) h Q
  have goB := fun h' Q (g : Grow h h') => (refGood_ok b vb h' (hb.grow g) hLb).mono (Q' := Q)
  rw [hdb] at goB
  cases hga : goodD a with
  | false =>
    rcases qq with ⟨_, gda, _⟩ | ⟨rfl, rfl, qq⟩
    · rw [hga] at gda; cases gda
    rcases qq with ⟨_, gda, _⟩ | ⟨rfl, _⟩
    · rw [hga] at gda; cases gda
    simp (maxSteps := 10000000) (disch := omega) only [vq0, vq1, vq2, vq3, vq4, vq5, tagOf, reduceIte, reduceCtorEq, Nat.reduceEqDiff, Nat.reduceAdd, Nat.reduceSub, Nat.reduceMul, Nat.reduceLT, Nat.reduceLeDiff, Int.reduceToNat, Nat.reduceBEq, tq1, tq2, tq3, is2, p7 h12 s12]
  | true =>
    simp (maxSteps := 10000000) (disch := omega) only [vq0, vq1, vq2, vq3, vq4, vq5, tagOf, reduceIte, reduceCtorEq, Nat.reduceEqDiff, Nat.reduceAdd, Nat.reduceSub, Nat.reduceMul, Nat.reduceLT, Nat.reduceLeDiff, Int.reduceToNat, Nat.reduceBEq, tq1, tq2, tq3, pb h12 k12, ob]
    refine goB _ _ (g0.trans k12) ?_
    rintro v13 h13 ⟨g13, rfl⟩
    have k13 := k12.trans g13
    have s13 := s12.trans g13
    cases hgb : goodD b with
    | false =>
      rcases qq with ⟨_, _, gdb, _⟩ | ⟨rfl, rfl, qq⟩
      · rw [hgb] at gdb; cases gdb
      rcases qq with ⟨_, _, gdb, _⟩ | ⟨rfl, _⟩
      · rw [hgb] at gdb; cases gdb
      simp (maxSteps := 10000000) (disch := omega) only [vq0, vq1, vq2, vq3, vq4, vq5, tagOf, reduceIte, reduceCtorEq, Nat.reduceEqDiff, Nat.reduceAdd, Nat.reduceSub, Nat.reduceMul, Nat.reduceLT, Nat.reduceLeDiff, Int.reduceToNat, Nat.reduceBEq, tq1, tq2, tq3, is2, p7 h13 s13]
    | true =>
      by_cases hft : b.fr = a.to
      · rcases qq with ⟨rfl, _, _, _, rfl⟩ | ⟨rfl, rfl, qq⟩
        · have gm := good_merge hga hgb
          have lm := merge_len (a := a) hgb
          have q6 : Grow h6 h13 := g7.trans s13
          simp (maxSteps := 10000000) (disch := omega) only [vq0, vq1, vq2, vq3, vq4, vq5, tagOf, reduceIte, reduceCtorEq, Nat.reduceEqDiff, Nat.reduceAdd, Nat.reduceSub, Nat.reduceMul, Nat.reduceLT, Nat.reduceLeDiff, Int.reduceToNat, Nat.reduceBEq, tq1, tq2, tq3, p7 h13 s13, om, pa h13 k13, pb h13 k13]
          have po3 := fun Q => (plainDiff_ok (mergeD a b) wm h13 (hwm.grow q6) lm).mono (Q' := Q)
          rw [hdm] at po3
          refine po3 _ ?_
          rintro v14 h14 ⟨g14, wm2, rfl, hwm2⟩
          have k14 := k13.trans g14
          have s14 := s13.trans g14
          have om2 := hwm2.one
          have em2 := DRow_veq hwm2
          have hdm2 : difC (mergeD a b) wm2 = [.int .i64 (mergeD a b).fr, .int .i64 (mergeD a b).to, wm2] := rfl
          simp (maxSteps := 10000000) (disch := omega) only [vq0, vq1, vq2, vq3, vq4, vq5, tagOf, reduceIte, reduceCtorEq, Nat.reduceEqDiff, Nat.reduceAdd, Nat.reduceSub, Nat.reduceMul, Nat.reduceLT, Nat.reduceLeDiff, Int.reduceToNat, Nat.reduceBEq, tq1, tq2, tq3, pa h14 k14, pb h14 k14, oa, ob]
          have ro := fun Q => (refMerge_ok a b va vb h14 (ha.grow (g0.trans k14)) (hb.grow (g0.trans k14)) hga hgb hLa hLb).mono (Q' := Q)
          rw [hda, hdb] at ro
          refine ro _ ?_
          rintro v15 h15 ⟨g15, wm3, rfl, hwm3⟩
          have k15 := k14.trans g15
          have s15 := s14.trans g15
          have om3 := hwm3.one
          have em3 := DRow_veq hwm3
          have hdm3 : difC (mergeD a b) wm3 = [.int .i64 (mergeD a b).fr, .int .i64 (mergeD a b).to, wm3] := rfl
          simp (maxSteps := 10000000) (disch := omega) only [vq0, vq1, vq2, vq3, vq4, vq5, tagOf, reduceIte, reduceCtorEq, Nat.reduceEqDiff, Nat.reduceAdd, Nat.reduceSub, Nat.reduceMul, Nat.reduceLT, Nat.reduceLeDiff, Int.reduceToNat, Nat.reduceBEq, tq1, tq2, tq3]
          refine (refSame_ok (mergeD a b) wm2 wm3 h15 (hwm2.grow g15) hwm3 lm).mono ?_
          rintro v16 h16 ⟨g16, rfl⟩
          have k16 := k15.trans g16
          have s16 := s15.trans g16
          simp (maxSteps := 10000000) (disch := omega) only [vq0, vq1, vq2, vq3, vq4, vq5, tagOf, reduceIte, reduceCtorEq, Nat.reduceEqDiff, Nat.reduceAdd, Nat.reduceSub, Nat.reduceMul, Nat.reduceLT, Nat.reduceLeDiff, Int.reduceToNat, Nat.reduceBEq, tq1, tq2, tq3, p7 h16 s16, om]
          have gd := fun Q => (good_ok (mergeD a b) wm h16 (hwm.grow (g7.trans s16)) lm).mono (Q' := Q)
          rw [hdm] at gd
          refine gd _ ?_
          rintro v17 h17 ⟨g17, rfl⟩
          have k17 := k16.trans g17
          have s17 := s16.trans g17
          rw [gm, hdm2, hdm3]
          simp (maxSteps := 10000000) (disch := omega) only [vq0, vq1, vq2, vq3, vq4, vq5, tagOf, reduceIte, reduceCtorEq, Nat.reduceEqDiff, Nat.reduceAdd, Nat.reduceSub, Nat.reduceMul, Nat.reduceLT, Nat.reduceLeDiff, Int.reduceToNat, Nat.reduceBEq, tq1, tq2, tq3, p7 h13 s13, p7 h14 s14, p7 h15 s15, p7 h16 s16, p7 h17 s17, pa h13 k13, pa h14 k14, pa h15 k15, pa h16 k16, pa h17 k17, pb h13 k13, pb h14 k14, pb h15 k15, pb h16 k16, pb h17 k17, ea, eb, em, em2, em3, oa, ob, om]
          by_cases hlf : (l.length : Int) = a.fr
          · have hap := apply_merge hga hgb hlf
            have hl1 : ((applyL a l).length : Int) = b.fr := by
              rw [applyL_len]
              have := (good_of hga).2.1
              omega
            have c17 : Grow hC h17 := c7.trans s17
            have hlk : BRow h17 (.slice al l.length cl) l := hl.grow (g0.trans k17)
            simp (maxSteps := 10000000) (disch := omega) only [vq0, vq1, vq2, vq3, vq4, vq5, tagOf, reduceIte, reduceCtorEq, Nat.reduceEqDiff, Nat.reduceAdd, Nat.reduceSub, Nat.reduceMul, Nat.reduceLT, Nat.reduceLeDiff, Int.reduceToNat, Nat.reduceBEq, tq1, tq2, tq3, hlf, pc h17 c17, oaw]
            have ap := fun Q => (apply_ok a wa (.slice al l.length cl) l h17 (((hwa.grow g5).grow gC).grow c17) hlk hga hlf hLa).mono (Q' := Q)
            rw [hdaw] at ap
            refine ap _ ?_
            rintro v18 h18 ⟨g18, w1, rfl, hw1⟩
            have c18 := c17.trans g18
            simp (maxSteps := 10000000) (disch := omega) only [vq0, vq1, vq2, vq3, vq4, vq5, tagOf, reduceIte, reduceCtorEq, Nat.reduceEqDiff, Nat.reduceAdd, Nat.reduceSub, Nat.reduceMul, Nat.reduceLT, Nat.reduceLeDiff, Int.reduceToNat, Nat.reduceBEq, tq1, tq2, tq3, pd h18 c18, obw]
            have ap2 := fun Q => (apply_ok b wb w1 (applyL a l) h18 ((hwb.grow gC).grow c18) hw1 hgb hl1 hLb).mono (Q' := Q)
            rw [hdbw] at ap2
            refine ap2 _ ?_
            rintro v19 h19 ⟨g19, w2, rfl, hw2⟩
            have s19 := (s17.trans g18).trans g19
            simp (maxSteps := 10000000) (disch := omega) only [vq0, vq1, vq2, vq3, vq4, vq5, tagOf, reduceIte, reduceCtorEq, Nat.reduceEqDiff, Nat.reduceAdd, Nat.reduceSub, Nat.reduceMul, Nat.reduceLT, Nat.reduceLeDiff, Int.reduceToNat, Nat.reduceBEq, tq1, tq2, tq3, p7 h19 s19, om]
            have ap3 := fun Q => (apply_ok (mergeD a b) wm (.slice al l.length cl) l h19 (hwm.grow (g7.trans s19)) (hlk.grow (g18.trans g19)) gm hlf lm).mono (Q' := Q)
            rw [hdm] at ap3
            refine ap3 _ ?_
            rintro v20 h20 ⟨g20, w3, rfl, hw3⟩
            rw [hap] at hw3
            simp (maxSteps := 10000000) (disch := omega) only [vq0, vq1, vq2, vq3, vq4, vq5, tagOf, reduceIte, reduceCtorEq, Nat.reduceEqDiff, Nat.reduceAdd, Nat.reduceSub, Nat.reduceMul, Nat.reduceLT, Nat.reduceLeDiff, Int.reduceToNat, Nat.reduceBEq, tq1, tq2, tq3, sameB_ret (hw2.grow g20) hw3]
          · simp (maxSteps := 10000000) (disch := omega) only [vq0, vq1, vq2, vq3, vq4, vq5, tagOf, reduceIte, reduceCtorEq, Nat.reduceEqDiff, Nat.reduceAdd, Nat.reduceSub, Nat.reduceMul, Nat.reduceLT, Nat.reduceLeDiff, Int.reduceToNat, Nat.reduceBEq, tq1, tq2, tq3, hlf]
        · rcases qq with ⟨_, _, _, hne⟩ | ⟨_, hne⟩
          · exact absurd hft hne
          · exact absurd ⟨hga, hgb⟩ hne
      · rcases qq with ⟨_, _, _, h', _⟩ | ⟨rfl, rfl, qq⟩
        · exact absurd h' hft
        · rcases qq with ⟨rfl, _⟩ | ⟨_, hne⟩
          · simp (maxSteps := 10000000) (disch := omega) only [vq0, vq1, vq2, vq3, vq4, vq5, tagOf, reduceIte, reduceCtorEq, Nat.reduceEqDiff, Nat.reduceAdd, Nat.reduceSub, Nat.reduceMul, Nat.reduceLT, Nat.reduceLeDiff, Int.reduceToNat, Nat.reduceBEq, tq1, tq2, tq3, is1, p7 h13 s13, pa h13 k13, pb h13 k13]
          · exact absurd ⟨hga, hgb⟩ hne
end Go.Proofs.Ythkpbhdljbdliaa.C
