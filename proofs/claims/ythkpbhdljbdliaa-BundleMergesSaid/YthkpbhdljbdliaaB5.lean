/- B5: two diffs put together. -/
import Derived.Test.YthkpbhdljbdliaaB4
open Go Go.Vi Go.Bm
namespace Go.Proofs.Ythkpbhdljbdliaa.C
set_option linter.unusedSimpArgs false
set_option maxRecDepth 100000
set_option maxHeartbeats 40000000
def MergeQ (a b : Dif) (v : Value) (h' : Heap) : Prop :=
  if goodD a = true ∧ goodD b = true then
    if b.fr = a.to then ∃ w, v = .tuple ⟨[.agg ⟨difC (mergeD a b) w⟩, .nilIface]⟩ ∧ DRow h' w (mergeD a b).recs
    else v = .tuple ⟨[.agg ⟨difC ⟨0, 0, []⟩ (.slice none 0 0)⟩, .iface t_api_Errno (.int .i64 1)]⟩
  else v = .tuple ⟨[.agg ⟨difC ⟨0, 0, []⟩ (.slice none 0 0)⟩, .iface t_api_Errno (.int .i64 2)]⟩
theorem merge_ok (a b : Dif) (va vb : Value) (h : Heap) (ha : DRow h va a.recs) (hb : DRow h vb b.recs) (hLa : a.recs.length ≤ 1000000) (hLb : b.recs.length ≤ 1000000) :
    Ret E f_bundle_Merge [.agg ⟨difC a va⟩, .agg ⟨difC b vb⟩] h (fun v h' => Grow h h' ∧ MergeQ a b v h') := by
  refine ret_fun is_bundle_Merge (by simp) ?_
  unfold g_bundle_Merge
  have hda : difC a va = [.int .i64 a.fr, .int .i64 a.to, va] := rfl
  have hdb : difC b vb = [.int .i64 b.fr, .int .i64 b.to, vb] := rfl
  have hz : difC ⟨0, 0, []⟩ (.slice none 0 0) = [.int .i64 0, .int .i64 0, .slice none 0 0] := rfl
  have oa := ha.one
  have ob := hb.one
  have gn : ∀ b1 b2 b3, Grow h (((h.new b1).new b2).new b3) := fun b1 b2 b3 => ((Grow.new h b1).more b2).more b3
  unfold MergeQ
  rw [hda, hdb, hz]
  simp (maxSteps := 10000000) (disch := omega) only [vq0, vq1, vq2, vq3, vq4, vq5, tagOf, reduceIte, reduceCtorEq, Nat.reduceEqDiff, Nat.reduceAdd, Nat.reduceSub, Nat.reduceMul, Nat.reduceLT, Nat.reduceLeDiff, Int.reduceToNat, Nat.reduceBEq, tq1, tq2, tq3, oa, ob]
  refine (good_ok a va _ (ha.grow (gn _ _ _)) hLa).mono ?_
  rintro v1 h1 ⟨g1, rfl⟩
  have g01 := (gn (.cells [.int .i64 a.fr, .int .i64 a.to, va] true none) (.cells [.int .i64 b.fr, .int .i64 b.to, vb] true none) (.cells [.int .i64 0, .int .i64 0, .slice none 0 0] true none)).trans g1
  have hx : (((h.new (.cells [.int .i64 a.fr, .int .i64 a.to, va] true none)).new (.cells [.int .i64 b.fr, .int .i64 b.to, vb] true none)).new (.cells [.int .i64 0, .int .i64 0, .slice none 0 0] true none)).next = h.next + 3 := rfl
  have hn1 := g1.next
  rw [hx] at hn1
  have p0 : h1.get h.next = some (.cells [.int .i64 a.fr, .int .i64 a.to, va] true none) := by rw [g1.get _ (by omega)]; simp (maxSteps := 10000000) (disch := omega) only [vq0, vq1, vq2, vq3, vq4, vq5, tagOf, reduceIte, reduceCtorEq, Nat.reduceEqDiff, Nat.reduceAdd, Nat.reduceSub, Nat.reduceMul, Nat.reduceLT, Nat.reduceLeDiff, Int.reduceToNat, Nat.reduceBEq, tq1, tq2, tq3]
  have p1 : h1.get (h.next + 1) = some (.cells [.int .i64 b.fr, .int .i64 b.to, vb] true none) := by rw [g1.get _ (by omega)]; simp (maxSteps := 10000000) (disch := omega) only [vq0, vq1, vq2, vq3, vq4, vq5, tagOf, reduceIte, reduceCtorEq, Nat.reduceEqDiff, Nat.reduceAdd, Nat.reduceSub, Nat.reduceMul, Nat.reduceLT, Nat.reduceLeDiff, Int.reduceToNat, Nat.reduceBEq, tq1, tq2, tq3]
  have p2 : h1.get (h.next + 1 + 1) = some (.cells [.int .i64 0, .int .i64 0, .slice none 0 0] true none) := by rw [g1.get _ (by omega)]; simp (maxSteps := 10000000) (disch := omega) only [vq0, vq1, vq2, vq3, vq4, vq5, tagOf, reduceIte, reduceCtorEq, Nat.reduceEqDiff, Nat.reduceAdd, Nat.reduceSub, Nat.reduceMul, Nat.reduceLT, Nat.reduceLeDiff, Int.reduceToNat, Nat.reduceBEq, tq1, tq2, tq3]
  cases hga : goodD a with
  | false =>
    simp (maxSteps := 10000000) (disch := omega) only [vq0, vq1, vq2, vq3, vq4, vq5, tagOf, reduceIte, reduceCtorEq, Nat.reduceEqDiff, Nat.reduceAdd, Nat.reduceSub, Nat.reduceMul, Nat.reduceLT, Nat.reduceLeDiff, Int.reduceToNat, Nat.reduceBEq, tq1, tq2, tq3, p2]
    rw [if_neg fun q => q.1]
    exact ⟨g01.set (by omega) _, trivial⟩
  | true =>
  simp (maxSteps := 10000000) (disch := omega) only [vq0, vq1, vq2, vq3, vq4, vq5, tagOf, reduceIte, reduceCtorEq, Nat.reduceEqDiff, Nat.reduceAdd, Nat.reduceSub, Nat.reduceMul, Nat.reduceLT, Nat.reduceLeDiff, Int.reduceToNat, Nat.reduceBEq, tq1, tq2, tq3, p1, ob]
  refine (good_ok b vb _ (hb.grow g01) hLb).mono ?_
  rintro v2 h2 ⟨g2, rfl⟩
  have g02 := g01.trans g2
  have hn2 := g2.next
  have q0 : h2.get h.next = _ := (g2.get _ (by omega)).trans p0
  have q1 : h2.get (h.next + 1) = _ := (g2.get _ (by omega)).trans p1
  have q2 : h2.get (h.next + 1 + 1) = _ := (g2.get _ (by omega)).trans p2
  cases hgb : goodD b with
  | false =>
    simp (maxSteps := 10000000) (disch := omega) only [vq0, vq1, vq2, vq3, vq4, vq5, tagOf, reduceIte, reduceCtorEq, Nat.reduceEqDiff, Nat.reduceAdd, Nat.reduceSub, Nat.reduceMul, Nat.reduceLT, Nat.reduceLeDiff, Int.reduceToNat, Nat.reduceBEq, tq1, tq2, tq3, q2]
    refine g02.set ?_ _
    omega
  | true =>
  by_cases hft : b.fr = a.to
  · have hA := hga
    have hB := hgb
    unfold goodD sizedB at hA hB
    simp only [Bool.and_eq_true, decide_eq_true_eq] at hA hB
    obtain ⟨⟨a0, a1⟩, ⟨a2, a3⟩, a4⟩ := hA
    obtain ⟨⟨b0, b1⟩, ⟨b2, b3⟩, b4⟩ := hB
    have gla := goodL_at a4 (Int.le_refl 0)
    have glb := goodL_at b4 (Int.le_refl 0)
    obtain ⟨N, hN⟩ : ∃ N : Nat, b.to = (N : Int) := ⟨b.to.toNat, by omega⟩
    have hmd : mergeD a b = ⟨a.fr, (N : Int), runsP (mergeS a b) N (N + 1) 0⟩ := by unfold mergeD; rw [hN]; rfl
    have hmC : ∀ w, difC (mergeD a b) w = [.int .i64 a.fr, .int .i64 (N : Int), w] := fun w => by rw [hmd]; rfl
    have hmr : (mergeD a b).recs = runsP (mergeS a b) N (N + 1) 0 := by rw [hmd]
    rw [hmr]
    simp only [hmC]
    rw [hN] at q1
    simp (maxSteps := 10000000) (disch := omega) only [vq0, vq1, vq2, vq3, vq4, vq5, tagOf, reduceIte, reduceCtorEq, Nat.reduceEqDiff, Nat.reduceAdd, Nat.reduceSub, Nat.reduceMul, Nat.reduceLT, Nat.reduceLeDiff, Int.reduceToNat, Nat.reduceBEq, tq1, tq2, tq3, q0, q1, q2, hft, hN]
    refine (newSheet_ok N (by omega) h2).mono ?_
    rintro v3 h3 ⟨g3, rfl, s3⟩
    have hn3 := g3.next
    have l3 := s3.lt
    have q0 : h3.get h.next = _ := (g3.get _ (by omega)).trans q0
    have q1 : h3.get (h.next + 1) = _ := (g3.get _ (by omega)).trans q1
    have q2 : h3.get (h.next + 1 + 1) = _ := (g3.get _ (by omega)).trans q2
    simp (maxSteps := 10000000) (disch := omega) only [vq0, vq1, vq2, vq3, vq4, vq5, tagOf, reduceIte, reduceCtorEq, Nat.reduceEqDiff, Nat.reduceAdd, Nat.reduceSub, Nat.reduceMul, Nat.reduceLT, Nat.reduceLeDiff, Int.reduceToNat, Nat.reduceBEq, tq1, tq2, tq3, q0, q1, q2]
    refine (zero_ok (h2.next + 2) h2.next (h2.next + 1) N (fun _ => none) a.to a.fr h3 s3 (by omega) (by omega) (by omega) ⟨by omega, by omega⟩).mono ?_
    rintro v4 h4 ⟨g4, s4⟩
    have hn4 := g4.next
    have q0 : h4.get h.next = _ := (g4.get _ (by omega) (by omega) (by omega)).trans q0
    have q1 : h4.get (h.next + 1) = _ := (g4.get _ (by omega) (by omega) (by omega)).trans q1
    have q2 : h4.get (h.next + 1 + 1) = _ := (g4.get _ (by omega) (by omega) (by omega)).trans q2
    have g24 : Grow h2 h4 := ((But.of g3).trans g4).grow (Nat.le_refl _) (by omega)
    have ta := fun Q => (tell_ok (h2.next + 2) h2.next (h2.next + 1) N _ a va h2 h4 s4 (by omega) (ha.grow g02) g24 (Nat.le_refl _) (by omega) hLa (fun r hr => by obtain ⟨c1, c2, c3, c4⟩ := gla r hr; exact ⟨c1, c2, by omega, c4⟩)).mono (Q' := Q)
    rw [hda] at ta
    simp (maxSteps := 10000000) (disch := omega) only [vq0, vq1, vq2, vq3, vq4, vq5, tagOf, reduceIte, reduceCtorEq, Nat.reduceEqDiff, Nat.reduceAdd, Nat.reduceSub, Nat.reduceMul, Nat.reduceLT, Nat.reduceLeDiff, Int.reduceToNat, Nat.reduceBEq, tq1, tq2, tq3, q0, q1, q2, oa]
    refine ta _ ?_
    rintro v5 h5 ⟨g5, s5⟩
    have hn5 := g5.next
    have q0 : h5.get h.next = _ := (g5.get _ (by omega) (by omega) (by omega)).trans q0
    have q1 : h5.get (h.next + 1) = _ := (g5.get _ (by omega) (by omega) (by omega)).trans q1
    have q2 : h5.get (h.next + 1 + 1) = _ := (g5.get _ (by omega) (by omega) (by omega)).trans q2
    have g25 : Grow h2 h5 := ((But.of g24).trans g5).grow (Nat.le_refl _) (by omega)
    have tb := fun Q => (tell_ok (h2.next + 2) h2.next (h2.next + 1) N _ b vb h2 h5 s5 (by omega) (hb.grow g02) g25 (Nat.le_refl _) (by omega) hLb (fun r hr => by obtain ⟨c1, c2, c3, c4⟩ := glb r hr; exact ⟨c1, c2, by omega, c4⟩)).mono (Q' := Q)
    rw [hdb, hN] at tb
    simp (maxSteps := 10000000) (disch := omega) only [vq0, vq1, vq2, vq3, vq4, vq5, tagOf, reduceIte, reduceCtorEq, Nat.reduceEqDiff, Nat.reduceAdd, Nat.reduceSub, Nat.reduceMul, Nat.reduceLT, Nat.reduceLeDiff, Int.reduceToNat, Nat.reduceBEq, tq1, tq2, tq3, q0, q1, q2, ob]
    refine tb _ ?_
    rintro v6 h6 ⟨g6, s6⟩
    have hn6 := g6.next
    have q0 : h6.get h.next = _ := (g6.get _ (by omega) (by omega) (by omega)).trans q0
    have q1 : h6.get (h.next + 1) = _ := (g6.get _ (by omega) (by omega) (by omega)).trans q1
    have q2 : h6.get (h.next + 1 + 1) = _ := (g6.get _ (by omega) (by omega) (by omega)).trans q2
    have g26 : Grow h2 h6 := ((But.of g25).trans g6).grow (Nat.le_refl _) (by omega)
    have s6' : Sheet h6 (h2.next + 2) h2.next (h2.next + 1) N (mergeS a b) := s6
    simp (maxSteps := 10000000) (disch := omega) only [vq0, vq1, vq2, vq3, vq4, vq5, tagOf, reduceIte, reduceCtorEq, Nat.reduceEqDiff, Nat.reduceAdd, Nat.reduceSub, Nat.reduceMul, Nat.reduceLT, Nat.reduceLeDiff, Int.reduceToNat, Nat.reduceBEq, tq1, tq2, tq3, q0, q1, q2]
    refine (records_ok (h2.next + 2) h2.next (h2.next + 1) N (mergeS a b) h6 s6' (by omega)).mono ?_
    rintro w h7 ⟨g7, hw⟩
    have hn7 := g7.next
    have hdr := hw.row
    have ow := hdr.one
    obtain ⟨aw, cw, rfl⟩ := hdr.is
    have u0 := q0
    have u1 := q1
    have q0 : h7.get h.next = _ := (g7.get _ (by omega)).trans q0
    have q1 : h7.get (h.next + 1) = _ := (g7.get _ (by omega)).trans q1
    have q2 : h7.get (h.next + 1 + 1) = _ := (g7.get _ (by omega)).trans q2
    simp (maxSteps := 10000000) (disch := omega) only [vq0, vq1, vq2, vq3, vq4, vq5, tagOf, reduceIte, reduceCtorEq, Nat.reduceEqDiff, Nat.reduceAdd, Nat.reduceSub, Nat.reduceMul, Nat.reduceLT, Nat.reduceLeDiff, Int.reduceToNat, Nat.reduceBEq, tq1, tq2, tq3, q0, q1, q2, u0, u1]
    exact ⟨((g02.trans g26).trans g7).set (by omega) _, _, rfl, (hw.set (by omega) _).row⟩
  · simp (maxSteps := 10000000) (disch := omega) only [vq0, vq1, vq2, vq3, vq4, vq5, tagOf, reduceIte, reduceCtorEq, Nat.reduceEqDiff, Nat.reduceAdd, Nat.reduceSub, Nat.reduceMul, Nat.reduceLT, Nat.reduceLeDiff, Int.reduceToNat, Nat.reduceBEq, tq1, tq2, tq3, q0, q1, q2, hft]
    refine g02.set ?_ _
    omega
end Go.Proofs.Ythkpbhdljbdliaa.C
