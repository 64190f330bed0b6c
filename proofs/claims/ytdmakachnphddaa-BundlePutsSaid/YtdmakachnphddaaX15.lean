/- X15: the law of what is put: it answers true, whatever the bundle. -/
import Derived.Test.YtdmakachnphddaaX14
open Nat (reduceEqDiff reduceAdd reduceSub reduceMul reduceLT reduceLeDiff)
open Int (reduceToNat)
open Go Go.Vi Go.Bm
namespace Go.Proofs.Ytdmakachnphddaa.C
set_option linter.unusedSimpArgs false
set_option maxRecDepth 100000
set_option maxHeartbeats 40000000
theorem alive_ret (h : Heap) (Q : Value → Heap → Prop) : Ret E F9_ [] h Q = Q (.bool true) h :=
  Ret.eq (ret_ext (g := memo (.bool true)) (by kernel_rfl) (by kernel_rfl) rfl ⟨rfl, rfl⟩) Q
theorem law_puts (b : Bun) (v w : Value) (h : Heap) (hp : PRow h v b.parts) (hd : DRow h w b.last.recs) :
    Ret E F7_ [.agg ⟨bunC b v w⟩] h (fun u _ => u = .bool true) := by
  refine ret_fun IS_ (by simp) ?_
  unfold Gar_
  have hbc : ∀ v w, bunC b v w = [.int .i64 b.object, v, .int .i64 b.last.fr, .int .i64 b.last.to, w] := fun _ _ => rfl
  have ov := hp.one
  have ow := hd.one
  obtain ⟨av, cv, rfl⟩ := hp.is
  obtain ⟨aw, cw, rfl⟩ := hd.is
  obtain ⟨h0, e0⟩ : ∃ y, y = h.new (.cells [.int .i64 b.object, .slice av b.parts.length cv, .int .i64 b.last.fr, .int .i64 b.last.to, .slice aw b.last.recs.length cw] true none) := ⟨_, rfl⟩
  have g0 : Grow h h0 := by rw [e0]; exact .new h _
  have n0 : h0.next = h.next + 1 := by rw [e0]; rfl
  have m0 : h0.get h.next = some (.cells [.int .i64 b.object, .slice av b.parts.length cv, .int .i64 b.last.fr, .int .i64 b.last.to, .slice aw b.last.recs.length cw] true none) := by rw [e0, get_new_same]
  have la := fun Q => (largeB_ok b _ _ h0 (hp.grow g0) (hd.grow g0)).mono (Q' := Q)
  rw [hbc] at la ⊢
  simp (maxSteps := 10000000) (disch := omega) only [vqA, tagOf, reduceIte, reduceCtorEq, reduceEqDiff, reduceAdd, reduceSub, reduceMul, reduceLT, reduceLeDiff, reduceToNat, Nat.reduceBEq, tqA, alive_ret]
  rw [← e0]
  refine la _ ?_
  rintro u h1 ⟨g1, hu⟩
  rcases hu with rfl | ⟨rfl, fb⟩
  · simp (maxSteps := 10000000) (disch := omega) only [vqA, tagOf, reduceIte, reduceCtorEq, reduceEqDiff, reduceAdd, reduceSub, reduceMul, reduceLT, reduceLeDiff, reduceToNat, Nat.reduceBEq, tqA]
  have m1 := (g1.get h.next (by omega)).trans m0
  have n1 := g1.next
  have G1 := g0.trans g1
  have hlen := fb.n
  have few : FewB b := ⟨by omega, fun p hp => by have := (fb.diff p hp).n; omega, by have := fb.last.n; omega⟩
  have pok : ∀ p ∈ b.parts, PartOk p := fun p hp => ⟨by have := fb.name p hp; omega, by have := (fb.diff p hp).n; omega⟩
  have pr := fun Q => (program_ok b _ _ h1 (hp.grow G1) (hd.grow G1) fb).mono (Q' := Q)
  rw [hbc] at pr
  simp (maxSteps := 10000000) (disch := omega) only [vqA, tagOf, reduceIte, reduceCtorEq, reduceEqDiff, reduceAdd, reduceSub, reduceMul, reduceLT, reduceLeDiff, reduceToNat, Nat.reduceBEq, tqA, m1]
  refine pr _ ?_
  rintro u h2 ⟨g2, v', w', rfl, hp2, hd2⟩
  rw [hbc]
  obtain ⟨av2, cv2, rfl⟩ := hp2.is
  obtain ⟨aw2, cw2, rfl⟩ := hd2.is
  have n2 := g2.next
  obtain ⟨h3, e3⟩ : ∃ y, y = (h2.new (.cells [.int .i64 0, .slice none 0 0, .int .i64 0, .int .i64 0, .slice none 0 0] true none)).set h2.next (.cells [.int .i64 b.object, .slice av2 b.parts.length cv2, .int .i64 b.last.fr, .int .i64 b.last.to, .slice aw2 b.last.recs.length cw2] true none) := ⟨_, rfl⟩
  have g3 : Grow h2 h3 := by rw [e3]; exact (Grow.new h2 _).set (Nat.le_refl _) _
  have n3 : h3.next = h2.next + 1 := by rw [e3]; rfl
  have q3 : h3.get h2.next = some (.cells [.int .i64 b.object, .slice av2 b.parts.length cv2, .int .i64 b.last.fr, .int .i64 b.last.to, .slice aw2 b.last.recs.length cw2] true none) := by rw [e3, get_set_same]
  have m3 := (g3.get h.next (by omega)).trans ((g2.get h.next (by omega)).trans m1)
  have G3 := (G1.trans g2).trans g3
  have pu := fun Q => (bunPut_ok b _ _ h3 (hp2.grow g3) (hd2.grow g3) few.n pok few.last).mono (Q' := Q)
  rw [hbc] at pu
  simp (maxSteps := 10000000) (disch := omega) only [vqA, tagOf, reduceIte, reduceCtorEq, reduceEqDiff, reduceAdd, reduceSub, reduceMul, reduceLT, reduceLeDiff, reduceToNat, Nat.reduceBEq, tqA]
  rw [← e3]
  refine pu _ ?_
  rintro u h4 ⟨g4, hq⟩
  have n4 := g4.next
  have m4 := (g4.get h.next (by omega)).trans m3
  have q4 := (g4.get h2.next (by omega)).trans q3
  have G4 := G3.trans g4
  have gd := fun Q => (refBunGood_ok b _ _ h4 (hp.grow G4) (hd.grow G4) few.n pok few.last).mono (Q' := Q)
  rw [hbc] at gd
  obtain ⟨sv, ev, rfl⟩ : ∃ sv ev, u = .tuple ⟨[sv, ev]⟩ := by
    split at hq
    · obtain ⟨x, rfl, _⟩ := hq
      exact ⟨_, _, rfl⟩
    · exact ⟨_, _, hq⟩
  simp (maxSteps := 10000000) (disch := omega) only [vqA, tagOf, reduceIte, reduceCtorEq, reduceEqDiff, reduceAdd, reduceSub, reduceMul, reduceLT, reduceLeDiff, reduceToNat, Nat.reduceBEq, tqA, m4]
  refine gd _ ?_
  rintro u h5 ⟨g5, rfl⟩
  have n5 := g5.next
  have m5 := (g5.get h.next (by omega)).trans m4
  have q5 := (g5.get h2.next (by omega)).trans q4
  have G5 := G4.trans g5
  have g35 := g4.trans g5
  have gd2 := fun Q => (bunGood_ok b _ _ h5 ((hp2.grow g3).grow g35) ((hd2.grow g3).grow g35) few.n pok few.last).mono (Q' := Q)
  rw [hbc] at gd2
  simp (maxSteps := 10000000) (disch := omega) only [vqA, tagOf, reduceIte, reduceCtorEq, reduceEqDiff, reduceAdd, reduceSub, reduceMul, reduceLT, reduceLeDiff, reduceToNat, Nat.reduceBEq, tqA, q5]
  refine gd2 _ ?_
  rintro u h6 ⟨g6, rfl⟩
  have n6 := g6.next
  have m6 := (g6.get h.next (by omega)).trans m5
  have q6 := (g6.get h2.next (by omega)).trans q5
  have G6 := G5.trans g6
  have g36 := g35.trans g6
  have pl := fun Q => (plain_ok b _ _ h6 ((hp2.grow g3).grow g36) ((hd2.grow g3).grow g36) few).mono (Q' := Q)
  rw [hbc] at pl
  have eg : (goodBun b == goodBun b) = true := beq_self_eq_true _
  simp (maxSteps := 10000000) (disch := omega) only [vqA, tagOf, reduceIte, reduceCtorEq, reduceEqDiff, reduceAdd, reduceSub, reduceMul, reduceLT, reduceLeDiff, reduceToNat, Nat.reduceBEq, tqA, q5, q6, eg]
  refine pl _ ?_
  rintro u h7 ⟨g7, v7, w7, rfl, hp7, hd7⟩
  have m7 := (g7.get h.next (by omega)).trans m6
  have q7 := (g7.get h2.next (by omega)).trans q6
  have G7 := G6.trans g7
  have sm := fun Q => (refBunSame_ok b _ _ _ _ h7 hp7 hd7 (hp.grow G7) (hd.grow G7) few).mono (Q' := Q)
  rw [hbc, hbc] at sm
  rw [hbc]
  obtain ⟨av7, cv7, rfl⟩ := hp7.is
  obtain ⟨aw7, cw7, rfl⟩ := hd7.is
  simp (maxSteps := 10000000) (disch := omega) only [vqA, tagOf, reduceIte, reduceCtorEq, reduceEqDiff, reduceAdd, reduceSub, reduceMul, reduceLT, reduceLeDiff, reduceToNat, Nat.reduceBEq, tqA, q5, q6, q7, m5, m6, m7]
  refine sm _ ?_
  rintro u h8 ⟨g8, rfl⟩
  have n7 := g7.next
  have m8 := (g8.get h.next (by omega)).trans m7
  have q8 := (g8.get h2.next (by omega)).trans q7
  have G8 := G7.trans g8
  cases hg : goodBun b with
  | false =>
    rw [hg, if_neg (by decide)] at hq
    injection hq with hq
    injection hq with hq
    injection hq with h1' h2'
    injection h2' with h2' _
    subst h1' h2'
    simp (maxSteps := 10000000) (disch := omega) only [vqA, tagOf, reduceIte, reduceCtorEq, reduceEqDiff, reduceAdd, reduceSub, reduceMul, reduceLT, reduceLeDiff, reduceToNat, Nat.reduceBEq, tqA, q5, q6, q7, q8, m5, m6, m7, m8, is_err]
  | true =>
    rw [hg, if_pos rfl] at hq
    obtain ⟨x, e, hrow, _⟩ := hq
    injection e with e
    injection e with e
    injection e with h1' h2'
    injection h2' with h2' _
    subst h1' h2'
    have g48 : Grow h4 h8 := (((g5.trans g6).trans g7).trans g8)
    have hr8 := hrow.grow g48
    have hle := putBun_le hg
    obtain ⟨asl, csl, rfl⟩ := hrow.is
    simp (maxSteps := 10000000) (disch := omega) only [vqA, tagOf, reduceIte, reduceCtorEq, reduceEqDiff, reduceAdd, reduceSub, reduceMul, reduceLT, reduceLeDiff, reduceToNat, Nat.reduceBEq, tqA, q5, q6, q7, q8, m5, m6, m7, m8]
    refine (bunTake_ok _ (putBun b) h8 hr8 (by omega)).mono ?_
    rintro u h9 ⟨g9, x, y, rfl, ht⟩
    rcases ht with ⟨B, v9, w9, hB, hput, rfl, rfl, hp9, hd9⟩ | ⟨hno, _, _⟩
    · have hBb := putBun_inj hB hg hput
      subst hBb
      have n8 := g8.next
      have n9 := g9.next
      have m9 := (g9.get h.next (by omega)).trans m8
      have G9 := G8.trans g9
      rw [hbc]
      have hp9 := hp9.row
      have hd9 := hd9.row
      obtain ⟨av9, cv9, rfl⟩ := hp9.is
      obtain ⟨aw9, cw9, rfl⟩ := hd9.is
      obtain ⟨h10, e10⟩ : ∃ y, y = (h9.new (.cells [.int .i64 0, .slice none 0 0, .int .i64 0, .int .i64 0, .slice none 0 0] true none)).set h9.next (.cells [.int .i64 B.object, .slice av9 B.parts.length cv9, .int .i64 B.last.fr, .int .i64 B.last.to, .slice aw9 B.last.recs.length cw9] true none) := ⟨_, rfl⟩
      have g10 : Grow h9 h10 := by rw [e10]; exact (Grow.new h9 _).set (Nat.le_refl _) _
      have n10 : h10.next = h9.next + 1 := by rw [e10]; rfl
      have q10 : h10.get h9.next = some (.cells [.int .i64 B.object, .slice av9 B.parts.length cv9, .int .i64 B.last.fr, .int .i64 B.last.to, .slice aw9 B.last.recs.length cw9] true none) := by rw [e10, get_set_same]
      have m10 := (g10.get h.next (by omega)).trans m9
      have G10 := G9.trans g10
      have rp := fun Q => (refBunPut_ok B _ _ h10 (hp.grow G10) (hd.grow G10) hB).mono (Q' := Q)
      rw [hbc] at rp
      simp (maxSteps := 10000000) (disch := omega) only [vqA, tagOf, reduceIte, reduceCtorEq, reduceEqDiff, reduceAdd, reduceSub, reduceMul, reduceLT, reduceLeDiff, reduceToNat, Nat.reduceBEq, tqA, m9]
      rw [← e10]
      refine rp _ ?_
      rintro u k1 ⟨j1, hput1⟩
      have mk1 := (j1.get h.next (by omega)).trans m10
      have qk1 := (j1.get h9.next (by omega)).trans q10
      have K1 := G10.trans j1
      have hs1 : BRow k1 (.slice asl (putBun B).length csl) (putBun B) := hr8.grow ((g9.trans g10).trans j1)
      have sb := fun Q => sameB_ret (h := k1) hs1 hput1 Q
      obtain ⟨ap, cp, rfl⟩ := hput1.is
      have pl := fun Q => (plain_ok B _ _ k1 (hp9.grow (g10.trans j1)) (hd9.grow (g10.trans j1)) few).mono (Q' := Q)
      rw [hbc] at pl
      have nk1 := j1.next
      simp (maxSteps := 10000000) (disch := omega) only [vqA, tagOf, reduceIte, reduceCtorEq, reduceEqDiff, reduceAdd, reduceSub, reduceMul, reduceLT, reduceLeDiff, reduceToNat, Nat.reduceBEq, tqA, mk1, qk1, m10, q10, m9, sb]
      refine pl _ ?_
      rintro u k2 ⟨j2, vk, wk, rfl, hpk, hdk⟩
      have mk2 := (j2.get h.next (by omega)).trans mk1
      have qk2 := (j2.get h9.next (by omega)).trans qk1
      have K2 := K1.trans j2
      have sm := fun Q => (refBunSame_ok B _ _ _ _ k2 hpk hdk (hp.grow K2) (hd.grow K2) few).mono (Q' := Q)
      rw [hbc, hbc] at sm
      rw [hbc]
      obtain ⟨avk, cvk, rfl⟩ := hpk.is
      obtain ⟨awk, cwk, rfl⟩ := hdk.is
      simp (maxSteps := 10000000) (disch := omega) only [vqA, tagOf, reduceIte, reduceCtorEq, reduceEqDiff, reduceAdd, reduceSub, reduceMul, reduceLT, reduceLeDiff, reduceToNat, Nat.reduceBEq, tqA, mk1, qk1, m10, q10, m9, mk2, qk2, sb]
      refine sm _ ?_
      rintro u k3 ⟨j3, rfl⟩
      have nk2 := j2.next
      have mk3 := (j3.get h.next (by omega)).trans mk2
      have qk3 := (j3.get h9.next (by omega)).trans qk2
      simp (maxSteps := 10000000) (disch := omega) only [vqA, tagOf, reduceIte, reduceCtorEq, reduceEqDiff, reduceAdd, reduceSub, reduceMul, reduceLT, reduceLeDiff, reduceToNat, Nat.reduceBEq, tqA, mk1, qk1, m10, q10, m9, mk2, qk2, mk3, qk3]
    · exact absurd rfl (hno b hg)
end Go.Proofs.Ytdmakachnphddaa.C
