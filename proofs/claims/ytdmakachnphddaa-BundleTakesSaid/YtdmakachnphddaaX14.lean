/- X14: a bundle is the same as itself. -/
import Derived.Test.YtdmakachnphddaaX13
import Derived.Test.YtdmakachnphddaaMa
open Nat (reduceEqDiff reduceAdd reduceSub reduceMul reduceLT reduceLeDiff)
open Int (reduceToNat)
open Go Go.Vi Go.Bm
namespace Go.Proofs.Ytdmakachnphddaa.C
set_option linter.unusedSimpArgs false
set_option maxRecDepth 100000
set_option maxHeartbeats 40000000
theorem refBunSame_ok (b : Bun) (v w v2 w2 : Value) (h : Heap) (hp : PRow h v b.parts) (hd : DRow h w b.last.recs) (hp2 : PRow h v2 b.parts) (hd2 : DRow h w2 b.last.recs) (fb : FewB b) :
    Ret E F4_ [.agg ⟨bunC b v w⟩, .agg ⟨bunC b v2 w2⟩] h (fun u h' => Grow h h' ∧ u = .bool true) := by
  refine ret_fun Il_ (by simp) ?_
  unfold Gf_
  have hbc : ∀ v w, bunC b v w = [.int .i64 b.object, v, .int .i64 b.last.fr, .int .i64 b.last.to, w] := fun _ _ => rfl
  rw [hbc, hbc]
  have hdc : ∀ (d : Dif) (w : Value), difC d w = [.int .i64 d.fr, .int .i64 d.to, w] := fun _ _ => rfl
  obtain ⟨av, cv, rfl⟩ := hp.is
  obtain ⟨aw, cw, rfl⟩ := hd.is
  obtain ⟨av2, cv2, rfl⟩ := hp2.is
  obtain ⟨aw2, cw2, rfl⟩ := hd2.is
  obtain ⟨h0, e0⟩ : ∃ y, y = (h.new (.cells [.int .i64 b.object, .slice av b.parts.length cv, .int .i64 b.last.fr, .int .i64 b.last.to, .slice aw b.last.recs.length cw] true none)).new (.cells [.int .i64 b.object, .slice av2 b.parts.length cv2, .int .i64 b.last.fr, .int .i64 b.last.to, .slice aw2 b.last.recs.length cw2] true none) := ⟨_, rfl⟩
  have g0 : Grow h h0 := by rw [e0]; exact (Grow.new h _).more _
  have n0 : h0.next = h.next + 2 := by rw [e0]; rfl
  have m0 : h0.get h.next = some (.cells [.int .i64 b.object, .slice av b.parts.length cv, .int .i64 b.last.fr, .int .i64 b.last.to, .slice aw b.last.recs.length cw] true none) := by rw [e0, get_new_ne (by show h.next ≠ h.next + 1; omega), get_new_same]
  have s0 : h0.get (h.next + 1) = some (.cells [.int .i64 b.object, .slice av2 b.parts.length cv2, .int .i64 b.last.fr, .int .i64 b.last.to, .slice aw2 b.last.recs.length cw2] true none) := by rw [e0]; exact get_new_same _ _
  have go := fun Q => (refSame_ok b.last _ _ h0 (hd.grow g0) (hd2.grow g0) fb.last).mono (Q' := Q)
  rw [hdc, hdc] at go
  have hLn := fb.n
  simp (maxSteps := 10000000) (disch := omega) only [vqA, tagOf, reduceIte, reduceCtorEq, reduceEqDiff, reduceAdd, reduceSub, reduceMul, reduceLT, reduceLeDiff, reduceToNat, Nat.reduceBEq, tqA]
  rw [← e0]
  refine go _ ?_
  rintro u h1 ⟨g1, rfl⟩
  have n1 := g1.next
  simp (maxSteps := 10000000) (disch := omega) only [vqA, tagOf, reduceIte, reduceCtorEq, reduceEqDiff, reduceAdd, reduceSub, reduceMul, reduceLT, reduceLeDiff, reduceToNat, Nat.reduceBEq, tqA]
  refine r_loop (k := b.parts.length) (fun k ρ h' => ∃ (i : Nat), i + k = b.parts.length ∧ ρ 2 = .pointer (some ⟨h.next, 0, none⟩) ∧ ρ 3 = .pointer (some ⟨h.next + 1, 0, none⟩) ∧ ρ 5 = .int .i64 (i : Int) ∧ Grow h0 h') ?_ ?_
  · rintro k ρ h' ⟨i, hk, r2, r3, r5, gr⟩
    unfold Gu_
    have m1 := (gr.get h.next (by omega)).trans m0
    have s1 := (gr.get (h.next + 1) (by omega)).trans s0
    have gh := g0.trans gr
    have hn' := gr.next
    rcases Nat.lt_or_ge i b.parts.length with hi | hi
    · have hr : b.parts[i]? = some b.parts[i] := List.getElem?_eq_getElem hi
      have hne : b.parts ≠ [] := fun e => by rw [e] at hi; simp at hi
      obtain ⟨bb, o, c', he, hb, hel⟩ := hp.elems hne
      cases he
      obtain ⟨bb2, o2, c2', he2, hb2, hel2⟩ := hp2.elems hne
      cases he2
      obtain ⟨dv, hc, hdr⟩ := hel i _ hr
      obtain ⟨ad, cd, rfl⟩ := hdr.is
      obtain ⟨dv2, hc2, hdr2⟩ := hel2 i _ hr
      obtain ⟨ad2, cd2, rfl⟩ := hdr2.is
      rw [← gh.get bb hb] at hc
      rw [← gh.get bb2 hb2] at hc2
      have hff := fb.diff _ (List.getElem_mem hi)
      generalize b.parts[i] = q at hr hc hdr hc2 hdr2 hff
      obtain ⟨hB, eB⟩ : ∃ y, y = (((h'.new (.cells [.string (strOf []), .bool false, .int .i64 0, .int .i64 0, .slice none 0 0] true none)).set h'.next (.cells [.string (strOf q.name), .bool q.prot, .int .i64 q.diff.fr, .int .i64 q.diff.to, .slice ad q.diff.recs.length cd] true none)).new (.cells [.string (strOf []), .bool false, .int .i64 0, .int .i64 0, .slice none 0 0] true none)).set (h'.next + 1) (.cells [.string (strOf q.name), .bool q.prot, .int .i64 q.diff.fr, .int .i64 q.diff.to, .slice ad2 q.diff.recs.length cd2] true none) := ⟨_, rfl⟩
      have gB : Grow h' hB := by rw [eB]; exact (((Grow.new h' _).set (Nat.le_refl _) _).more _).set (by omega) _
      have go := fun Q => (refSame_ok q.diff _ _ hB (hdr.grow (gh.trans gB)) (hdr2.grow (gh.trans gB)) hff).mono (Q' := Q)
      rw [hdc, hdc] at go
      have e1 : (q.name == q.name) = true := beq_self_eq_true _
      have e2 : (q.prot == q.prot) = true := beq_self_eq_true _
      simp (maxSteps := 10000000) (disch := omega) only [vqA, tagOf, reduceIte, reduceCtorEq, reduceEqDiff, reduceAdd, reduceSub, reduceMul, reduceLT, reduceLeDiff, reduceToNat, Nat.reduceBEq, tqA, r2, r3, r5, m1, s1, hc, hc2, e1, e2]
      rw [← eB]
      refine go _ ?_
      rintro u h4 ⟨g4, rfl⟩
      simp (maxSteps := 10000000) (disch := omega) only [vqA, tagOf, reduceIte, reduceCtorEq, reduceEqDiff, reduceAdd, reduceSub, reduceMul, reduceLT, reduceLeDiff, reduceToNat, Nat.reduceBEq, tqA, r2, r3, r5]
      exact ⟨k - 1, by omega, i + 1, by omega, rfl, (gr.trans gB).trans g4⟩
    · simp (maxSteps := 10000000) (disch := omega) only [vqA, tagOf, reduceIte, reduceCtorEq, reduceEqDiff, reduceAdd, reduceSub, reduceMul, reduceLT, reduceLeDiff, reduceToNat, Nat.reduceBEq, tqA, r2, r3, r5, m1]
      exact gh
  · exact ⟨0, by omega, by simp (maxSteps := 10000000) (disch := omega) only [vqA, tagOf, reduceIte, reduceCtorEq, reduceEqDiff, reduceAdd, reduceSub, reduceMul, reduceLT, reduceLeDiff, reduceToNat, Nat.reduceBEq, tqA], by simp (maxSteps := 10000000) (disch := omega) only [vqA, tagOf, reduceIte, reduceCtorEq, reduceEqDiff, reduceAdd, reduceSub, reduceMul, reduceLT, reduceLeDiff, reduceToNat, Nat.reduceBEq, tqA], by simp (maxSteps := 10000000) (disch := omega) only [vqA, tagOf, reduceIte, reduceCtorEq, reduceEqDiff, reduceAdd, reduceSub, reduceMul, reduceLT, reduceLeDiff, reduceToNat, Nat.reduceBEq, tqA]; rfl, g1⟩
end Go.Proofs.Ytdmakachnphddaa.C
