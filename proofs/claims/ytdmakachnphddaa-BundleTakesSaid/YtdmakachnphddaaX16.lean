/- X16: the law of what is taken: it answers true, whatever the bytes. -/
import Derived.Test.YtdmakachnphddaaX15
open Nat (reduceEqDiff reduceAdd reduceSub reduceMul reduceLT reduceLeDiff)
open Int (reduceToNat)
open Go Go.Vi Go.Bm
namespace Go.Proofs.Ytdmakachnphddaa.C
set_option linter.unusedSimpArgs false
set_option maxRecDepth 100000
set_option maxHeartbeats 40000000
theorem PNew.keep {base : Nat} {h h' : Heap} {v : Value} {ps : List Part} (x : PNew base h v ps) (hn : h.next ≤ h'.next) (g : ∀ c, base ≤ c → c < h.next → h'.get c = h.get c) : PNew base h' v ps := by
  obtain ⟨items, h1, h2, h4, h3⟩ := x
  exact ⟨items, h1, RowV.keep h2 hn fun c hc hlt => g c (h4 c hc) hlt, h4, fun p hp => DNew.keep (h3 p hp) hn g⟩
theorem few_of {B : Bun} (h : goodBun B = true) : FewB B := by
  have g := goodP_of h
  exact ⟨by have := g.n; omega, fun p hp => by have := (recs_fit (g.diff p hp)).1; omega, by have := (recs_fit g.last).1; omega⟩
theorem law_takes (x : Value) (l : List UInt8) (h : Heap) (hx : BRow h x l) : Ret E Fac_ [x] h (fun u _ => u = .bool true) := by
  refine ret_fun Ii_ (by simp) ?_
  unfold GY_
  have hbc : ∀ (b : Bun) (v w : Value), bunC b v w = [.int .i64 b.object, v, .int .i64 b.last.fr, .int .i64 b.last.to, w] := fun _ _ _ => rfl
  obtain ⟨a, c, rfl⟩ := hx.is
  by_cases hbig : (l.length : Int) > 8000
  · simp (maxSteps := 10000000) (disch := omega) only [vqA, tagOf, reduceIte, reduceCtorEq, reduceEqDiff, reduceAdd, reduceSub, reduceMul, reduceLT, reduceLeDiff, reduceToNat, Nat.reduceBEq, tqA, alive_ret]
  have hl : l.length ≤ 8000 := by omega
  simp (maxSteps := 10000000) (disch := omega) only [vqA, tagOf, reduceIte, reduceCtorEq, reduceEqDiff, reduceAdd, reduceSub, reduceMul, reduceLT, reduceLeDiff, reduceToNat, Nat.reduceBEq, tqA, alive_ret]
  refine (copyB_ok _ l h hx (by omega)).mono ?_
  rintro u h1 ⟨g1, rfl, n1, q1⟩
  have hc1 := copyB_row n1 q1 (l.length + 2) (by omega)
  simp (maxSteps := 10000000) (disch := omega) only [vqA, tagOf, reduceIte, reduceCtorEq, reduceEqDiff, reduceAdd, reduceSub, reduceMul, reduceLT, reduceLeDiff, reduceToNat, Nat.reduceBEq, tqA]
  refine (bunTake_ok _ l h1 hc1 (by omega)).mono ?_
  rintro u h2 ⟨g2, X, Y, rfl, ht⟩
  have n2 := g2.next
  obtain ⟨B, v2, w2, few, eX, hv2, hw2, hcase⟩ : ∃ B v2 w2, FewB B ∧ X = .agg ⟨bunC B v2 w2⟩ ∧ PNew h1.next h2 v2 B.parts ∧ DNew h1.next h2 w2 B.last.recs ∧ ((goodBun B = true ∧ putBun B = l ∧ Y = .nilIface) ∨ ((∀ B, goodBun B = true → putBun B ≠ l) ∧ B = ⟨0, [], ⟨0, 0, []⟩⟩ ∧ Y = .iface TA_ (.int .i64 2))) := by
    rcases ht with ⟨B, v, w, t1, t2, rfl, rfl, t3, t4⟩ | ⟨t1, rfl, rfl⟩
    · exact ⟨B, v, w, few_of t1, rfl, t3, t4, .inl ⟨t1, t2, rfl⟩⟩
    · exact ⟨⟨0, [], ⟨0, 0, []⟩⟩, _, _, ⟨by decide, (fun p hp => by cases hp), by decide⟩, rfl, ⟨[], rfl, .nil _ 5, (fun b hb => by cases hb), fun p hp => by cases hp⟩, ⟨[], rfl, .nil _ 4, (fun b hb => by cases hb), fun p hp => by cases hp⟩, .inr ⟨t1, rfl, rfl⟩⟩
  subst eX
  rw [hbc]
  obtain ⟨av, cv, rfl⟩ := hv2.row.is
  obtain ⟨aw, cw, rfl⟩ := hw2.row.is
  obtain ⟨h3, e3⟩ : ∃ y, y = (h2.new (.cells [.int .i64 0, .slice none 0 0, .int .i64 0, .int .i64 0, .slice none 0 0] true none)).set h2.next (.cells [.int .i64 B.object, .slice av B.parts.length cv, .int .i64 B.last.fr, .int .i64 B.last.to, .slice aw B.last.recs.length cw] true none) := ⟨_, rfl⟩
  have g3 : Grow h2 h3 := by rw [e3]; exact (Grow.new h2 _).set (Nat.le_refl _) _
  have n3 : h3.next = h2.next + 1 := by rw [e3]; rfl
  have p3 : h3.get h2.next = some (.cells [.int .i64 B.object, .slice av B.parts.length cv, .int .i64 B.last.fr, .int .i64 B.last.to, .slice aw B.last.recs.length cw] true none) := by rw [e3, get_set_same]
  have G3 := (g1.trans g2).trans g3
  simp (maxSteps := 10000000) (disch := omega) only [vqA, tagOf, reduceIte, reduceCtorEq, reduceEqDiff, reduceAdd, reduceSub, reduceMul, reduceLT, reduceLeDiff, reduceToNat, Nat.reduceBEq, tqA]
  rw [← e3]
  refine (refBunTake_ok _ l h3 (hx.grow G3) (by omega)).mono ?_
  rintro u h4 ⟨g4, X4, Y4, rfl, ht4⟩
  have n4 := g4.next
  obtain ⟨v4, w4, eX4, hv4, hw4, hcase4⟩ : ∃ v4 w4, X4 = .agg ⟨bunC B v4 w4⟩ ∧ PNew h3.next h4 v4 B.parts ∧ DNew h3.next h4 w4 B.last.recs ∧ ((Y = .nilIface ∧ Y4 = .bool true) ∨ (Y = .iface TA_ (.int .i64 2) ∧ Y4 = .bool false)) := by
    rcases ht4 with ⟨B4, v, w, t1, t2, rfl, rfl, t3, t4⟩ | ⟨t1, rfl, rfl⟩
    · rcases hcase with ⟨c1, c2, c3⟩ | ⟨c1, _, _⟩
      · have e : B4 = B := putBun_inj t1 c1 (t2.trans c2.symm)
        subst e
        exact ⟨v, w, rfl, t3, t4, .inl ⟨c3, rfl⟩⟩
      · exact absurd t2 (c1 _ t1)
    · rcases hcase with ⟨c1, c2, c3⟩ | ⟨c1, c2, c3⟩
      · exact absurd c2 (t1 _ c1)
      · subst c2
        exact ⟨_, _, rfl, ⟨[], rfl, .nil _ 5, (fun b hb => by cases hb), fun p hp => by cases hp⟩, ⟨[], rfl, .nil _ 4, (fun b hb => by cases hb), fun p hp => by cases hp⟩, .inr ⟨c3, rfl⟩⟩
  subst eX4
  rw [hbc]
  obtain ⟨av4, cv4, rfl⟩ := hv4.row.is
  obtain ⟨aw4, cw4, rfl⟩ := hw4.row.is
  obtain ⟨h5, e5⟩ : ∃ y, y = (h4.new (.cells [.int .i64 0, .slice none 0 0, .int .i64 0, .int .i64 0, .slice none 0 0] true none)).set h4.next (.cells [.int .i64 B.object, .slice av4 B.parts.length cv4, .int .i64 B.last.fr, .int .i64 B.last.to, .slice aw4 B.last.recs.length cw4] true none) := ⟨_, rfl⟩
  have g5 : Grow h4 h5 := by rw [e5]; exact (Grow.new h4 _).set (Nat.le_refl _) _
  have n5 : h5.next = h4.next + 1 := by rw [e5]; rfl
  have r5 : h5.get h4.next = some (.cells [.int .i64 B.object, .slice av4 B.parts.length cv4, .int .i64 B.last.fr, .int .i64 B.last.to, .slice aw4 B.last.recs.length cw4] true none) := by rw [e5, get_set_same]
  have p5 := ((g4.trans g5).get h2.next (by omega)).trans p3
  have G5 := (G3.trans g4).trans g5
  have q5 := (((g2.trans g3).trans (g4.trans g5)).get h.next n1).trans q1
  have kp := fun Q => kept_ok _ l h.next h5 (hx.grow G5) (by omega) (by omega) q5 Q
  simp (maxSteps := 10000000) (disch := omega) only [vqA, tagOf, reduceIte, reduceCtorEq, reduceEqDiff, reduceAdd, reduceSub, reduceMul, reduceLT, reduceLeDiff, reduceToNat, Nat.reduceBEq, tqA]
  rw [← e5]
  simp (maxSteps := 10000000) (disch := omega) only [vqA, tagOf, reduceIte, reduceCtorEq, reduceEqDiff, reduceAdd, reduceSub, reduceMul, reduceLT, reduceLeDiff, reduceToNat, Nat.reduceBEq, tqA, kp]
  refine (over_ok l h.next _ h5 (by omega) q5).mono ?_
  rintro u h6 d6
  have n6 := d6.next
  have p6 := (d6.get h2.next (by omega) (by omega) (by omega)).trans p5
  have r6 := (d6.get h4.next (by omega) (by omega) (by omega)).trans r5
  have g24 := (g3.trans g4).trans g5
  have hv6 : PNew h1.next h6 (.slice av B.parts.length cv) B.parts := PNew.keep hv2 (by omega) fun c q1 q2 => (d6.get c (by omega) (by omega) (by omega)).trans (g24.get c q2)
  have hw6 : DNew h1.next h6 (.slice aw B.last.recs.length cw) B.last.recs := DNew.keep hw2 (by omega) fun c q1 q2 => (d6.get c (by omega) (by omega) (by omega)).trans (g24.get c q2)
  have hv46 : PNew h3.next h6 (.slice av4 B.parts.length cv4) B.parts := PNew.keep hv4 (by omega) fun c q1 q2 => (d6.get c (by omega) (by omega) (by omega)).trans (g5.get c q2)
  have hw46 : DNew h3.next h6 (.slice aw4 B.last.recs.length cw4) B.last.recs := DNew.keep hw4 (by omega) fun c q1 q2 => (d6.get c (by omega) (by omega) (by omega)).trans (g5.get c q2)
  have pl := fun Q => (plain_ok B _ _ h6 hv6.row hw6.row few).mono (Q' := Q)
  rw [hbc] at pl
  rcases hcase4 with ⟨rfl, rfl⟩ | ⟨rfl, rfl⟩ <;> (
    simp (maxSteps := 10000000) (disch := omega) only [vqA, tagOf, reduceIte, reduceCtorEq, reduceEqDiff, reduceAdd, reduceSub, reduceMul, reduceLT, reduceLeDiff, reduceToNat, Nat.reduceBEq, tqA, p6, r6, is_err]
    refine pl _ ?_
    rintro u h7 ⟨g7, v7, w7, rfl, hp7, hd7⟩
    have p7 := (g7.get h2.next (by omega)).trans p6
    have r7 := (g7.get h4.next (by omega)).trans r6
    have sm := fun Q => (refBunSame_ok B _ _ _ _ h7 hp7 hd7 (hv46.row.grow g7) (hw46.row.grow g7) few).mono (Q' := Q)
    rw [hbc, hbc] at sm
    rw [hbc]
    obtain ⟨av7, cv7, rfl⟩ := hp7.is
    obtain ⟨aw7, cw7, rfl⟩ := hd7.is
    have n7 := g7.next
    simp (maxSteps := 10000000) (disch := omega) only [vqA, tagOf, reduceIte, reduceCtorEq, reduceEqDiff, reduceAdd, reduceSub, reduceMul, reduceLT, reduceLeDiff, reduceToNat, Nat.reduceBEq, tqA, p6, r6, p7, r7, is_err]
    refine sm _ ?_
    rintro u h8 ⟨g8, rfl⟩
    have p8 := (g8.get h2.next (by omega)).trans p7
    have r8 := (g8.get h4.next (by omega)).trans r7
    simp (maxSteps := 10000000) (disch := omega) only [vqA, tagOf, reduceIte, reduceCtorEq, reduceEqDiff, reduceAdd, reduceSub, reduceMul, reduceLT, reduceLeDiff, reduceToNat, Nat.reduceBEq, tqA, p6, r6, p7, r7, p8, r8, is_err])
end Go.Proofs.Ytdmakachnphddaa.C
