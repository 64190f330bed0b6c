/- U20: the law of printing: it answers true, whatever the operation. -/
import Derived.Test.YtkloflhiipebmaaDoorU19
open Go Go.Vi Go.Tk
namespace Go.Proofs.YtkloflhiipebmaaDoor.C
set_option linter.unusedSimpArgs false
set_option maxRecDepth 100000
set_option maxHeartbeats 40000000
theorem print_line {c : Int} {o : TOp} {l : List UInt8} (h : printT c o = some l) : parseT l = some (c, o) ∧ l = lineR c o := by
  unfold printT at h
  split at h
  · rename_i v hv
    split at h
    · rename_i hp
      cases h
      exact ⟨hp, (lineR_is hv).symm⟩
    · cases h
  · cases h
def RPrintQ (c : Int) (o : TOp) (v : Value) : Prop := v = match printT c o with
  | some l => .tuple ⟨[.string (strOf l), .bool true]⟩
  | none => .tuple ⟨[.string (strOf []), .bool false]⟩
theorem rprint_some {c : Int} {o : TOp} {l : List UInt8} (h : printT c o = some l) : RPrintQ c o (.tuple ⟨[.string (strOf l), .bool true]⟩) := by unfold RPrintQ; rw [h]
theorem rprint_none {c : Int} {o : TOp} (h : printT c o = none) : RPrintQ c o (.tuple ⟨[.string (strOf []), .bool false]⟩) := by unfold RPrintQ; rw [h]
theorem refPrint_ok (c : Int) (o : TOp) (d : Value) (h : Heap) (hc : inR c) (ok : OpOk o) (hd : RowG h d o.data) : Ret E f_laminaref25_Print [.int .i64 c, .agg ⟨opC o d⟩] h (fun v h' => Grow h h' ∧ RPrintQ c o v) := by
  have hl := lineR_len hc ok
  have hpr := printR_is c o
  have ps := fun l => rprint_some (c := c) (o := o) (l := l)
  have pn := rprint_none (c := c) (o := o)
  generalize RPrintQ c o = P at ps pn ⊢
  refine ret_fun is_laminaref25_Print (by simp) ?_
  have hone : oneCell d = true := by rcases hd with ⟨rfl, _⟩ | ⟨b, o', cc, row, w, p, _, rfl, _⟩ <;> rfl
  unfold g_laminaref25_Print
  have ho0 : opC o d = opC o d := rfl
  conv at ho0 => rhs; unfold opC
  have gn : ∀ b1 : Blk, Grow h (h.new b1) := fun b1 => Grow.new h b1
  rw [ho0]
  simp (maxSteps := 10000000) (disch := omega) only [vq0, vq1, vq2, vq3, vq4, vq5, tagOf, reduceIte, reduceCtorEq, Nat.reduceEqDiff, Nat.reduceAdd, Nat.reduceSub, Nat.reduceMul, Nat.reduceLT, Nat.reduceLeDiff, Int.reduceToNat, Nat.reduceBEq, tq1, tq2, tq3, hone]
  rw [← ho0]
  refine (refLine_ok c o d _ hc ok (hd.grow (gn _))).mono ?_
  rintro v1 h1 ⟨g1, rfl⟩
  have g01 := (gn (.cells (opC o d) true none)).trans g1
  have p1 := g1.get h.next (Nat.lt_succ_self _)
  rw [get_new_same] at p1
  have hn1 : h.next + 1 ≤ h1.next := g1.next
  simp (maxSteps := 10000000) (disch := omega) only [vq0, vq1, vq2, vq3, vq4, vq5, tagOf, reduceIte, reduceCtorEq, Nat.reduceEqDiff, Nat.reduceAdd, Nat.reduceSub, Nat.reduceMul, Nat.reduceLT, Nat.reduceLeDiff, Int.reduceToNat, Nat.reduceBEq, tq1, tq2, tq3]
  refine (refParse_ok (lineR c o) (by omega) h1).mono ?_
  rintro v2 h2 ⟨g2, q2⟩
  unfold RefQ at q2
  have p2 := g2.get h.next (by omega)
  rw [p1] at p2
  have hn2 := g2.next
  cases hp : parseT (lineR c o) with
  | none =>
    rw [hp] at q2 hpr
    subst q2
    rw [if_neg (by simp)] at hpr
    have e := pn hpr.symm
    unfold zC
    simp (maxSteps := 10000000) (disch := omega) only [vq0, vq1, vq2, vq3, vq4, vq5, tagOf, reduceIte, reduceCtorEq, Nat.reduceEqDiff, Nat.reduceAdd, Nat.reduceSub, Nat.reduceMul, Nat.reduceLT, Nat.reduceLeDiff, Int.reduceToNat, Nat.reduceBEq, tq1, tq2, tq3]
    exact ⟨((g01.trans g2).trans (Grow.new h2 _)).set (by omega) _, e⟩
  | some q =>
    obtain ⟨c2, o2⟩ := q
    rw [hp] at q2 hpr
    obtain ⟨d2, rfl, hd2⟩ := q2
    have hone2 : oneCell d2 = true := by rcases hd2 with ⟨rfl, _⟩ | ⟨_, _, rfl, _⟩ <;> rfl
    have gx : ∀ b x, Grow h2 ((h2.new b).set h2.next x) := fun b x => (Grow.new h2 b).set (Nat.le_refl _) x
    have gx0 : ∀ b x, Grow h ((h2.new b).set h2.next x) := fun b x => (g01.trans g2).trans (gx b x)
    have hs0 : opC o2 d2 = opC o2 d2 := rfl
    conv at hs0 => rhs; unfold opC
    rw [hs0]
    by_cases hcc : c2 = c
    · subst hcc
      unfold opC at p2
      simp (maxSteps := 10000000) (disch := omega) only [vq0, vq1, vq2, vq3, vq4, vq5, tagOf, reduceIte, reduceCtorEq, Nat.reduceEqDiff, Nat.reduceAdd, Nat.reduceSub, Nat.reduceMul, Nat.reduceLT, Nat.reduceLeDiff, Int.reduceToNat, Nat.reduceBEq, tq1, tq2, tq3, hone2, p2]
      rw [← ho0, ← hs0]
      refine (refSame_ok o2 o d2 d _ (hd2.g.grow (gx _ _)) (hd.grow (gx0 _ _))).mono ?_
      rintro v3 h3 ⟨g3, rfl⟩
      by_cases e : o2 = o
      · subst e
        rw [if_pos rfl] at hpr
        have e := ps _ hpr.symm
        simp (maxSteps := 10000000) (disch := omega) only [vq0, vq1, vq2, vq3, vq4, vq5, tagOf, reduceIte, reduceCtorEq, Nat.reduceEqDiff, Nat.reduceAdd, Nat.reduceSub, Nat.reduceMul, Nat.reduceLT, Nat.reduceLeDiff, Int.reduceToNat, Nat.reduceBEq, tq1, tq2, tq3, decide_true]
        exact ⟨(gx0 _ _).trans g3, e⟩
      · rw [if_neg (by rintro ⟨⟩; exact e rfl)] at hpr
        have e' := pn hpr.symm
        have dt : decide (o2 = o) = false := decide_eq_false e
        simp (maxSteps := 10000000) (disch := omega) only [vq0, vq1, vq2, vq3, vq4, vq5, tagOf, reduceIte, reduceCtorEq, Nat.reduceEqDiff, Nat.reduceAdd, Nat.reduceSub, Nat.reduceMul, Nat.reduceLT, Nat.reduceLeDiff, Int.reduceToNat, Nat.reduceBEq, tq1, tq2, tq3, dt]
        exact ⟨(gx0 _ _).trans g3, e'⟩
    · rw [if_neg (by rintro ⟨⟩; exact hcc rfl)] at hpr
      have e' := pn hpr.symm
      simp (maxSteps := 10000000) (disch := omega) only [vq0, vq1, vq2, vq3, vq4, vq5, tagOf, reduceIte, reduceCtorEq, Nat.reduceEqDiff, Nat.reduceAdd, Nat.reduceSub, Nat.reduceMul, Nat.reduceLT, Nat.reduceLeDiff, Int.reduceToNat, Nat.reduceBEq, tq1, tq2, tq3, hone2]
      exact ⟨gx0 _ _, e'⟩
structure OpIn (o : TOp) : Prop where
  kind : inR o.kind
  at_ : inR o.at_
  len : inR o.len
  size : inR o.size
  object : inR o.object
theorem law_prints (c : Int) (o : TOp) (d : Value) (h : Heap) (hc : inR c) (hi : OpIn o) (hd : RowG h d o.data) : Ret E f_laminalaw25_TalkPrints [.int .i64 c, .agg ⟨opC o d⟩] h (fun v _ => v = .bool true) := by
  have hone : oneCell d = true := by rcases hd with ⟨rfl, _⟩ | ⟨b, o', cc, row, w, p, _, rfl, _⟩ <;> rfl
  refine ret_fun is_laminalaw25_TalkPrints (by simp) ?_
  unfold g_laminalaw25_TalkPrints
  have ho0 : opC o d = opC o d := rfl
  conv at ho0 => rhs; unfold opC
  have hof : ∀ d, opC o d = [.int .i64 o.kind, .string (strOf o.image), .string (strOf o.snap), .string (strOf o.snap2), .string (strOf o.parent), .int .i64 o.at_, .int .i64 o.len, .int .i64 o.size, .int .i64 o.object, d, .bool o.on] := fun d => rfl
  have gn : ∀ b1 : Blk, Grow h (h.new b1) := fun b1 => Grow.new h b1
  rw [ho0]
  simp (maxSteps := 10000000) (disch := omega) only [vq0, vq1, vq2, vq3, vq4, vq5, tagOf, reduceIte, reduceCtorEq, Nat.reduceEqDiff, Nat.reduceAdd, Nat.reduceSub, Nat.reduceMul, Nat.reduceLT, Nat.reduceLeDiff, Int.reduceToNat, Nat.reduceBEq, tq1, tq2, tq3, hone, alive_ret]
  rw [← ho0]
  refine (wide_ok o d _ (hd.grow (gn _))).mono ?_
  rintro v1 h1 ⟨g1, q1⟩
  have g01 := (gn (.cells (opC o d) true none)).trans g1
  have p1 := g1.get h.next (Nat.lt_succ_self _)
  rw [get_new_same] at p1
  have hn1 : h.next + 1 ≤ h1.next := g1.next
  rcases q1 with rfl | ⟨rfl, fit⟩
  · simp (maxSteps := 10000000) (disch := omega) only [vq0, vq1, vq2, vq3, vq4, vq5, tagOf, reduceIte, reduceCtorEq, Nat.reduceEqDiff, Nat.reduceAdd, Nat.reduceSub, Nat.reduceMul, Nat.reduceLT, Nat.reduceLeDiff, Int.reduceToNat, Nat.reduceBEq, tq1, tq2, tq3]
  obtain ⟨f1, f2, f3, f4, f5⟩ := fit
  have ok : OpOk o := ⟨by omega, by omega, by omega, by omega, by omega, hi.at_, hi.len, hi.size, hi.object, hi.kind⟩
  rw [ho0] at p1
  simp (maxSteps := 10000000) (disch := omega) only [vq0, vq1, vq2, vq3, vq4, vq5, tagOf, reduceIte, reduceCtorEq, Nat.reduceEqDiff, Nat.reduceAdd, Nat.reduceSub, Nat.reduceMul, Nat.reduceLT, Nat.reduceLeDiff, Int.reduceToNat, Nat.reduceBEq, tq1, tq2, tq3, p1, hone]
  have gc : ∀ b x, Grow h1 ((h1.new b).set h1.next x) := fun b x => (Grow.new h1 b).set (Nat.le_refl _) x
  refine (copy_ok d o.data _ (hd.grow (g01.trans (gc _ _))) f1).mono ?_
  rintro v2 h2 ⟨g2, b, hb1, hb2, rfl, hgb⟩
  have gt1 : ∀ b x, ((h1.new b).set h1.next x).next = h1.next + 1 := fun _ _ => rfl
  rw [gt1] at hb1
  have hn2 : h1.next + 1 ≤ h2.next := g2.next
  have p2 := ((gc _ _).trans g2).get h.next (by omega)
  rw [p1] at p2
  have p3 := g2.get h1.next (Nat.lt_succ_self _)
  rw [get_set_same] at p3
  have hrow : ∀ x, RowG (h2.set h1.next x) (.slice (some ⟨b, 0, none⟩) o.data.length (o.data.length + 2)) o.data := fun x =>
    .inr ⟨b, 0, _, _, _, _, hb2, rfl, by rw [get_set_ne (by omega)]; exact hgb, by simp, by rw [List.drop_zero, List.take_left' (by simp)]⟩
  have g12 : Grow h1 h2 := (gc _ _).trans g2
  have gs : ∀ x, Grow h (h2.set h1.next x) := fun x => (g01.trans g12).set (by omega) x
  simp (maxSteps := 10000000) (disch := omega) only [vq0, vq1, vq2, vq3, vq4, vq5, tagOf, reduceIte, reduceCtorEq, Nat.reduceEqDiff, Nat.reduceAdd, Nat.reduceSub, Nat.reduceMul, Nat.reduceLT, Nat.reduceLeDiff, Int.reduceToNat, Nat.reduceBEq, tq1, tq2, tq3, p2, p3, hone]
  have hof2 := hof (.slice (some ⟨b, 0, none⟩) o.data.length (o.data.length + 2))
  rw [← hof2]
  refine (print_ok c o (.slice (some ⟨b, 0, none⟩) o.data.length (o.data.length + 2)) _ hc ok (hrow _)).mono ?_
  rintro v3 h3 ⟨g3, q3⟩
  have g03 : Grow h h3 := (gs _).trans g3
  have hn3 : h2.next ≤ h3.next := g3.next
  have p4 : h3.get h.next = some (.cells (opC o d) true none) := by
    rw [g3.get h.next (show h.next < h2.next by omega), get_set_ne (by omega), p2, ho0]
  have p5 : h3.get h1.next = some (.cells (opC o (.slice (some ⟨b, 0, none⟩) o.data.length (o.data.length + 2))) true none) := by
    rw [g3.get h1.next (show h1.next < h2.next by omega), get_set_same]
  have p6 : h3.get b = some (.cells (o.data.map byteV ++ [.int .u8 165, .int .u8 90]) true none) := by
    rw [g3.get b (show b < h2.next by omega), get_set_ne (by omega)]
    exact hgb
  have p4' := p4
  rw [ho0] at p4
  rw [hof2] at p5
  unfold PrintQ at q3
  cases hp : printT c o with
  | none =>
    rw [hp] at q3
    subst q3
    simp (maxSteps := 10000000) (disch := omega) only [vq0, vq1, vq2, vq3, vq4, vq5, tagOf, reduceIte, reduceCtorEq, Nat.reduceEqDiff, Nat.reduceAdd, Nat.reduceSub, Nat.reduceMul, Nat.reduceLT, Nat.reduceLeDiff, Int.reduceToNat, Nat.reduceBEq, tq1, tq2, tq3, p4, hone]
    rw [← ho0]
    refine (refPrint_ok c o d h3 hc ok (hd.grow g03)).mono ?_
    rintro v4 h4 ⟨g4, q4⟩
    unfold RPrintQ at q4
    rw [hp] at q4
    subst q4
    have k4 : h4.get h.next = _ := (g4.get h.next (by omega)).trans p4
    have k5 : h4.get h1.next = _ := (g4.get h1.next (by omega)).trans p5
    have k6 : h4.get b = _ := (g4.get b (by omega)).trans p6
    have e0 : (([] : List UInt8) == []) = true := rfl
    simp (maxSteps := 10000000) (disch := omega) only [vq0, vq1, vq2, vq3, vq4, vq5, tagOf, reduceIte, reduceCtorEq, Nat.reduceEqDiff, Nat.reduceAdd, Nat.reduceSub, Nat.reduceMul, Nat.reduceLT, Nat.reduceLeDiff, Int.reduceToNat, Nat.reduceBEq, tq1, tq2, tq3, k4, k5, is_form, e0]
    refine (kept_ok b d o.data h4 k6 (hd.grow (g03.trans g4)) f1).mono ?_
    rintro v5 h5 ⟨rfl, rfl⟩
    simp (maxSteps := 10000000) (disch := omega) only [vq0, vq1, vq2, vq3, vq4, vq5, tagOf, reduceIte, reduceCtorEq, Nat.reduceEqDiff, Nat.reduceAdd, Nat.reduceSub, Nat.reduceMul, Nat.reduceLT, Nat.reduceLeDiff, Int.reduceToNat, Nat.reduceBEq, tq1, tq2, tq3]
  | some l =>
    rw [hp] at q3
    subst q3
    obtain ⟨hpl, hll⟩ := print_line hp
    have hlen := lineR_len hc ok
    rw [← hll] at hlen
    simp (maxSteps := 10000000) (disch := omega) only [vq0, vq1, vq2, vq3, vq4, vq5, tagOf, reduceIte, reduceCtorEq, Nat.reduceEqDiff, Nat.reduceAdd, Nat.reduceSub, Nat.reduceMul, Nat.reduceLT, Nat.reduceLeDiff, Int.reduceToNat, Nat.reduceBEq, tq1, tq2, tq3, p4, hone]
    rw [← ho0]
    refine (refPrint_ok c o d h3 hc ok (hd.grow g03)).mono ?_
    rintro v4 h4 ⟨g4, q4⟩
    unfold RPrintQ at q4
    rw [hp] at q4
    subst q4
    have k4 : h4.get h.next = _ := (g4.get h.next (by omega)).trans p4
    have k5 : h4.get h1.next = _ := (g4.get h1.next (by omega)).trans p5
    have k6 : h4.get b = _ := (g4.get b (by omega)).trans p6
    have e0 : (l == l) = true := beq_self_eq_true _
    simp (maxSteps := 10000000) (disch := omega) only [vq0, vq1, vq2, vq3, vq4, vq5, tagOf, reduceIte, reduceCtorEq, Nat.reduceEqDiff, Nat.reduceAdd, Nat.reduceSub, Nat.reduceMul, Nat.reduceLT, Nat.reduceLeDiff, Int.reduceToNat, Nat.reduceBEq, tq1, tq2, tq3, k4, k5, e0]
    refine (kept_ok b d o.data h4 k6 (hd.grow (g03.trans g4)) f1).mono ?_
    rintro v5 h5 ⟨rfl, rfl⟩
    simp (maxSteps := 10000000) (disch := omega) only [vq0, vq1, vq2, vq3, vq4, vq5, tagOf, reduceIte, reduceCtorEq, Nat.reduceEqDiff, Nat.reduceAdd, Nat.reduceSub, Nat.reduceMul, Nat.reduceLT, Nat.reduceLeDiff, Int.reduceToNat, Nat.reduceBEq, tq1, tq2, tq3]
    refine (parse_ok l (by omega) h5).mono ?_
    rintro v6 h6 ⟨g6, q6⟩
    unfold ParseQ at q6
    rw [hpl] at q6
    obtain ⟨d6, rfl, hd6⟩ := q6
    have hone6 : oneCell d6 = true := by rcases hd6 with ⟨rfl, _⟩ | ⟨_, _, rfl, _⟩ <;> rfl
    have hn4 := g4.next
    have hn6 := g6.next
    have m4 : h6.get h.next = _ := (g6.get h.next (by omega)).trans k4
    have gx : ∀ b x, Grow h6 ((h6.new b).set h6.next x) := fun b x => (Grow.new h6 b).set (Nat.le_refl _) x
    have g06 : Grow h h6 := (g03.trans g4).trans g6
    rw [hof d6]
    simp (maxSteps := 10000000) (disch := omega) only [vq0, vq1, vq2, vq3, vq4, vq5, tagOf, reduceIte, reduceCtorEq, Nat.reduceEqDiff, Nat.reduceAdd, Nat.reduceSub, Nat.reduceMul, Nat.reduceLT, Nat.reduceLeDiff, Int.reduceToNat, Nat.reduceBEq, tq1, tq2, tq3, hone6, m4, hone]
    rw [← hof d6, ← ho0]
    refine (refSame_same o o d6 d _ (hd6.g.grow (gx _ _)) (hd.grow (g06.trans (gx _ _))) rfl).mono ?_
    rintro v7 h7 ⟨g7, rfl⟩
    simp (maxSteps := 10000000) (disch := omega) only [vq0, vq1, vq2, vq3, vq4, vq5, tagOf, reduceIte, reduceCtorEq, Nat.reduceEqDiff, Nat.reduceAdd, Nat.reduceSub, Nat.reduceMul, Nat.reduceLT, Nat.reduceLeDiff, Int.reduceToNat, Nat.reduceBEq, tq1, tq2, tq3]
end Go.Proofs.YtkloflhiipebmaaDoor.C
