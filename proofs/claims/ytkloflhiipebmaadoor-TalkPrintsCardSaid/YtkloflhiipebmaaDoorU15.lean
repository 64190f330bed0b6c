/- U15: the same operation. -/
import Derived.Test.YtkloflhiipebmaaDoorU14
open Go Go.Vi Go.Tk
namespace Go.Proofs.YtkloflhiipebmaaDoor.C
set_option linter.unusedSimpArgs false
set_option maxRecDepth 100000
set_option maxHeartbeats 40000000
theorem equal_ok {h : Heap} {d1 d2 : Value} {l1 l2 : List UInt8} (h1 : RowG h d1 l1) (h2 : RowG h d2 l2) (Q : Value → Heap → Prop) : Ret E f_bytes_Equal [d1, d2] h Q = Q (.bool (l1 == l2)) h := by
  refine Ret.eq ?_ Q
  refine ret_fun is_bytes_Equal (by simp) ?_
  unfold g_bytes_Equal
  simp (maxSteps := 10000000) (disch := omega) only [vq0, vq1, vq2, vq3, vq4, vq5, tagOf, reduceIte, reduceCtorEq, Nat.reduceEqDiff, Nat.reduceAdd, Nat.reduceSub, Nat.reduceMul, Nat.reduceLT, Nat.reduceLeDiff, Int.reduceToNat, Nat.reduceBEq, tq1, tq2, tq3, row_text h1, row_text h2]
theorem decide_ne {a b : TOp} (h : ¬ a = b) : decide (a = b) = false := decide_eq_false h
theorem same_ok (a b : TOp) (d1 d2 : Value) (h : Heap) (h1 : RowG h d1 a.data) (h2 : RowG h d2 b.data) : Ret E f_talk_same [.agg ⟨opC a d1⟩, .agg ⟨opC b d2⟩] h (fun v h' => Grow h h' ∧ v = .bool (decide (a = b))) := by
  refine ret_fun is_talk_same (by simp) ?_
  unfold g_talk_same opC
  have gr : ∀ b1 b2 : Blk, Grow h ((h.new b1).new b2) := fun b1 b2 => (Grow.new h b1).more b2
  by_cases q0 : a.kind = b.kind
  case neg =>
    rw [decide_ne (fun e => q0 (by rw [e]))]
    simp (maxSteps := 10000000) (disch := omega) only [vq0, vq1, vq2, vq3, vq4, vq5, tagOf, reduceIte, reduceCtorEq, Nat.reduceEqDiff, Nat.reduceAdd, Nat.reduceSub, Nat.reduceMul, Nat.reduceLT, Nat.reduceLeDiff, Int.reduceToNat, Nat.reduceBEq, tq1, tq2, tq3]
    exact gr _ _
  by_cases q1 : a.image = b.image
  case neg =>
    rw [decide_ne (fun e => q1 (by rw [e]))]
    have e1 : (a.image == b.image) = false := by rw [beq_eq_false_iff_ne]; exact q1
    simp (maxSteps := 10000000) (disch := omega) only [vq0, vq1, vq2, vq3, vq4, vq5, tagOf, reduceIte, reduceCtorEq, Nat.reduceEqDiff, Nat.reduceAdd, Nat.reduceSub, Nat.reduceMul, Nat.reduceLT, Nat.reduceLeDiff, Int.reduceToNat, Nat.reduceBEq, tq1, tq2, tq3, e1]
    exact gr _ _
  have e1 : (a.image == b.image) = true := by rw [q1]; exact beq_self_eq_true _
  by_cases q2 : a.snap = b.snap
  case neg =>
    rw [decide_ne (fun e => q2 (by rw [e]))]
    have e2 : (a.snap == b.snap) = false := by rw [beq_eq_false_iff_ne]; exact q2
    simp (maxSteps := 10000000) (disch := omega) only [vq0, vq1, vq2, vq3, vq4, vq5, tagOf, reduceIte, reduceCtorEq, Nat.reduceEqDiff, Nat.reduceAdd, Nat.reduceSub, Nat.reduceMul, Nat.reduceLT, Nat.reduceLeDiff, Int.reduceToNat, Nat.reduceBEq, tq1, tq2, tq3, e1, e2]
    exact gr _ _
  have e2 : (a.snap == b.snap) = true := by rw [q2]; exact beq_self_eq_true _
  by_cases q3 : a.snap2 = b.snap2
  case neg =>
    rw [decide_ne (fun e => q3 (by rw [e]))]
    have e3 : (a.snap2 == b.snap2) = false := by rw [beq_eq_false_iff_ne]; exact q3
    simp (maxSteps := 10000000) (disch := omega) only [vq0, vq1, vq2, vq3, vq4, vq5, tagOf, reduceIte, reduceCtorEq, Nat.reduceEqDiff, Nat.reduceAdd, Nat.reduceSub, Nat.reduceMul, Nat.reduceLT, Nat.reduceLeDiff, Int.reduceToNat, Nat.reduceBEq, tq1, tq2, tq3, e1, e2, e3]
    exact gr _ _
  have e3 : (a.snap2 == b.snap2) = true := by rw [q3]; exact beq_self_eq_true _
  by_cases q4 : a.parent = b.parent
  case neg =>
    rw [decide_ne (fun e => q4 (by rw [e]))]
    have e4 : (a.parent == b.parent) = false := by rw [beq_eq_false_iff_ne]; exact q4
    simp (maxSteps := 10000000) (disch := omega) only [vq0, vq1, vq2, vq3, vq4, vq5, tagOf, reduceIte, reduceCtorEq, Nat.reduceEqDiff, Nat.reduceAdd, Nat.reduceSub, Nat.reduceMul, Nat.reduceLT, Nat.reduceLeDiff, Int.reduceToNat, Nat.reduceBEq, tq1, tq2, tq3, e1, e2, e3, e4]
    exact gr _ _
  have e4 : (a.parent == b.parent) = true := by rw [q4]; exact beq_self_eq_true _
  by_cases q5 : a.at_ = b.at_
  case neg =>
    rw [decide_ne (fun e => q5 (by rw [e]))]
    simp (maxSteps := 10000000) (disch := omega) only [vq0, vq1, vq2, vq3, vq4, vq5, tagOf, reduceIte, reduceCtorEq, Nat.reduceEqDiff, Nat.reduceAdd, Nat.reduceSub, Nat.reduceMul, Nat.reduceLT, Nat.reduceLeDiff, Int.reduceToNat, Nat.reduceBEq, tq1, tq2, tq3, e1, e2, e3, e4]
    exact gr _ _
  by_cases q6 : a.len = b.len
  case neg =>
    rw [decide_ne (fun e => q6 (by rw [e]))]
    simp (maxSteps := 10000000) (disch := omega) only [vq0, vq1, vq2, vq3, vq4, vq5, tagOf, reduceIte, reduceCtorEq, Nat.reduceEqDiff, Nat.reduceAdd, Nat.reduceSub, Nat.reduceMul, Nat.reduceLT, Nat.reduceLeDiff, Int.reduceToNat, Nat.reduceBEq, tq1, tq2, tq3, e1, e2, e3, e4]
    exact gr _ _
  by_cases q7 : a.size = b.size
  case neg =>
    rw [decide_ne (fun e => q7 (by rw [e]))]
    simp (maxSteps := 10000000) (disch := omega) only [vq0, vq1, vq2, vq3, vq4, vq5, tagOf, reduceIte, reduceCtorEq, Nat.reduceEqDiff, Nat.reduceAdd, Nat.reduceSub, Nat.reduceMul, Nat.reduceLT, Nat.reduceLeDiff, Int.reduceToNat, Nat.reduceBEq, tq1, tq2, tq3, e1, e2, e3, e4]
    exact gr _ _
  by_cases q8 : a.object = b.object
  case neg =>
    rw [decide_ne (fun e => q8 (by rw [e]))]
    simp (maxSteps := 10000000) (disch := omega) only [vq0, vq1, vq2, vq3, vq4, vq5, tagOf, reduceIte, reduceCtorEq, Nat.reduceEqDiff, Nat.reduceAdd, Nat.reduceSub, Nat.reduceMul, Nat.reduceLT, Nat.reduceLeDiff, Int.reduceToNat, Nat.reduceBEq, tq1, tq2, tq3, e1, e2, e3, e4]
    exact gr _ _
  by_cases q10 : a.on = b.on
  case neg =>
    rw [decide_ne (fun e => q10 (by rw [e]))]
    have e10 : (a.on == b.on) = false := by rw [beq_eq_false_iff_ne]; exact q10
    simp (maxSteps := 10000000) (disch := omega) only [vq0, vq1, vq2, vq3, vq4, vq5, tagOf, reduceIte, reduceCtorEq, Nat.reduceEqDiff, Nat.reduceAdd, Nat.reduceSub, Nat.reduceMul, Nat.reduceLT, Nat.reduceLeDiff, Int.reduceToNat, Nat.reduceBEq, tq1, tq2, tq3, e1, e2, e3, e4, e10]
    exact gr _ _
  have e10 : (a.on == b.on) = true := by rw [q10]; exact beq_self_eq_true _
  have x1 := fun b1 b2 Q => equal_ok (Q := Q) (h1.grow (gr b1 b2)) (h2.grow (gr b1 b2))
  have x2 := x1
  by_cases q9 : a.data = b.data
  case neg =>
    rw [decide_ne (fun e => q9 (by rw [e]))]
    have e9 : (a.data == b.data) = false := by rw [beq_eq_false_iff_ne]; exact q9
    simp (maxSteps := 10000000) (disch := omega) only [vq0, vq1, vq2, vq3, vq4, vq5, tagOf, reduceIte, reduceCtorEq, Nat.reduceEqDiff, Nat.reduceAdd, Nat.reduceSub, Nat.reduceMul, Nat.reduceLT, Nat.reduceLeDiff, Int.reduceToNat, Nat.reduceBEq, tq1, tq2, tq3, e1, e2, e3, e4, e10, e9, x1, x2]
    exact gr _ _
  have e9 : (a.data == b.data) = true := by rw [q9]; exact beq_self_eq_true _
  have hab : a = b := by
    cases a; cases b
    simp only at q0 q1 q2 q3 q4 q5 q6 q7 q8 q9 q10
    subst q0 q1 q2 q3 q4 q5 q6 q7 q8 q9 q10
    rfl
  rw [decide_eq_true hab]
  simp (maxSteps := 10000000) (disch := omega) only [vq0, vq1, vq2, vq3, vq4, vq5, tagOf, reduceIte, reduceCtorEq, Nat.reduceEqDiff, Nat.reduceAdd, Nat.reduceSub, Nat.reduceMul, Nat.reduceLT, Nat.reduceLeDiff, Int.reduceToNat, Nat.reduceBEq, tq1, tq2, tq3, e1, e2, e3, e4, e10, e9, x1, x2]
  exact gr _ _
theorem refSame_ok (a b : TOp) (d1 d2 : Value) (h : Heap) (h1 : RowG h d1 a.data) (h2 : RowG h d2 b.data) : Ret E f_laminaref25_Same [.agg ⟨opC a d1⟩, .agg ⟨opC b d2⟩] h (fun v h' => Grow h h' ∧ v = .bool (decide (a = b))) := by
  refine ret_fun is_laminaref25_Same (by simp) ?_
  unfold g_laminaref25_Same opC
  have gr : ∀ b1 b2 : Blk, Grow h ((h.new b1).new b2) := fun b1 b2 => (Grow.new h b1).more b2
  by_cases q0 : a.kind = b.kind
  case neg =>
    rw [decide_ne (fun e => q0 (by rw [e]))]
    simp (maxSteps := 10000000) (disch := omega) only [vq0, vq1, vq2, vq3, vq4, vq5, tagOf, reduceIte, reduceCtorEq, Nat.reduceEqDiff, Nat.reduceAdd, Nat.reduceSub, Nat.reduceMul, Nat.reduceLT, Nat.reduceLeDiff, Int.reduceToNat, Nat.reduceBEq, tq1, tq2, tq3]
    exact gr _ _
  by_cases q1 : a.image = b.image
  case neg =>
    rw [decide_ne (fun e => q1 (by rw [e]))]
    have e1 : (a.image == b.image) = false := by rw [beq_eq_false_iff_ne]; exact q1
    simp (maxSteps := 10000000) (disch := omega) only [vq0, vq1, vq2, vq3, vq4, vq5, tagOf, reduceIte, reduceCtorEq, Nat.reduceEqDiff, Nat.reduceAdd, Nat.reduceSub, Nat.reduceMul, Nat.reduceLT, Nat.reduceLeDiff, Int.reduceToNat, Nat.reduceBEq, tq1, tq2, tq3, e1]
    exact gr _ _
  have e1 : (a.image == b.image) = true := by rw [q1]; exact beq_self_eq_true _
  by_cases q2 : a.snap = b.snap
  case neg =>
    rw [decide_ne (fun e => q2 (by rw [e]))]
    have e2 : (a.snap == b.snap) = false := by rw [beq_eq_false_iff_ne]; exact q2
    simp (maxSteps := 10000000) (disch := omega) only [vq0, vq1, vq2, vq3, vq4, vq5, tagOf, reduceIte, reduceCtorEq, Nat.reduceEqDiff, Nat.reduceAdd, Nat.reduceSub, Nat.reduceMul, Nat.reduceLT, Nat.reduceLeDiff, Int.reduceToNat, Nat.reduceBEq, tq1, tq2, tq3, e1, e2]
    exact gr _ _
  have e2 : (a.snap == b.snap) = true := by rw [q2]; exact beq_self_eq_true _
  by_cases q3 : a.snap2 = b.snap2
  case neg =>
    rw [decide_ne (fun e => q3 (by rw [e]))]
    have e3 : (a.snap2 == b.snap2) = false := by rw [beq_eq_false_iff_ne]; exact q3
    simp (maxSteps := 10000000) (disch := omega) only [vq0, vq1, vq2, vq3, vq4, vq5, tagOf, reduceIte, reduceCtorEq, Nat.reduceEqDiff, Nat.reduceAdd, Nat.reduceSub, Nat.reduceMul, Nat.reduceLT, Nat.reduceLeDiff, Int.reduceToNat, Nat.reduceBEq, tq1, tq2, tq3, e1, e2, e3]
    exact gr _ _
  have e3 : (a.snap2 == b.snap2) = true := by rw [q3]; exact beq_self_eq_true _
  by_cases q4 : a.parent = b.parent
  case neg =>
    rw [decide_ne (fun e => q4 (by rw [e]))]
    have e4 : (a.parent == b.parent) = false := by rw [beq_eq_false_iff_ne]; exact q4
    simp (maxSteps := 10000000) (disch := omega) only [vq0, vq1, vq2, vq3, vq4, vq5, tagOf, reduceIte, reduceCtorEq, Nat.reduceEqDiff, Nat.reduceAdd, Nat.reduceSub, Nat.reduceMul, Nat.reduceLT, Nat.reduceLeDiff, Int.reduceToNat, Nat.reduceBEq, tq1, tq2, tq3, e1, e2, e3, e4]
    exact gr _ _
  have e4 : (a.parent == b.parent) = true := by rw [q4]; exact beq_self_eq_true _
  by_cases q5 : a.at_ = b.at_
  case neg =>
    rw [decide_ne (fun e => q5 (by rw [e]))]
    simp (maxSteps := 10000000) (disch := omega) only [vq0, vq1, vq2, vq3, vq4, vq5, tagOf, reduceIte, reduceCtorEq, Nat.reduceEqDiff, Nat.reduceAdd, Nat.reduceSub, Nat.reduceMul, Nat.reduceLT, Nat.reduceLeDiff, Int.reduceToNat, Nat.reduceBEq, tq1, tq2, tq3, e1, e2, e3, e4]
    exact gr _ _
  by_cases q6 : a.len = b.len
  case neg =>
    rw [decide_ne (fun e => q6 (by rw [e]))]
    simp (maxSteps := 10000000) (disch := omega) only [vq0, vq1, vq2, vq3, vq4, vq5, tagOf, reduceIte, reduceCtorEq, Nat.reduceEqDiff, Nat.reduceAdd, Nat.reduceSub, Nat.reduceMul, Nat.reduceLT, Nat.reduceLeDiff, Int.reduceToNat, Nat.reduceBEq, tq1, tq2, tq3, e1, e2, e3, e4]
    exact gr _ _
  by_cases q7 : a.size = b.size
  case neg =>
    rw [decide_ne (fun e => q7 (by rw [e]))]
    simp (maxSteps := 10000000) (disch := omega) only [vq0, vq1, vq2, vq3, vq4, vq5, tagOf, reduceIte, reduceCtorEq, Nat.reduceEqDiff, Nat.reduceAdd, Nat.reduceSub, Nat.reduceMul, Nat.reduceLT, Nat.reduceLeDiff, Int.reduceToNat, Nat.reduceBEq, tq1, tq2, tq3, e1, e2, e3, e4]
    exact gr _ _
  by_cases q8 : a.object = b.object
  case neg =>
    rw [decide_ne (fun e => q8 (by rw [e]))]
    simp (maxSteps := 10000000) (disch := omega) only [vq0, vq1, vq2, vq3, vq4, vq5, tagOf, reduceIte, reduceCtorEq, Nat.reduceEqDiff, Nat.reduceAdd, Nat.reduceSub, Nat.reduceMul, Nat.reduceLT, Nat.reduceLeDiff, Int.reduceToNat, Nat.reduceBEq, tq1, tq2, tq3, e1, e2, e3, e4]
    exact gr _ _
  by_cases q10 : a.on = b.on
  case neg =>
    rw [decide_ne (fun e => q10 (by rw [e]))]
    have e10 : (a.on == b.on) = false := by rw [beq_eq_false_iff_ne]; exact q10
    simp (maxSteps := 10000000) (disch := omega) only [vq0, vq1, vq2, vq3, vq4, vq5, tagOf, reduceIte, reduceCtorEq, Nat.reduceEqDiff, Nat.reduceAdd, Nat.reduceSub, Nat.reduceMul, Nat.reduceLT, Nat.reduceLeDiff, Int.reduceToNat, Nat.reduceBEq, tq1, tq2, tq3, e1, e2, e3, e4, e10]
    exact gr _ _
  have e10 : (a.on == b.on) = true := by rw [q10]; exact beq_self_eq_true _
  have x1 := fun b1 b2 => row_text (h1.grow (gr b1 b2))
  have x2 := fun b1 b2 => row_text (h2.grow (gr b1 b2))
  by_cases q9 : a.data = b.data
  case neg =>
    rw [decide_ne (fun e => q9 (by rw [e]))]
    have e9 : (a.data == b.data) = false := by rw [beq_eq_false_iff_ne]; exact q9
    simp (maxSteps := 10000000) (disch := omega) only [vq0, vq1, vq2, vq3, vq4, vq5, tagOf, reduceIte, reduceCtorEq, Nat.reduceEqDiff, Nat.reduceAdd, Nat.reduceSub, Nat.reduceMul, Nat.reduceLT, Nat.reduceLeDiff, Int.reduceToNat, Nat.reduceBEq, tq1, tq2, tq3, e1, e2, e3, e4, e10, e9, x1, x2]
    exact gr _ _
  have e9 : (a.data == b.data) = true := by rw [q9]; exact beq_self_eq_true _
  have hab : a = b := by
    cases a; cases b
    simp only at q0 q1 q2 q3 q4 q5 q6 q7 q8 q9 q10
    subst q0 q1 q2 q3 q4 q5 q6 q7 q8 q9 q10
    rfl
  rw [decide_eq_true hab]
  simp (maxSteps := 10000000) (disch := omega) only [vq0, vq1, vq2, vq3, vq4, vq5, tagOf, reduceIte, reduceCtorEq, Nat.reduceEqDiff, Nat.reduceAdd, Nat.reduceSub, Nat.reduceMul, Nat.reduceLT, Nat.reduceLeDiff, Int.reduceToNat, Nat.reduceBEq, tq1, tq2, tq3, e1, e2, e3, e4, e10, e9, x1, x2]
  exact gr _ _
end Go.Proofs.YtkloflhiipebmaaDoor.C
