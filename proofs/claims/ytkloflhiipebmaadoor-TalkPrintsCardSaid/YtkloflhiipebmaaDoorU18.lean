/- U18: errors as numbers, copies with marks, what is wide. -/
import Derived.Test.YtkloflhiipebmaaDoorU17
open Go Go.Vi Go.Tk
namespace Go.Proofs.YtkloflhiipebmaaDoor.C
set_option linter.unusedSimpArgs false
set_option maxRecDepth 100000
set_option maxHeartbeats 40000000
theorem num_form (h : Heap) (Q : Value → Heap → Prop) : Ret E f_laminanum_Num [.iface t_api_Errno (.int .i64 2)] h Q = Q (.int .i64 2) h := by
  refine Ret.eq ?_ Q
  refine ret_fun is_laminanum_Num (by simp) ?_
  unfold g_laminanum_Num
  simp (maxSteps := 10000000) (disch := omega) only [vq0, vq1, vq2, vq3, vq4, vq5, tagOf, reduceIte, reduceCtorEq, Nat.reduceEqDiff, Nat.reduceAdd, Nat.reduceSub, Nat.reduceMul, Nat.reduceLT, Nat.reduceLeDiff, Int.reduceToNat, Nat.reduceBEq, tq1, tq2, tq3]
theorem is_form (h : Heap) (Q : Value → Heap → Prop) : Ret E f_laminanum_Is [.iface t_api_Errno (.int .i64 2), .int .i64 2] h Q = Q (.bool true) h := by
  refine Ret.eq ?_ Q
  refine ret_fun is_laminanum_Is (by simp) ?_
  unfold g_laminanum_Is
  simp (maxSteps := 10000000) (disch := omega) only [vq0, vq1, vq2, vq3, vq4, vq5, tagOf, reduceIte, reduceCtorEq, Nat.reduceEqDiff, Nat.reduceAdd, Nat.reduceSub, Nat.reduceMul, Nat.reduceLT, Nat.reduceLeDiff, Int.reduceToNat, Nat.reduceBEq, tq1, tq2, tq3, num_form]
def FitT (o : TOp) : Prop := o.data.length ≤ 500 ∧ o.image.length ≤ 100 ∧ o.snap.length ≤ 100 ∧ o.snap2.length ≤ 100 ∧ o.parent.length ≤ 100
theorem wide_ok (o : TOp) (d : Value) (h : Heap) (hd : RowG h d o.data) :
    Ret E f_laminalaw25_wide [.agg ⟨opC o d⟩] h (fun v h' => Grow h h' ∧ ((v = .bool true) ∨ (v = .bool false ∧ FitT o))) := by
  refine ret_fun is_laminalaw25_wide (by simp) ?_
  unfold g_laminalaw25_wide opC
  have gr : ∀ b1 : Blk, Grow h (h.new b1) := fun b1 => Grow.new h b1
  have hlen : ∀ h' : Heap, orK (lenP E t_s_uint8 d) (lenR E t_s_uint8 d h') = some (.int .i64 o.data.length) := fun h' => by
    rcases hd with ⟨rfl, q⟩ | ⟨b, o, c, row, w, p, hb, rfl, hg, h1, h2⟩
    · rw [q]; simp (maxSteps := 10000000) (disch := omega) only [vq0, vq1, vq2, vq3, vq4, vq5, tagOf, reduceIte, reduceCtorEq, Nat.reduceEqDiff, Nat.reduceAdd, Nat.reduceSub, Nat.reduceMul, Nat.reduceLT, Nat.reduceLeDiff, Int.reduceToNat, Nat.reduceBEq, tq1, tq2, tq3]
    · simp (maxSteps := 10000000) (disch := omega) only [vq0, vq1, vq2, vq3, vq4, vq5, tagOf, reduceIte, reduceCtorEq, Nat.reduceEqDiff, Nat.reduceAdd, Nat.reduceSub, Nat.reduceMul, Nat.reduceLT, Nat.reduceLeDiff, Int.reduceToNat, Nat.reduceBEq, tq1, tq2, tq3]
  by_cases q1 : 500 < o.data.length
  · simp (maxSteps := 10000000) (disch := omega) only [vq0, vq1, vq2, vq3, vq4, vq5, tagOf, reduceIte, reduceCtorEq, Nat.reduceEqDiff, Nat.reduceAdd, Nat.reduceSub, Nat.reduceMul, Nat.reduceLT, Nat.reduceLeDiff, Int.reduceToNat, Nat.reduceBEq, tq1, tq2, tq3, hlen]
    exact gr _
  by_cases q2 : 100 < o.image.length
  · simp (maxSteps := 10000000) (disch := omega) only [vq0, vq1, vq2, vq3, vq4, vq5, tagOf, reduceIte, reduceCtorEq, Nat.reduceEqDiff, Nat.reduceAdd, Nat.reduceSub, Nat.reduceMul, Nat.reduceLT, Nat.reduceLeDiff, Int.reduceToNat, Nat.reduceBEq, tq1, tq2, tq3, hlen]
    exact gr _
  by_cases q3 : 100 < o.snap.length
  · simp (maxSteps := 10000000) (disch := omega) only [vq0, vq1, vq2, vq3, vq4, vq5, tagOf, reduceIte, reduceCtorEq, Nat.reduceEqDiff, Nat.reduceAdd, Nat.reduceSub, Nat.reduceMul, Nat.reduceLT, Nat.reduceLeDiff, Int.reduceToNat, Nat.reduceBEq, tq1, tq2, tq3, hlen]
    exact gr _
  by_cases q4 : 100 < o.snap2.length
  · simp (maxSteps := 10000000) (disch := omega) only [vq0, vq1, vq2, vq3, vq4, vq5, tagOf, reduceIte, reduceCtorEq, Nat.reduceEqDiff, Nat.reduceAdd, Nat.reduceSub, Nat.reduceMul, Nat.reduceLT, Nat.reduceLeDiff, Int.reduceToNat, Nat.reduceBEq, tq1, tq2, tq3, hlen]
    exact gr _
  by_cases q5 : 100 < o.parent.length
  · simp (maxSteps := 10000000) (disch := omega) only [vq0, vq1, vq2, vq3, vq4, vq5, tagOf, reduceIte, reduceCtorEq, Nat.reduceEqDiff, Nat.reduceAdd, Nat.reduceSub, Nat.reduceMul, Nat.reduceLT, Nat.reduceLeDiff, Int.reduceToNat, Nat.reduceBEq, tq1, tq2, tq3, hlen]
    exact gr _
  simp (maxSteps := 10000000) (disch := omega) only [vq0, vq1, vq2, vq3, vq4, vq5, tagOf, reduceIte, reduceCtorEq, Nat.reduceEqDiff, Nat.reduceAdd, Nat.reduceSub, Nat.reduceMul, Nat.reduceLT, Nat.reduceLeDiff, Int.reduceToNat, Nat.reduceBEq, tq1, tq2, tq3, hlen]
  exact ⟨gr _, .inr ⟨by omega, by omega, by omega, by omega, by omega⟩⟩
theorem appK_in {z bytes elem : Nat} {h : Heap} {b o len cap n : Nat} {cs new : List Value} {p : Option (Nat × Nat)} (hn : 0 < n) (hc : len + n ≤ cap) (ho : new.all oneCell = true) (hl : o + len * z + new.length ≤ cs.length) :
    appK z bytes elem h b o len cap (some (.cells cs true p)) n (some new) = some (.slice (some ⟨b, o, none⟩) (len + n) cap, h.set b (.cells (splice cs (o + len * z) new) true p)) := by
  unfold appK
  simp only
  rw [if_pos hc, if_neg (by omega), putAt_some ho hl]
theorem copy_ok (d : Value) (l : List UInt8) (h : Heap) (hd : RowG h d l) (hl : l.length ≤ 500) : Ret E f_laminanum_Copy [d] h (fun v h' => Grow h h' ∧ ∃ b, h.next ≤ b ∧ b < h'.next ∧ v = .slice (some ⟨b, 0, none⟩) l.length (l.length + 2) ∧ h'.get b = some (.cells (l.map byteV ++ [.int .u8 165, .int .u8 90]) true none)) := by
  refine ret_fun is_laminanum_Copy (by simp) ?_
  unfold g_laminanum_Copy
  have hcap : ((l.length : Int) + 2).toNat = l.length + 2 := by omega
  have e2 : ∀ (h : Heap) (b : Nat) (x : List Value), x.length = 2 → appK 1 1 t_uint8 h b 0 l.length (l.length + 2) (some (.cells (l.map byteV ++ x) true none)) 2 (some [.int .u8 165, .int .u8 90]) = some (.slice (some ⟨b, 0, none⟩) (l.length + 2) (l.length + 2), h.set b (.cells (l.map byteV ++ [.int .u8 165, .int .u8 90]) true none)) := fun h b x hx => by
    rw [appK_in (by omega) (by omega) rfl (by simp; omega)]
    congr 4
    rw [splice_eq, Nat.mul_one, Nat.zero_add, List.take_left' (by simp), List.drop_of_length_le (by simp; omega), List.append_nil]
  have e2' := fun h b => e2 h b [.int .u8 0, .int .u8 0] rfl
  have gr : ∀ b1 b2 : Blk, ∀ x y, Grow h ((((h.new b1).set h.next x).new b2).set h.next y) := fun b1 b2 x y => (((Grow.new h b1).set (Nat.le_refl _) x).more b2).set (Nat.le_refl _) y
  by_cases hn : l = []
  · subst hn
    have e0 : ∀ (h : Heap) (b : Nat), appK 1 1 t_uint8 h b 0 0 2 (some (.cells [.int .u8 0, .int .u8 0] true none)) 2 (some [.int .u8 165, .int .u8 90]) = some (.slice (some ⟨b, 0, none⟩) 2 2, h.set b (.cells [.int .u8 165, .int .u8 90] true none)) := e2'
    have r2 : List.replicate 2 (Value.int .u8 0) = [.int .u8 0, .int .u8 0] := rfl
    have h2 : ((0 : Nat) : Int) + 2 = 2 := rfl
    rcases hd with ⟨rfl, _⟩ | ⟨b, o, c, row, w, p, hb, rfl, hg, h1, h2'⟩
    · simp (maxSteps := 10000000) (disch := omega) only [vq0, vq1, vq2, vq3, vq4, vq5, tagOf, reduceIte, reduceCtorEq, Nat.reduceEqDiff, Nat.reduceAdd, Nat.reduceSub, Nat.reduceMul, Nat.reduceLT, Nat.reduceLeDiff, Int.reduceToNat, Nat.reduceBEq, tq1, tq2, tq3, e0, h2, r2]
      exact ⟨((Grow.new h _).more _).set (Nat.le_refl _) _, h.next, Nat.le_refl _, by omega, rfl, by simp (maxSteps := 10000000) (disch := omega) only [vq0, vq1, vq2, vq3, vq4, vq5, tagOf, reduceIte, reduceCtorEq, Nat.reduceEqDiff, Nat.reduceAdd, Nat.reduceSub, Nat.reduceMul, Nat.reduceLT, Nat.reduceLeDiff, Int.reduceToNat, Nat.reduceBEq, tq1, tq2, tq3]⟩
    · simp (maxSteps := 10000000) (disch := omega) only [vq0, vq1, vq2, vq3, vq4, vq5, tagOf, reduceIte, reduceCtorEq, Nat.reduceEqDiff, Nat.reduceAdd, Nat.reduceSub, Nat.reduceMul, Nat.reduceLT, Nat.reduceLeDiff, Int.reduceToNat, Nat.reduceBEq, tq1, tq2, tq3, e0, h2, r2, hg]
      exact ⟨((Grow.new h _).more _).set (Nat.le_refl _) _, h.next, Nat.le_refl _, by omega, rfl, by simp (maxSteps := 10000000) (disch := omega) only [vq0, vq1, vq2, vq3, vq4, vq5, tagOf, reduceIte, reduceCtorEq, Nat.reduceEqDiff, Nat.reduceAdd, Nat.reduceSub, Nat.reduceMul, Nat.reduceLT, Nat.reduceLeDiff, Int.reduceToNat, Nat.reduceBEq, tq1, tq2, tq3]⟩
  · have hp : 0 < l.length := List.length_pos_iff.2 hn
    have e1 : ∀ (h : Heap) (b : Nat), appK 1 1 t_uint8 h b 0 0 (l.length + 2) (some (.cells (List.replicate (l.length + 2) (.int .u8 0)) true none)) l.length (some (l.map byteV)) = some (.slice (some ⟨b, 0, none⟩) l.length (l.length + 2), h.set b (.cells (l.map byteV ++ [.int .u8 0, .int .u8 0]) true none)) := fun h b => by
      rw [appK_in hp (by omega) (List.all_eq_true.2 fun x hx => by obtain ⟨b, _, rfl⟩ := List.mem_map.1 hx; rfl) (by simp)]
      congr 4
      · omega
      · rw [splice_eq, Nat.zero_mul, Nat.add_zero, List.take_zero, List.nil_append, List.length_map, List.drop_replicate, Nat.zero_add, Nat.add_sub_cancel_left]
        rfl
    rcases hd with ⟨rfl, q⟩ | ⟨b, o, c, row, w, p, hb, rfl, hg, h1, h2⟩
    · exact absurd q hn
    · have hc := RowG.cells hg h1 h2
      simp (maxSteps := 10000000) (disch := omega) only [vq0, vq1, vq2, vq3, vq4, vq5, tagOf, reduceIte, reduceCtorEq, Nat.reduceEqDiff, Nat.reduceAdd, Nat.reduceSub, Nat.reduceMul, Nat.reduceLT, Nat.reduceLeDiff, Int.reduceToNat, Nat.reduceBEq, tq1, tq2, tq3, hc, hcap, e1, e2']
      exact ⟨gr _ _ _ _, h.next, Nat.le_refl _, by omega, rfl, by simp (maxSteps := 10000000) (disch := omega) only [vq0, vq1, vq2, vq3, vq4, vq5, tagOf, reduceIte, reduceCtorEq, Nat.reduceEqDiff, Nat.reduceAdd, Nat.reduceSub, Nat.reduceMul, Nat.reduceLT, Nat.reduceLeDiff, Int.reduceToNat, Nat.reduceBEq, tq1, tq2, tq3]⟩
theorem capR_some {t elem : TypeId} {i : Ty} {h : Heap} {b o n c : Nat} {cs : List Value} {w : Bool} (ht : E.ty t = some i) (hu : i.under = .slice elem) (hg : h.get b = some (.cells cs w none)) : capR E t (.slice (some ⟨b, o, none⟩) n c) h = some (.int .i64 c) := by
  unfold capR
  rw [ht]
  show (match i.under, Value.slice (some ⟨b, o, none⟩) n c with
    | .slice _, .slice none _ cap => some (Value.int .i64 cap)
    | .slice _, .slice (some a) _ cap => match h.get a.block with
      | some (.cells _ _ none) => some (Value.int .i64 cap)
      | _ => none
    | _, _ => none) = _
  rw [hu]
  simp only [hg]
theorem kept_ok (b : Nat) (d : Value) (l : List UInt8) (h : Heap) (hg : h.get b = some (.cells (l.map byteV ++ [.int .u8 165, .int .u8 90]) true none)) (hd : RowG h d l) (hl : l.length ≤ 500) : Ret E f_laminanum_Kept [.slice (some ⟨b, 0, none⟩) l.length (l.length + 2), d] h (fun v h' => h' = h ∧ v = .bool true) := by
  refine ret_fun is_laminanum_Kept (by simp) ?_
  unfold g_laminanum_Kept
  have hlen : ∀ h' : Heap, orK (lenP E t_s_uint8 d) (lenR E t_s_uint8 d h') = some (.int .i64 l.length) := fun h' => by
    rcases hd with ⟨rfl, q⟩ | ⟨b, o, c, row, w, p, hb, rfl, hg, h1, h2⟩
    · rw [q]; simp (maxSteps := 10000000) (disch := omega) only [vq0, vq1, vq2, vq3, vq4, vq5, tagOf, reduceIte, reduceCtorEq, Nat.reduceEqDiff, Nat.reduceAdd, Nat.reduceSub, Nat.reduceMul, Nat.reduceLT, Nat.reduceLeDiff, Int.reduceToNat, Nat.reduceBEq, tq1, tq2, tq3]
    · simp (maxSteps := 10000000) (disch := omega) only [vq0, vq1, vq2, vq3, vq4, vq5, tagOf, reduceIte, reduceCtorEq, Nat.reduceEqDiff, Nat.reduceAdd, Nat.reduceSub, Nat.reduceMul, Nat.reduceLT, Nat.reduceLeDiff, Int.reduceToNat, Nat.reduceBEq, tq1, tq2, tq3]
  have ht1 := row_text hd
  have ht2 : orK (atH h (orK (convV E t_s_uint8 t_string (.slice (some ⟨b, 0, none⟩) l.length (l.length + 2))) (convR E t_s_uint8 t_string (.slice (some ⟨b, 0, none⟩) l.length (l.length + 2)) h))) (newK h (convN E t_s_uint8 t_string (.slice (some ⟨b, 0, none⟩) l.length (l.length + 2)))) = some (.string (strOf l), h) := by
    have hc := RowG.cells (o := 0) (l := l) hg (by simp) (by rw [List.drop_zero, List.take_left' (by simp)])
    simp (maxSteps := 10000000) (disch := omega) only [vq0, vq1, vq2, vq3, vq4, vq5, tagOf, reduceIte, reduceCtorEq, Nat.reduceEqDiff, Nat.reduceAdd, Nat.reduceSub, Nat.reduceMul, Nat.reduceLT, Nat.reduceLeDiff, Int.reduceToNat, Nat.reduceBEq, tq1, tq2, tq3, hc]
  have i1 : (l.map byteV ++ [Value.int .u8 165, .int .u8 90])[l.length]? = some (.int .u8 165) := by rw [List.getElem?_append_right (by simp)]; simp
  have i2 : (l.map byteV ++ [Value.int .u8 165, .int .u8 90])[((l.length : Int) + 1).toNat]? = some (.int .u8 90) := by rw [show ((l.length : Int) + 1).toNat = l.length + 1 from by omega, List.getElem?_append_right (by simp)]; simp
  have hcp : capR E t_s_uint8 (.slice (some ⟨b, 0, none⟩) l.length (l.length + 2)) h = some (.int .i64 ((l.length + 2 : Nat) : Int)) := capR_some (show E.ty t_s_uint8 = some ((E.ty t_s_uint8).getD dTy) from by kernel_rfl) (elem := t_uint8) (by kernel_rfl) hg
  simp (maxSteps := 10000000) (disch := omega) only [vq0, vq1, vq2, vq3, vq4, vq5, tagOf, reduceIte, reduceCtorEq, Nat.reduceEqDiff, Nat.reduceAdd, Nat.reduceSub, Nat.reduceMul, Nat.reduceLT, Nat.reduceLeDiff, Int.reduceToNat, Nat.reduceBEq, tq1, tq2, tq3, hlen, ht1, ht2, hg, i1, i2, hcp]
end Go.Proofs.YtkloflhiipebmaaDoor.C
