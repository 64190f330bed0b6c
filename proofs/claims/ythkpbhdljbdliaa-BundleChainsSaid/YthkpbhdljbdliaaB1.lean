/- B1: errors' numbers; the same bytes, the same diff; a diff as the program's, and as the document's. -/
import Derived.Test.YthkpbhdljbdliaaB0
open Go Go.Vi Go.Bm
namespace Go.Proofs.Ythkpbhdljbdliaa.C
set_option linter.unusedSimpArgs false
set_option maxRecDepth 100000
set_option maxHeartbeats 40000000
theorem bt_bytes : BtIs E t_s_uint8 t_string t_uint8 := ⟨by kernel_rfl, by kernel_rfl, by kernel_rfl⟩
theorem text_bytes {h : Heap} {x : Value} {l : List UInt8} (r : BRow h x l) : orK (atH h (orK (convV E t_s_uint8 t_string x) (convR E t_s_uint8 t_string x h))) (newK h (convN E t_s_uint8 t_string x)) = some (.string (strOf l), h) := brow_text bt_bytes r
theorem sameB_ret {h : Heap} {x y : Value} {l : List UInt8} (rx : BRow h x l) (ry : BRow h y l) (Q : Value → Heap → Prop) : Ret E f_laminanum_Same [x, y] h Q = Q (.bool true) h := by
  refine Ret.eq ?_ Q
  refine ret_fun is_laminanum_Same (by simp) ?_
  unfold g_laminanum_Same
  have e : (l == l) = true := beq_self_eq_true _
  simp (maxSteps := 10000000) (disch := omega) only [vq0, vq1, vq2, vq3, vq4, vq5, tagOf, reduceIte, reduceCtorEq, Nat.reduceEqDiff, Nat.reduceAdd, Nat.reduceSub, Nat.reduceMul, Nat.reduceLT, Nat.reduceLeDiff, Int.reduceToNat, Nat.reduceBEq, tq1, tq2, tq3, text_bytes rx, text_bytes ry, e]
theorem okSrc_prog : okSrc E (some t_s_diff_Record) = some true := by kernel_rfl
theorem okSrc_bytes : okSrc E (some t_s_uint8) = some true := by kernel_rfl
theorem drow_of {h : Heap} {w : Value} {items : List (Rec × Value)} {recs : List Rec} (hi : items.map (·.1) = recs) (hr : RowV h 4 w (items.flatMap recC)) (hd : ∀ p ∈ items, BRow h p.2 p.1.data) : DRow h w recs := ⟨items, hi, hr, hd⟩
end Go.Proofs.Ythkpbhdljbdliaa.C
