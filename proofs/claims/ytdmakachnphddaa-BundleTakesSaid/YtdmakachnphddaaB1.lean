/- B1: errors' numbers; the same bytes, the same diff; a diff as the program's, and as the document's. -/
import Derived.Test.YtdmakachnphddaaB0
open Nat (reduceEqDiff reduceAdd reduceSub reduceMul reduceLT reduceLeDiff)
open Int (reduceToNat)
open Go Go.Vi Go.Bm
namespace Go.Proofs.Ytdmakachnphddaa.C
set_option linter.unusedSimpArgs false
set_option maxRecDepth 100000
set_option maxHeartbeats 40000000
theorem num_err (n : Int) (hn : n ≠ 0) (h : Heap) (Q : Value → Heap → Prop) : Ret E Faa_ [.iface TA_ (.int .i64 n)] h Q = Q (.int .i64 n) h := by
  refine Ret.eq ?_ Q
  refine ret_fun Ip_ (by simp) ?_
  unfold GI_
  simp (maxSteps := 10000000) (disch := omega) only [vqA, tagOf, reduceIte, reduceCtorEq, reduceEqDiff, reduceAdd, reduceSub, reduceMul, reduceLT, reduceLeDiff, reduceToNat, Nat.reduceBEq, tqA]
theorem is_err (n : Int) (hn : n ≠ 0) (h : Heap) (Q : Value → Heap → Prop) : Ret E FU_ [.iface TA_ (.int .i64 n), .int .i64 n] h Q = Q (.bool true) h := by
  refine Ret.eq ?_ Q
  refine ret_fun IN_ (by simp) ?_
  unfold GF_
  simp (maxSteps := 10000000) (disch := omega) only [vqA, tagOf, reduceIte, reduceCtorEq, reduceEqDiff, reduceAdd, reduceSub, reduceMul, reduceLT, reduceLeDiff, reduceToNat, Nat.reduceBEq, tqA, num_err n hn]
theorem bt_bytes : BtIs E Tc_ Tf_ Te_ := ⟨by kernel_rfl, by kernel_rfl, by kernel_rfl⟩
theorem text_bytes {h : Heap} {x : Value} {l : List UInt8} (r : BRow h x l) : orK (atH h (orK (convV E Tc_ Tf_ x) (convR E Tc_ Tf_ x h))) (newK h (convN E Tc_ Tf_ x)) = some (.string (strOf l), h) := brow_text bt_bytes r
theorem refSame_ok (d : Dif) (v w : Value) (h : Heap) (hv : DRow h v d.recs) (hw : DRow h w d.recs) (hL : d.recs.length ≤ 100000000) :
    Ret E Ft_ [.agg ⟨difC d v⟩, .agg ⟨difC d w⟩] h (fun u h' => Grow h h' ∧ u = .bool true) := by
  refine ret_fun Ib_ (by simp) ?_
  unfold GJ_ difC
  have gn : ∀ b1 b2 : Blk, Grow h ((h.new b1).new b2) := fun b1 b2 => (Grow.new h b1).more b2
  obtain ⟨a, c, rfl⟩ := hv.is
  obtain ⟨a2, c2, rfl⟩ := hw.is
  have e0 : ((d.recs.length : Int) == (d.recs.length : Int)) = true := beq_self_eq_true _
  simp (maxSteps := 10000000) (disch := omega) only [vqA, tagOf, reduceIte, reduceCtorEq, reduceEqDiff, reduceAdd, reduceSub, reduceMul, reduceLT, reduceLeDiff, reduceToNat, Nat.reduceBEq, tqA, e0]
  refine r_loop (k := d.recs.length) (fun k ρ h' => ∃ (i : Nat), i + k = d.recs.length ∧ ρ 2 = .pointer (some ⟨h.next, 0, none⟩) ∧ ρ 3 = .pointer (some ⟨h.next + 1, 0, none⟩) ∧ ρ 5 = .int .i64 (i : Int) ∧
    h'.get h.next = some (.cells [.int .i64 d.fr, .int .i64 d.to, .slice a d.recs.length c] true none) ∧ h'.get (h.next + 1) = some (.cells [.int .i64 d.fr, .int .i64 d.to, .slice a2 d.recs.length c2] true none) ∧ Grow h h' ∧ h.next + 1 < h'.next) ?_ ?_
  · rintro k ρ h' ⟨i, hk, r2, r3, r5, m0, m1, gr, hn⟩
    unfold GQ_
    rcases Nat.lt_or_ge i d.recs.length with hi | hi
    · have hr : d.recs[i]? = some d.recs[i] := List.getElem?_eq_getElem hi
      have hne : d.recs ≠ [] := fun e => by rw [e] at hi; simp at hi
      obtain ⟨b, o, c', he, hb, hel⟩ := hv.elems hne
      cases he
      obtain ⟨b2, o2, c2', he2, hb2, hel2⟩ := hw.elems hne
      cases he2
      obtain ⟨dv, hc, hbr⟩ := hel i _ hr
      obtain ⟨dw, hc2, hbr2⟩ := hel2 i _ hr
      have o1 := hbr.one
      have o2' := hbr2.one
      rw [← gr.get b hb] at hc
      rw [← gr.get b2 hb2] at hc2
      generalize d.recs[i] = r at hr hc hbr hc2 hbr2
      have g2 : ∀ b x b2 x2, Grow h' ((((h'.new b).set h'.next x).new b2).set (h'.next + 1) x2) := fun b x b2 x2 => (((Grow.new h' b).set (Nat.le_refl _) x).more b2).set (by omega) x2
      have t1 := fun b x b2 x2 => text_bytes (hbr.grow (gr.trans (g2 b x b2 x2)))
      have t2 := fun b x b2 x2 => text_bytes (hbr2.grow (gr.trans (g2 b x b2 x2)))
      have eb : (r.data == r.data) = true := beq_self_eq_true _
      have ez : (r.zero == r.zero) = true := beq_self_eq_true _
      simp (maxSteps := 10000000) (disch := omega) only [vqA, tagOf, reduceIte, reduceCtorEq, reduceEqDiff, reduceAdd, reduceSub, reduceMul, reduceLT, reduceLeDiff, reduceToNat, Nat.reduceBEq, tqA, r2, r3, r5, m0, m1, hc, hc2, o1, o2', t1, t2, eb, ez]
      exact ⟨k - 1, by omega, i + 1, by omega, rfl, gr.trans (g2 _ _ _ _), by omega⟩
    · simp (maxSteps := 10000000) (disch := omega) only [vqA, tagOf, reduceIte, reduceCtorEq, reduceEqDiff, reduceAdd, reduceSub, reduceMul, reduceLT, reduceLeDiff, reduceToNat, Nat.reduceBEq, tqA, r2, r3, r5, m0, m1]
      exact gr
  · exact ⟨0, by omega, by simp (maxSteps := 10000000) (disch := omega) only [vqA, tagOf, reduceIte, reduceCtorEq, reduceEqDiff, reduceAdd, reduceSub, reduceMul, reduceLT, reduceLeDiff, reduceToNat, Nat.reduceBEq, tqA], by simp (maxSteps := 10000000) (disch := omega) only [vqA, tagOf, reduceIte, reduceCtorEq, reduceEqDiff, reduceAdd, reduceSub, reduceMul, reduceLT, reduceLeDiff, reduceToNat, Nat.reduceBEq, tqA], by simp (maxSteps := 10000000) (disch := omega) only [vqA, tagOf, reduceIte, reduceCtorEq, reduceEqDiff, reduceAdd, reduceSub, reduceMul, reduceLT, reduceLeDiff, reduceToNat, Nat.reduceBEq, tqA]; rfl, by simp (maxSteps := 10000000) (disch := omega) only [vqA, tagOf, reduceIte, reduceCtorEq, reduceEqDiff, reduceAdd, reduceSub, reduceMul, reduceLT, reduceLeDiff, reduceToNat, Nat.reduceBEq, tqA], by simp (maxSteps := 10000000) (disch := omega) only [vqA, tagOf, reduceIte, reduceCtorEq, reduceEqDiff, reduceAdd, reduceSub, reduceMul, reduceLT, reduceLeDiff, reduceToNat, Nat.reduceBEq, tqA], gn _ _, by simp (maxSteps := 10000000) (disch := omega) only [vqA, tagOf, reduceIte, reduceCtorEq, reduceEqDiff, reduceAdd, reduceSub, reduceMul, reduceLT, reduceLeDiff, reduceToNat, Nat.reduceBEq, tqA]; omega⟩
theorem okSrc_plain : okSrc E (some To_) = some true := by kernel_rfl
theorem okSrc_prog : okSrc E (some Ts_) = some true := by kernel_rfl
theorem okSrc_bytes : okSrc E (some Tc_) = some true := by kernel_rfl
theorem drow_of {h : Heap} {w : Value} {items : List (Rec × Value)} {recs : List Rec} (hi : items.map (·.1) = recs) (hr : RowV h 4 w (items.flatMap recC)) (hd : ∀ p ∈ items, BRow h p.2 p.1.data) : DRow h w recs := ⟨items, hi, hr, hd⟩
end Go.Proofs.Ytdmakachnphddaa.C
