/- W7: the program's reader: rows, texts, its end; a new one. -/
import Derived.Test.YtdmakachnphddaaW6
open Nat (reduceEqDiff reduceAdd reduceSub reduceMul reduceLT reduceLeDiff)
open Int (reduceToNat)
open Go Go.Vi Go.Bm
namespace Go.Proofs.Ytdmakachnphddaa.C
set_option linter.unusedSimpArgs false
set_option maxRecDepth 100000
set_option maxHeartbeats 40000000
theorem rbytes_ok (o p : Nat) (r : Rd) (h : Heap) (x : Rdr o h p r) : Ret E Fo_ [.pointer (some ⟨p, 0, none⟩)] h (fun u h' => Rdr o h' p (bytesR r).2 ∧ But p p h h' ∧ BRow h' u (bytesR r).1 ∧ Off o p u) := by
  refine ret_fun I8_ (by simp) ?_
  unfold Gae_
  simp (maxSteps := 10000000) (disch := omega) only [vqA, tagOf, reduceIte, reduceCtorEq, reduceEqDiff, reduceAdd, reduceSub, reduceMul, reduceLT, reduceLeDiff, reduceToNat, Nat.reduceBEq, tqA]
  refine (rnum_ok o p r h x).mono ?_
  rintro u h1 ⟨x1, b1, rfl⟩
  simp (maxSteps := 10000000) (disch := omega) only [vqA, tagOf, reduceIte, reduceCtorEq, reduceEqDiff, reduceAdd, reduceSub, reduceMul, reduceLT, reduceLeDiff, reduceToNat, Nat.reduceBEq, tqA]
  refine (take_ok o p _ _ h1 x1).mono ?_
  rintro u h2 ⟨x2, b2, w, rfl, hw, ow⟩
  simp (maxSteps := 10000000) (disch := omega) only [vqA, tagOf, reduceIte, reduceCtorEq, reduceEqDiff, reduceAdd, reduceSub, reduceMul, reduceLT, reduceLeDiff, reduceToNat, Nat.reduceBEq, tqA]
  exact ⟨x2, b1.trans b2, hw, ow⟩
theorem rtext_ok (o p : Nat) (r : Rd) (h : Heap) (x : Rdr o h p r) : Ret E Fl_ [.pointer (some ⟨p, 0, none⟩)] h (fun u h' => Rdr o h' p (bytesR r).2 ∧ But p p h h' ∧ u = .string (strOf (bytesR r).1)) := by
  refine ret_fun IU_ (by simp) ?_
  unfold GaF_
  simp (maxSteps := 10000000) (disch := omega) only [vqA, tagOf, reduceIte, reduceCtorEq, reduceEqDiff, reduceAdd, reduceSub, reduceMul, reduceLT, reduceLeDiff, reduceToNat, Nat.reduceBEq, tqA]
  refine (rbytes_ok o p r h x).mono ?_
  rintro u h1 ⟨x1, b1, hw, ow⟩
  simp (maxSteps := 10000000) (disch := omega) only [vqA, tagOf, reduceIte, reduceCtorEq, reduceEqDiff, reduceAdd, reduceSub, reduceMul, reduceLT, reduceLeDiff, reduceToNat, Nat.reduceBEq, tqA, text_bytes hw]
  exact ⟨x1, b1⟩
theorem left_ok (o p : Nat) (r : Rd) (h : Heap) (x : Rdr o h p r) (Q : Value → Heap → Prop) : Ret E Fx_ [.pointer (some ⟨p, 0, none⟩)] h Q = Q (.int .i64 (r.getD []).length) h := by
  refine Ret.eq ?_ Q
  refine ret_fun IM_ (by simp) ?_
  unfold G9_
  cases r with
  | none =>
    obtain ⟨hp, hg⟩ := x
    simp (maxSteps := 10000000) (disch := omega) only [vqA, tagOf, reduceIte, reduceCtorEq, reduceEqDiff, reduceAdd, reduceSub, reduceMul, reduceLT, reduceLeDiff, reduceToNat, Nat.reduceBEq, tqA, hg]
    rfl
  | some l =>
    obtain ⟨hp, hl, v, hg, hv, ho, hne, hcut⟩ := x
    obtain ⟨a, c, rfl⟩ := hv.is
    simp (maxSteps := 10000000) (disch := omega) only [vqA, tagOf, reduceIte, reduceCtorEq, reduceEqDiff, reduceAdd, reduceSub, reduceMul, reduceLT, reduceLeDiff, reduceToNat, Nat.reduceBEq, tqA, hg, Option.getD_some]
theorem end_ok (o p : Nat) (r : Rd) (h : Heap) (x : Rdr o h p r) (Q : Value → Heap → Prop) : Ret E FI_ [.pointer (some ⟨p, 0, none⟩)] h Q = Q (if r = some [] then .nilIface else .iface TA_ (.int .i64 2)) h := by
  refine Ret.eq ?_ Q
  refine ret_fun Im_ (by simp) ?_
  unfold Gs_
  cases r with
  | none =>
    obtain ⟨hp, hg⟩ := x
    rw [if_neg (by simp)]
    simp (maxSteps := 10000000) (disch := omega) only [vqA, tagOf, reduceIte, reduceCtorEq, reduceEqDiff, reduceAdd, reduceSub, reduceMul, reduceLT, reduceLeDiff, reduceToNat, Nat.reduceBEq, tqA, hg]
  | some l =>
    obtain ⟨hp, hl, v, hg, hv, ho, hne, hcut⟩ := x
    obtain ⟨a, c, rfl⟩ := hv.is
    cases l with
    | nil =>
      rw [if_pos rfl]
      simp (maxSteps := 10000000) (disch := omega) only [vqA, tagOf, reduceIte, reduceCtorEq, reduceEqDiff, reduceAdd, reduceSub, reduceMul, reduceLT, reduceLeDiff, reduceToNat, Nat.reduceBEq, tqA, hg]
    | cons b l =>
      rw [if_neg (by simp)]
      have : 0 < (b :: l).length := by simp
      simp (maxSteps := 10000000) (disch := omega) only [vqA, tagOf, reduceIte, reduceCtorEq, reduceEqDiff, reduceAdd, reduceSub, reduceMul, reduceLT, reduceLeDiff, reduceToNat, Nat.reduceBEq, tqA, hg]
theorem new_ok (d : Value) (m : List UInt8) (h : Heap) (hd : BRow h d m) (hl : m.length ≤ 100000000) : Ret E FH_ [d] h (fun u h' => Grow h h' ∧ ∃ p, h.next ≤ p ∧ u = .pointer (some ⟨p, 0, none⟩) ∧ Rdr h.next h' p (some m)) := by
  refine ret_fun I0_ (by simp) ?_
  unfold GaB_
  simp (maxSteps := 10000000) (disch := omega) only [vqA, tagOf, reduceIte, reduceCtorEq, reduceEqDiff, reduceAdd, reduceSub, reduceMul, reduceLT, reduceLeDiff, reduceToNat, Nat.reduceBEq, tqA]
  refine (cloneB_ok d m h hd hl).mono ?_
  rintro u h1 ⟨g1, hu, hf, hc, hne⟩
  obtain ⟨a, c, rfl⟩ := hu.is
  simp (maxSteps := 10000000) (disch := omega) only [vqA, tagOf, reduceIte, reduceCtorEq, reduceEqDiff, reduceAdd, reduceSub, reduceMul, reduceLT, reduceLeDiff, reduceToNat, Nat.reduceBEq, tqA]
  have gn := Grow.new h1 (.cells [.slice a m.length c, .bool false] true none)
  have hlt := g1.next
  refine ⟨g1.trans gn, h1.next, hlt, rfl, Nat.lt_succ_self _, hl, _, get_new_same _ _, RowV.grow hu gn, fun b hb => ⟨?_, hf b hb⟩, hne, fun b hb => ?_⟩
  · show b < h1.next
    have hb2 : b < h1.next := by
      rcases hu with ⟨e | e, _⟩ | ⟨b2, o2, n, c2, row, w, q, hb2, e, _⟩
      · rw [e] at hb; cases hb
      · exact absurd e hne
      · rw [e] at hb; cases hb; exact hb2
    omega
  · obtain ⟨cs, w, q, e, hq⟩ := hc b hb
    have hb2 : b < h1.next := by
      rcases hu with ⟨e | e, _⟩ | ⟨b2, o2, n, c2, row, w, q, hb2, e, _⟩
      · rw [e] at hb; cases hb
      · exact absurd e hne
      · rw [e] at hb; cases hb; exact hb2
    exact ⟨cs, w, q, (gn.get b hb2).trans e, hq⟩
end Go.Proofs.Ytdmakachnphddaa.C
