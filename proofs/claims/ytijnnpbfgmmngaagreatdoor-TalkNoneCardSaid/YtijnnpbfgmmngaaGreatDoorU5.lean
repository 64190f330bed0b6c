/- U5: a word, put where a verb wants it. -/
import Derived.Test.YtijnnpbfgmmngaaGreatDoorU4
open Go Go.Vi Go.Tk
namespace Go.Proofs.YtijnnpbfgmmngaaGreatDoor.C
set_option linter.unusedSimpArgs false
set_option maxRecDepth 100000
set_option maxHeartbeats 40000000
theorem two_len (w : List UInt8) : (twoOf w).1.length ≤ w.length ∧ (twoOf w).2.1.length ≤ w.length := by
  induction w with
  | nil => exact ⟨Nat.le_refl _, Nat.le_refl _⟩
  | cons b r ih =>
    unfold twoOf
    split
    · simp
    · simp; omega
theorem pair_ok (w : List UInt8) (hw : w.length ≤ 100000) (h : Heap) :
    Ret E f_talk_pair [.string (strOf w)] h (fun v h' => v = .tuple ⟨[.string (strOf (twoOf w).1), .string (strOf (twoOf w).2.1), .bool (pairB w)]⟩ ∧ Grow h h') := by
  have hl := two_len w
  refine ret_fun is_talk_pair (by simp) ?_
  unfold g_talk_pair pairB
  simp (maxSteps := 10000000) (disch := omega) only [vq0, vq1, vq2, vq3, vq4, vq5, tagOf, reduceIte, reduceCtorEq, Nat.reduceEqDiff, Nat.reduceAdd, Nat.reduceSub, Nat.reduceMul, Nat.reduceLT, Nat.reduceLeDiff, Int.reduceToNat, Nat.reduceBEq, tq1, tq2, tq3, cut_ret hw]
  cases hc : (twoOf w).2.2 with
  | false =>
    simp (maxSteps := 10000000) (disch := omega) only [vq0, vq1, vq2, vq3, vq4, vq5, tagOf, reduceIte, reduceCtorEq, Nat.reduceEqDiff, Nat.reduceAdd, Nat.reduceSub, Nat.reduceMul, Nat.reduceLT, Nat.reduceLeDiff, Int.reduceToNat, Nat.reduceBEq, tq1, tq2, tq3]
    exact .refl _
  | true =>
    simp (maxSteps := 10000000) (disch := omega) only [vq0, vq1, vq2, vq3, vq4, vq5, tagOf, reduceIte, reduceCtorEq, Nat.reduceEqDiff, Nat.reduceAdd, Nat.reduceSub, Nat.reduceMul, Nat.reduceLT, Nat.reduceLeDiff, Int.reduceToNat, Nat.reduceBEq, tq1, tq2, tq3]
    refine (named_ok _ (by omega) _).mono ?_
    rintro v h1 ⟨rfl, g1⟩
    cases hn : namedB (twoOf w).1 with
    | false =>
      simp (maxSteps := 10000000) (disch := omega) only [vq0, vq1, vq2, vq3, vq4, vq5, tagOf, reduceIte, reduceCtorEq, Nat.reduceEqDiff, Nat.reduceAdd, Nat.reduceSub, Nat.reduceMul, Nat.reduceLT, Nat.reduceLeDiff, Int.reduceToNat, Nat.reduceBEq, tq1, tq2, tq3]
      exact g1
    | true =>
      simp (maxSteps := 10000000) (disch := omega) only [vq0, vq1, vq2, vq3, vq4, vq5, tagOf, reduceIte, reduceCtorEq, Nat.reduceEqDiff, Nat.reduceAdd, Nat.reduceSub, Nat.reduceMul, Nat.reduceLT, Nat.reduceLeDiff, Int.reduceToNat, Nat.reduceBEq, tq1, tq2, tq3]
      refine (named_ok _ (by omega) _).mono ?_
      rintro v h2 ⟨rfl, g2⟩
      simp (maxSteps := 10000000) (disch := omega) only [vq0, vq1, vq2, vq3, vq4, vq5, tagOf, reduceIte, reduceCtorEq, Nat.reduceEqDiff, Nat.reduceAdd, Nat.reduceSub, Nat.reduceMul, Nat.reduceLT, Nat.reduceLeDiff, Int.reduceToNat, Nat.reduceBEq, tq1, tq2, tq3]
      exact g1.trans g2
def opC (o : TOp) (d : Value) : List Value := [.int .i64 o.kind, .string (strOf o.image), .string (strOf o.snap), .string (strOf o.snap2), .string (strOf o.parent), .int .i64 o.at_, .int .i64 o.len, .int .i64 o.size, .int .i64 o.object, d, .bool o.on]
structure GrowBut (b : Nat) (h h' : Heap) : Prop where
  next : h.next ≤ h'.next
  get : ∀ c, c < h.next → c ≠ b → h'.get c = h.get c
theorem GrowBut.of {b : Nat} {h h' : Heap} (g : Grow h h') : GrowBut b h h' := ⟨g.next, fun c hc _ => g.get c hc⟩
theorem GrowBut.set {b : Nat} {h h' : Heap} (g : GrowBut b h h') (o : Blk) : GrowBut b h (h'.set b o) := ⟨g.next, fun c hc hne => (get_set_ne hne).trans (g.get c hc hne)⟩
theorem GrowBut.trans {b : Nat} {x y z : Heap} (g : GrowBut b x y) (k : GrowBut b y z) : GrowBut b x z := ⟨Nat.le_trans g.next k.next, fun c hc hne => (k.get c (Nat.lt_of_lt_of_le hc g.next) hne).trans (g.get c hc hne)⟩
def DataAt (h : Heap) (b : Nat) (d : Value) (l : List UInt8) : Prop := (d = .slice none 0 0 ∧ l = []) ∨ ∃ c, c ≠ b ∧ c < h.next ∧ d = .slice (some ⟨c, 0, none⟩) l.length l.length ∧ h.get c = some (.cells (l.map byteV) true (some (1, t_uint8)))
theorem DataAt.keep {h h' : Heap} {b : Nat} {d : Value} {l : List UInt8} (x : DataAt h b d l) (g : GrowBut b h h') : DataAt h' b d l := by
  rcases x with x | ⟨c, hc, hlt, hd, hg⟩
  · exact .inl x
  · exact .inr ⟨c, hc, Nat.lt_of_lt_of_le hlt g.next, hd, by rw [g.get c hlt hc]; exact hg⟩
theorem data_of_own {h0 h : Heap} {b : Nat} {d : Value} {l : List UInt8} (o : isRowB h0 h d l) (hb : b < h0.next) : DataAt h b d l := by
  rcases o with ⟨rfl, hl⟩ | ⟨c, n, rfl, hn, hl, h1, h2, hg⟩
  · exact .inl ⟨rfl, by simpa using hl⟩
  · refine .inr ⟨c, by omega, h2, ?_, hg⟩
    rw [List.length_map] at hl
    rw [show n = l.length from by omega]
def TakeQ (b : Nat) (h : Heap) (x : Option TOp) (v : Value) (h' : Heap) : Prop := GrowBut b h h' ∧ match x with
  | some o => v = .bool true ∧ ∃ d, h'.get b = some (.cells (opC o d) true none) ∧ DataAt h' b d o.data
  | none => v = .bool false
theorem sized_ok (b : Nat) (o : TOp) (d : Value) (want : UInt8) (w : List UInt8) (hw : w.length ≤ 100000) (h : Heap) (hb : h.get b = some (.cells (opC o d) true none)) (hd : DataAt h b d o.data)
    (h1 : want.toNat ≠ 105) (h2 : want.toNat ≠ 118) (h3 : want.toNat ≠ 115) (h4 : want.toNat ≠ 112) (h5 : want.toNat ≠ 50) (h6 : want.toNat ≠ 100) (h7 : want.toNat ≠ 109) :
    Ret E f_talk_sized [.pointer (some ⟨b, 0, none⟩), .int .u8 want.toNat, .string (strOf w)] h (TakeQ b h (takeT o want w)) := by
  have fin : ∀ o' : TOp, o'.data = o.data → ∀ ok : Bool, TakeQ b h (if ok then some o' else none) (.bool ok) (h.set b (.cells (opC o' d) true none)) := fun o' ho ok => by
    have gb : GrowBut b h (h.set b (.cells (opC o' d) true none)) := GrowBut.set (.of (.refl _)) _
    refine ⟨gb, ?_⟩
    cases ok with
    | false => rfl
    | true => exact ⟨rfl, d, get_set_same _ _ _, by rw [ho]; exact hd.keep gb⟩
  refine ret_fun is_talk_sized (by simp) ?_
  unfold g_talk_sized takeT
  rw [if_neg h1, if_neg h2, if_neg h3, if_neg h4, if_neg h5, if_neg h6, if_neg h7]
  unfold opC at hb
  by_cases c1 : want.toNat = 97
  · rw [if_pos c1]
    simp (maxSteps := 10000000) (disch := omega) only [vq0, vq1, vq2, vq3, vq4, vq5, tagOf, reduceIte, reduceCtorEq, Nat.reduceEqDiff, Nat.reduceAdd, Nat.reduceSub, Nat.reduceMul, Nat.reduceLT, Nat.reduceLeDiff, Int.reduceToNat, Nat.reduceBEq, tq1, tq2, tq3, number_ret hw, hb]
    exact fin { o with at_ := numV w } rfl _
  rw [if_neg c1]
  by_cases c2 : want.toNat = 108
  · rw [if_pos c2]
    simp (maxSteps := 10000000) (disch := omega) only [vq0, vq1, vq2, vq3, vq4, vq5, tagOf, reduceIte, reduceCtorEq, Nat.reduceEqDiff, Nat.reduceAdd, Nat.reduceSub, Nat.reduceMul, Nat.reduceLT, Nat.reduceLeDiff, Int.reduceToNat, Nat.reduceBEq, tq1, tq2, tq3, number_ret hw, hb]
    exact fin { o with len := numV w } rfl _
  rw [if_neg c2]
  by_cases c3 : want.toNat = 122
  · rw [if_pos c3]
    simp (maxSteps := 10000000) (disch := omega) only [vq0, vq1, vq2, vq3, vq4, vq5, tagOf, reduceIte, reduceCtorEq, Nat.reduceEqDiff, Nat.reduceAdd, Nat.reduceSub, Nat.reduceMul, Nat.reduceLT, Nat.reduceLeDiff, Int.reduceToNat, Nat.reduceBEq, tq1, tq2, tq3, number_ret hw, hb]
    exact fin { o with size := numV w } rfl _
  rw [if_neg c3]
  by_cases c4 : want.toNat = 111
  · rw [if_pos c4]
    simp (maxSteps := 10000000) (disch := omega) only [vq0, vq1, vq2, vq3, vq4, vq5, tagOf, reduceIte, reduceCtorEq, Nat.reduceEqDiff, Nat.reduceAdd, Nat.reduceSub, Nat.reduceMul, Nat.reduceLT, Nat.reduceLeDiff, Int.reduceToNat, Nat.reduceBEq, tq1, tq2, tq3, number_ret hw, hb]
    exact fin { o with object := numV w } rfl _
  rw [if_neg c4]
  simp (maxSteps := 10000000) (disch := omega) only [vq0, vq1, vq2, vq3, vq4, vq5, tagOf, reduceIte, reduceCtorEq, Nat.reduceEqDiff, Nat.reduceAdd, Nat.reduceSub, Nat.reduceMul, Nat.reduceLT, Nat.reduceLeDiff, Int.reduceToNat, Nat.reduceBEq, tq1, tq2, tq3, number_ret hw, hb]
  exact ⟨.of (.refl _), rfl⟩
end Go.Proofs.YtijnnpbfgmmngaaGreatDoor.C
