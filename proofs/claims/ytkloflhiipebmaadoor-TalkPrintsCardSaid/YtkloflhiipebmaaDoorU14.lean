/- U14: hex, and the word that a verb wants. -/
import Derived.Test.YtkloflhiipebmaaDoorU12
import Derived.Test.YtkloflhiipebmaaDoorTp
open Go Go.Vi Go.Tk
namespace Go.Proofs.YtkloflhiipebmaaDoor.C
set_option linter.unusedSimpArgs false
set_option maxRecDepth 100000
set_option maxHeartbeats 40000000
structure OpOk (o : TOp) : Prop where
  image : o.image.length ≤ 1500
  snap : o.snap.length ≤ 1500
  snap2 : o.snap2.length ≤ 1500
  parent : o.parent.length ≤ 1500
  data : o.data.length ≤ 2000
  at_ : inR o.at_
  len : inR o.len
  size : inR o.size
  object : inR o.object
  kind : inR o.kind
def RowG (h : Heap) (d : Value) (l : List UInt8) : Prop := (d = .slice none 0 0 ∧ l = []) ∨ ∃ b o c row w p, b < h.next ∧ d = .slice (some ⟨b, o, none⟩) l.length c ∧ h.get b = some (.cells row w p) ∧ o + l.length ≤ row.length ∧ (row.drop o).take l.length = l.map byteV
theorem RowG.grow {h h' : Heap} {d : Value} {l : List UInt8} (x : RowG h d l) (g : Grow h h') : RowG h' d l := by
  rcases x with x | ⟨b, o, c, row, w, p, hb, hd, hg, h1, h2⟩
  · exact .inl x
  · exact .inr ⟨b, o, c, row, w, p, Nat.lt_of_lt_of_le hb g.next, hd, by rw [g.get b hb]; exact hg, h1, h2⟩
theorem RowAt.g {h : Heap} {d : Value} {l : List UInt8} (x : RowAt h d l) : RowG h d l := by
  rcases x with x | ⟨c, hc, hd, hg⟩
  · exact .inl x
  · exact .inr ⟨c, 0, l.length, _, _, _, hc, hd, hg, by simp, by rw [List.drop_zero, List.take_of_length_le (by simp)]⟩
theorem RowG.cells {h : Heap} {b o : Nat} {l : List UInt8} {row : List Value} {w : Bool} {p : Option (Nat × Nat)} (hg : h.get b = some (.cells row w p)) (h1 : o + l.length ≤ row.length) (h2 : (row.drop o).take l.length = l.map byteV) : cellsAt (h.get b) o l.length = some (l.map byteV) := by
  rw [hg]
  unfold cellsAt
  simp only
  rw [if_pos h1, h2]
theorem row_text {h : Heap} {d : Value} {l : List UInt8} (hr : RowG h d l) : orK (atH h (orK (convV E t_s_uint8 t_string d) (convR E t_s_uint8 t_string d h))) (newK h (convN E t_s_uint8 t_string d)) = some (.string (strOf l), h) := by
  rcases hr with ⟨rfl, rfl⟩ | ⟨b, o, c, row, w, p, hb, rfl, hg, h1, h2⟩
  · simp (maxSteps := 10000000) (disch := omega) only [vq0, vq1, vq2, vq3, vq4, vq5, tagOf, reduceIte, reduceCtorEq, Nat.reduceEqDiff, Nat.reduceAdd, Nat.reduceSub, Nat.reduceMul, Nat.reduceLT, Nat.reduceLeDiff, Int.reduceToNat, Nat.reduceBEq, tq1, tq2, tq3]
  · simp (maxSteps := 10000000) (disch := omega) only [vq0, vq1, vq2, vq3, vq4, vq5, tagOf, reduceIte, reduceCtorEq, Nat.reduceEqDiff, Nat.reduceAdd, Nat.reduceSub, Nat.reduceMul, Nat.reduceLT, Nat.reduceLeDiff, Int.reduceToNat, Nat.reduceBEq, tq1, tq2, tq3, RowG.cells hg h1 h2]
theorem hexX_row {h : Heap} {d : Value} {l : List UInt8} (hr : RowG h d l) (hl : l.length ≤ 2000) : hexX hexS [d] h = some (.string (strOf (hexS l)), h) := by
  rcases hr with ⟨rfl, rfl⟩ | ⟨b, o, c, row, w, p, hb, rfl, hg, h1, h2⟩
  · rfl
  · unfold hexX
    simp only [RowG.cells hg h1 h2, unbytes_map]
    rw [if_pos ⟨hl, all_bytes l⟩]
theorem hexOf_ret {h : Heap} {d : Value} {l : List UInt8} (hr : RowG h d l) (hl : l.length ≤ 2000) (Q : Value → Heap → Prop) : Ret E f_talk_hexOf [d] h Q = Q (.string (strOf (hexS l))) h := by
  refine ret_told (by kernel_rfl) (g := hexX hexS) (by kernel_rfl) ?_ Q
  exact hexX_row hr hl
theorem refHex_ret {h : Heap} {d : Value} {l : List UInt8} (hr : RowG h d l) (hl : l.length ≤ 2000) (Q : Value → Heap → Prop) : Ret E f_laminaref25_Hex [d] h Q = Q (.string (strOf (hexS l))) h := by
  refine ret_told (by kernel_rfl) (g := hexX hexS) (by kernel_rfl) ?_ Q
  exact hexX_row hr hl
theorem join_ret {h : Heap} {b : Nat} {ws : List (List UInt8)} {n c : Nat} {p : Option (Nat × Nat)} (hg : h.get b = some (.cells (textsV ws) true p)) (hn : n = ws.length) (h1 : ws.length ≤ 100000) (h2 : (Lib.join ws [32]).length ≤ 1000000) (Q : Value → Heap → Prop) :
    Ret E f_strings_Join [.slice (some ⟨b, 0, none⟩) n c, .string (strOf [32])] h Q = Q (.string (strOf (Lib.join ws [32]))) h := by
  subst hn
  refine ret_told (by kernel_rfl) (g := joinX) (by kernel_rfl) ?_ Q
  unfold joinX
  have hc : cellsAt (h.get b) 0 ws.length = some (textsV ws) := by
    rw [hg]
    unfold cellsAt
    have hl : (textsV ws).length = ws.length := by unfold textsV; rw [List.length_map]
    simp only [Nat.zero_add, List.drop_zero]
    rw [if_pos (by omega), List.take_of_length_le (by omega)]
  simp only [hc, unstrs_texts]
  rw [show strL (strOf [32]) = [32] from rfl, if_pos ⟨h1, h2⟩]
theorem word_ok (o : TOp) (d : Value) (a : UInt8) (h : Heap) (ok : OpOk o) (hd : RowG h d o.data) : Ret E f_talk_word [.agg ⟨opC o d⟩, .int .u8 a.toNat] h (fun v h' => Grow h h' ∧ v = .string (strOf (wordT o a))) := by
  refine ret_fun is_talk_word (by simp) ?_
  unfold g_talk_word opC
  have k1 := ok.image
  have k2 := ok.snap
  have k3 := ok.snap2
  have k4 := ok.parent
  have k5 := ok.data
  obtain ⟨k60, k61⟩ := ok.at_
  obtain ⟨k70, k71⟩ := ok.len
  obtain ⟨k80, k81⟩ := ok.size
  obtain ⟨k90, k91⟩ := ok.object
  have gr : ∀ b : Blk, Grow h (h.new b) := Grow.new h
  by_cases c105 : a.toNat = 105
  · have hw : wordT o a = o.image := by unfold wordT; rw [if_pos c105]
    rw [hw]
    simp (maxSteps := 10000000) (disch := omega) only [vq0, vq1, vq2, vq3, vq4, vq5, tagOf, reduceIte, reduceCtorEq, Nat.reduceEqDiff, Nat.reduceAdd, Nat.reduceSub, Nat.reduceMul, Nat.reduceLT, Nat.reduceLeDiff, Int.reduceToNat, Nat.reduceBEq, tq1, tq2, tq3]
    exact gr _
  by_cases c118 : a.toNat = 118
  · by_cases hs : o.snap = []
    · have hw : wordT o a = o.image := by unfold wordT; rw [if_neg c105, if_pos c118]; rw [if_pos hs]
      have hsb : (o.snap == []) = true := by rw [hs]; rfl
      rw [hw]
      simp (maxSteps := 10000000) (disch := omega) only [vq0, vq1, vq2, vq3, vq4, vq5, tagOf, reduceIte, reduceCtorEq, Nat.reduceEqDiff, Nat.reduceAdd, Nat.reduceSub, Nat.reduceMul, Nat.reduceLT, Nat.reduceLeDiff, Int.reduceToNat, Nat.reduceBEq, tq1, tq2, tq3, hsb]
      exact gr _
    · have hw : wordT o a = (o.image ++ [64]) ++ o.snap := by unfold wordT; rw [if_neg c105, if_pos c118]; rw [if_neg hs]; simp
      have hsb : (o.snap == []) = false := by rw [beq_eq_false_iff_ne]; exact hs
      have ha1 : strV .add (strOf o.image) (strOf [64]) = some (.string (strOf (o.image ++ [64]))) := str_add (by simp; omega)
      have ha2 : strV .add (strOf (o.image ++ [64])) (strOf o.snap) = some (.string (strOf ((o.image ++ [64]) ++ o.snap))) := str_add (by simp; omega)
      rw [hw]
      simp (maxSteps := 10000000) (disch := omega) only [vq0, vq1, vq2, vq3, vq4, vq5, tagOf, reduceIte, reduceCtorEq, Nat.reduceEqDiff, Nat.reduceAdd, Nat.reduceSub, Nat.reduceMul, Nat.reduceLT, Nat.reduceLeDiff, Int.reduceToNat, Nat.reduceBEq, tq1, tq2, tq3, hsb, ha1, ha2]
      exact gr _
  by_cases c115 : a.toNat = 115
  · have hw : wordT o a = (o.image ++ [64]) ++ o.snap := by unfold wordT; rw [if_neg c105, if_neg c118, if_pos c115]; simp
    have ha1 : strV .add (strOf o.image) (strOf [64]) = some (.string (strOf (o.image ++ [64]))) := str_add (by simp; omega)
    have ha2 : strV .add (strOf (o.image ++ [64])) (strOf o.snap) = some (.string (strOf ((o.image ++ [64]) ++ o.snap))) := str_add (by simp; omega)
    rw [hw]
    simp (maxSteps := 10000000) (disch := omega) only [vq0, vq1, vq2, vq3, vq4, vq5, tagOf, reduceIte, reduceCtorEq, Nat.reduceEqDiff, Nat.reduceAdd, Nat.reduceSub, Nat.reduceMul, Nat.reduceLT, Nat.reduceLeDiff, Int.reduceToNat, Nat.reduceBEq, tq1, tq2, tq3, ha1, ha2]
    exact gr _
  by_cases c112 : a.toNat = 112
  · have hw : wordT o a = (o.parent ++ [64]) ++ o.snap := by unfold wordT; rw [if_neg c105, if_neg c118, if_neg c115, if_pos c112]; simp
    have ha1 : strV .add (strOf o.parent) (strOf [64]) = some (.string (strOf (o.parent ++ [64]))) := str_add (by simp; omega)
    have ha2 : strV .add (strOf (o.parent ++ [64])) (strOf o.snap) = some (.string (strOf ((o.parent ++ [64]) ++ o.snap))) := str_add (by simp; omega)
    rw [hw]
    simp (maxSteps := 10000000) (disch := omega) only [vq0, vq1, vq2, vq3, vq4, vq5, tagOf, reduceIte, reduceCtorEq, Nat.reduceEqDiff, Nat.reduceAdd, Nat.reduceSub, Nat.reduceMul, Nat.reduceLT, Nat.reduceLeDiff, Int.reduceToNat, Nat.reduceBEq, tq1, tq2, tq3, ha1, ha2]
    exact gr _
  by_cases c50 : a.toNat = 50
  · by_cases hs : o.snap2 = []
    · have hw : wordT o a = [45] := by unfold wordT; rw [if_neg c105, if_neg c118, if_neg c115, if_neg c112, if_pos c50]; rw [if_pos hs]
      have hsb : (o.snap2 == []) = true := by rw [hs]; rfl
      rw [hw]
      simp (maxSteps := 10000000) (disch := omega) only [vq0, vq1, vq2, vq3, vq4, vq5, tagOf, reduceIte, reduceCtorEq, Nat.reduceEqDiff, Nat.reduceAdd, Nat.reduceSub, Nat.reduceMul, Nat.reduceLT, Nat.reduceLeDiff, Int.reduceToNat, Nat.reduceBEq, tq1, tq2, tq3, hsb]
      exact gr _
    · have hw : wordT o a = o.snap2 := by unfold wordT; rw [if_neg c105, if_neg c118, if_neg c115, if_neg c112, if_pos c50]; rw [if_neg hs]
      have hsb : (o.snap2 == []) = false := by rw [beq_eq_false_iff_ne]; exact hs
      rw [hw]
      simp (maxSteps := 10000000) (disch := omega) only [vq0, vq1, vq2, vq3, vq4, vq5, tagOf, reduceIte, reduceCtorEq, Nat.reduceEqDiff, Nat.reduceAdd, Nat.reduceSub, Nat.reduceMul, Nat.reduceLT, Nat.reduceLeDiff, Int.reduceToNat, Nat.reduceBEq, tq1, tq2, tq3, hsb]
      exact gr _
  by_cases c97 : a.toNat = 97
  · have hw : wordT o a = Lib.itoa o.at_ := by unfold wordT; rw [if_neg c105, if_neg c118, if_neg c115, if_neg c112, if_neg c50, if_pos c97]
    rw [hw]
    simp (maxSteps := 10000000) (disch := omega) only [vq0, vq1, vq2, vq3, vq4, vq5, tagOf, reduceIte, reduceCtorEq, Nat.reduceEqDiff, Nat.reduceAdd, Nat.reduceSub, Nat.reduceMul, Nat.reduceLT, Nat.reduceLeDiff, Int.reduceToNat, Nat.reduceBEq, tq1, tq2, tq3, itoa_ret k60 k61]
    exact gr _
  by_cases c108 : a.toNat = 108
  · have hw : wordT o a = Lib.itoa o.len := by unfold wordT; rw [if_neg c105, if_neg c118, if_neg c115, if_neg c112, if_neg c50, if_neg c97, if_pos c108]
    rw [hw]
    simp (maxSteps := 10000000) (disch := omega) only [vq0, vq1, vq2, vq3, vq4, vq5, tagOf, reduceIte, reduceCtorEq, Nat.reduceEqDiff, Nat.reduceAdd, Nat.reduceSub, Nat.reduceMul, Nat.reduceLT, Nat.reduceLeDiff, Int.reduceToNat, Nat.reduceBEq, tq1, tq2, tq3, itoa_ret k70 k71]
    exact gr _
  by_cases c122 : a.toNat = 122
  · have hw : wordT o a = Lib.itoa o.size := by unfold wordT; rw [if_neg c105, if_neg c118, if_neg c115, if_neg c112, if_neg c50, if_neg c97, if_neg c108, if_pos c122]
    rw [hw]
    simp (maxSteps := 10000000) (disch := omega) only [vq0, vq1, vq2, vq3, vq4, vq5, tagOf, reduceIte, reduceCtorEq, Nat.reduceEqDiff, Nat.reduceAdd, Nat.reduceSub, Nat.reduceMul, Nat.reduceLT, Nat.reduceLeDiff, Int.reduceToNat, Nat.reduceBEq, tq1, tq2, tq3, itoa_ret k80 k81]
    exact gr _
  by_cases c111 : a.toNat = 111
  · have hw : wordT o a = Lib.itoa o.object := by unfold wordT; rw [if_neg c105, if_neg c118, if_neg c115, if_neg c112, if_neg c50, if_neg c97, if_neg c108, if_neg c122, if_pos c111]
    rw [hw]
    simp (maxSteps := 10000000) (disch := omega) only [vq0, vq1, vq2, vq3, vq4, vq5, tagOf, reduceIte, reduceCtorEq, Nat.reduceEqDiff, Nat.reduceAdd, Nat.reduceSub, Nat.reduceMul, Nat.reduceLT, Nat.reduceLeDiff, Int.reduceToNat, Nat.reduceBEq, tq1, tq2, tq3, itoa_ret k90 k91]
    exact gr _
  by_cases c100 : a.toNat = 100
  · have hw : wordT o a = hexS o.data := by unfold wordT; rw [if_neg c105, if_neg c118, if_neg c115, if_neg c112, if_neg c50, if_neg c97, if_neg c108, if_neg c122, if_neg c111, if_pos c100]
    have hx := fun b Q => hexOf_ret (Q := Q) (hd.grow (gr b)) k5
    rw [hw]
    simp (maxSteps := 10000000) (disch := omega) only [vq0, vq1, vq2, vq3, vq4, vq5, tagOf, reduceIte, reduceCtorEq, Nat.reduceEqDiff, Nat.reduceAdd, Nat.reduceSub, Nat.reduceMul, Nat.reduceLT, Nat.reduceLeDiff, Int.reduceToNat, Nat.reduceBEq, tq1, tq2, tq3, hx]
    exact gr _
  cases hon : o.on with
  | true =>
    have hw : wordT o a = [111, 110] := by unfold wordT; rw [if_neg c105, if_neg c118, if_neg c115, if_neg c112, if_neg c50, if_neg c97, if_neg c108, if_neg c122, if_neg c111, if_neg c100]; rw [hon]; rfl
    rw [hw]
    simp (maxSteps := 10000000) (disch := omega) only [vq0, vq1, vq2, vq3, vq4, vq5, tagOf, reduceIte, reduceCtorEq, Nat.reduceEqDiff, Nat.reduceAdd, Nat.reduceSub, Nat.reduceMul, Nat.reduceLT, Nat.reduceLeDiff, Int.reduceToNat, Nat.reduceBEq, tq1, tq2, tq3]
    exact gr _
  | false =>
    have hw : wordT o a = [111, 102, 102] := by unfold wordT; rw [if_neg c105, if_neg c118, if_neg c115, if_neg c112, if_neg c50, if_neg c97, if_neg c108, if_neg c122, if_neg c111, if_neg c100]; rw [hon]; rfl
    rw [hw]
    simp (maxSteps := 10000000) (disch := omega) only [vq0, vq1, vq2, vq3, vq4, vq5, tagOf, reduceIte, reduceCtorEq, Nat.reduceEqDiff, Nat.reduceAdd, Nat.reduceSub, Nat.reduceMul, Nat.reduceLT, Nat.reduceLeDiff, Int.reduceToNat, Nat.reduceBEq, tq1, tq2, tq3]
    exact gr _
end Go.Proofs.YtkloflhiipebmaaDoor.C
