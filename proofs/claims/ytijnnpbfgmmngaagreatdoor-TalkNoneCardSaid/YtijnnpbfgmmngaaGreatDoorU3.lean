/- U3: what is told; bytes of hex; pairs of names. -/
import Derived.Test.YtijnnpbfgmmngaaGreatDoorU2
import Derived.Test.YtijnnpbfgmmngaaGreatDoorTm
import Derived.Test.YtijnnpbfgmmngaaGreatDoorVgI
open Go Go.Vi Go.Tk
namespace Go.Proofs.YtijnnpbfgmmngaaGreatDoor.C
set_option linter.unusedSimpArgs false
set_option maxRecDepth 100000
set_option maxHeartbeats 40000000
theorem ret_told {f : FuncId} {g : List Value → Heap → Option (Value × Heap)} (hr : E.row f = none) (hx : E.ext f = some g) {args : List Value} {h h' : Heap} {v : Value} (hg : g args h = some (v, h')) (Q : Value → Heap → Prop) : Ret E f args h Q = Q v h' :=
  Ret.eq (ret_ext hr hx hg ⟨rfl, rfl⟩) Q
theorem cut_ret {w : List UInt8} (hw : w.length ≤ 100000) (h : Heap) (Q : Value → Heap → Prop) : Ret E f_strings_Cut [.string (strOf w), .string (strOf [64])] h Q = Q (.tuple ⟨[.string (strOf (twoOf w).1), .string (strOf (twoOf w).2.1), .bool (twoOf w).2.2]⟩) h :=
  by
  refine ret_told (by kernel_rfl) (g := cutX) (by kernel_rfl) ?_ Q
  exact (if_pos hw : (if (strOf w).size ≤ 100000 then _ else none) = _)
theorem number_ret {w : List UInt8} (hw : w.length ≤ 100000) (h : Heap) (Q : Value → Heap → Prop) : Ret E f_talk_number [.string (strOf w)] h Q = Q (.tuple ⟨[.int .i64 (numV w), .bool (numB w)]⟩) h :=
  by
  refine ret_told (by kernel_rfl) (g := numberX) (by kernel_rfl) ?_ Q
  exact (if_pos hw : (if (strOf w).size ≤ 100000 then _ else none) = _)
theorem figures_ret {z : Int} (h0 : -9223372036854775808 ≤ z) (h1 : z ≤ 9223372036854775807) (h : Heap) (Q : Value → Heap → Prop) : Ret E f_laminaref25_Figures [.int .i64 z] h Q = Q (.string (strOf (Lib.itoa z))) h :=
  by
  refine ret_told (by kernel_rfl) (g := itoaX) (by kernel_rfl) ?_ Q
  exact (if_pos ⟨h0, h1⟩ : (if -9223372036854775808 ≤ z ∧ z ≤ 9223372036854775807 then _ else none) = _)
theorem alive_ret (h : Heap) (Q : Value → Heap → Prop) : Ret E f_laminalaw25_alive [] h Q = Q (.bool true) h := ret_told (by kernel_rfl) (g := aliveX) (by kernel_rfl) rfl Q
theorem split_ret {w : List UInt8} (hw : w.length ≤ 100000) (h : Heap) (Q : Value → Heap → Prop) : Ret E f_strings_Split [.string (strOf w), .string (strOf [32])] h Q =
    Q (.slice (some ⟨h.next, 0, none⟩) (wordsL w).length (wordsL w).length) (h.new (.cells (textsV (wordsL w)) true none)) :=
  by
  refine ret_told (by kernel_rfl) (g := splitX) (by kernel_rfl) ?_ Q
  exact (if_pos hw : (if (strOf w).size ≤ 100000 then _ else none) = _)
def signsT : List UInt8 := [48, 49, 50, 51, 52, 53, 54, 55, 56, 57, 97, 98, 99, 100, 101, 102]
def digI (c : UInt8) : Int := match digOf c with
  | some d => d
  | none => -1
theorem index_sign (c : UInt8) : indexN (strOf signsT) (c.toNat : Int) = digI c := by
  have h : ∀ n : Fin 256, indexN (strOf signsT) (((UInt8.ofNat n.val).toNat : Nat) : Int) = digI (UInt8.ofNat n.val) := by decide +kernel
  have := h ⟨c.toNat, c.toNat_lt⟩
  rwa [UInt8.ofNat_toNat] at this
theorem indexByte_ret (c : UInt8) (h : Heap) (Q : Value → Heap → Prop) : Ret E f_strings_IndexByte [.string (strOf [48, 49, 50, 51, 52, 53, 54, 55, 56, 57, 97, 98, 99, 100, 101, 102]), .int .u8 c.toNat] h Q = Q (.int .i64 (digI c)) h := by
  refine Ret.eq ?_ Q
  refine ret_fun is_strings_IndexByte (by simp) ?_
  unfold g_strings_IndexByte
  simp (maxSteps := 10000000) (disch := omega) only [vq0, vq1, vq2, vq3, vq4, vq5, tagOf, reduceIte, reduceCtorEq, Nat.reduceEqDiff, Nat.reduceAdd, Nat.reduceSub, Nat.reduceMul, Nat.reduceLT, Nat.reduceLeDiff, Int.reduceToNat, Nat.reduceBEq, tq1, tq2, tq3]
  refine ret_fun is_internal_stringslite_IndexByte (by simp) ?_
  unfold g_internal_stringslite_IndexByte
  simp (maxSteps := 10000000) (disch := omega) only [vq0, vq1, vq2, vq3, vq4, vq5, tagOf, reduceIte, reduceCtorEq, Nat.reduceEqDiff, Nat.reduceAdd, Nat.reduceSub, Nat.reduceMul, Nat.reduceLT, Nat.reduceLeDiff, Int.reduceToNat, Nat.reduceBEq, tq1, tq2, tq3]
  refine ret_row (g := indexBV) (by kernel_rfl) rfl ?_
  simp (maxSteps := 10000000) (disch := omega) only [vq0, vq1, vq2, vq3, vq4, vq5, tagOf, reduceIte, reduceCtorEq, Nat.reduceEqDiff, Nat.reduceAdd, Nat.reduceSub, Nat.reduceMul, Nat.reduceLT, Nat.reduceLeDiff, Int.reduceToNat, Nat.reduceBEq, tq1, tq2, tq3]
  rw [← index_sign]
  rfl
theorem dig_cases (c : UInt8) : (digOf c = none ∧ digI c = -1) ∨ ∃ d : Nat, digOf c = some d ∧ digI c = d ∧ d < 16 := by
  unfold digI digOf
  split
  · rename_i h
    refine .inr ⟨c.toNat - 48, rfl, rfl, by omega⟩
  · split
    · rename_i h
      refine .inr ⟨c.toNat - 87, rfl, rfl, by omega⟩
    · exact .inl ⟨rfl, rfl⟩
def isI (x : Option Value) (n : Int) : Bool := match x with
  | some (.int .i64 m) => m == n
  | _ => false
theorem isI_eq {x : Option Value} {n : Int} (h : isI x n = true) : x = some (.int .i64 n) := by
  unfold isI at h
  split at h
  · rw [beq_iff_eq] at h; rw [h]
  · cases h
theorem shl_ok {a : Nat} (ha : a < 16) (c : Bool) (t : TypeId) : binV E .shl t c (.int .i64 a) (.int .u64 4) = some (.int .i64 (16 * a : Nat)) := by
  have h : ∀ a : Fin 16, isI (arithV .shl .i64 (a.val : Nat) 4) ((16 * a.val : Nat) : Int) = true := by decide +kernel
  exact isI_eq (h ⟨a, ha⟩)
theorem or_ok {a b : Nat} (ha : a < 16) (hb : b < 16) : arithV .or .i64 ((16 * a : Nat) : Int) b = some (.int .i64 ((16 * a + b : Nat) : Int)) := by
  have h : ∀ a b : Fin 16, isI (arithV .or .i64 ((16 * a.val : Nat) : Int) (b.val : Nat)) ((16 * a.val + b.val : Nat) : Int) = true := by decide +kernel
  exact isI_eq (h ⟨a, ha⟩ ⟨b, hb⟩)
end Go.Proofs.YtijnnpbfgmmngaaGreatDoor.C
