/- K1: the walks: figures of bytes. -/
import Derived.Test.YtijnnpbfgmmngaaGreatDoorK0
import Derived.Test.YtijnnpbfgmmngaaGreatDoorKS
import Derived.WalkKit
import Derived.Below
import Derived.BigCall
open Go Go.Nm Go.Sort Go.RowKit
namespace Go.Proofs.YtijnnpbfgmmngaaGreatDoor.C
open Go.Vi (strOf KeptW)
def Lies (w : World) (a : Addr) (l : List UInt8) : Prop := a.block < w.heap.size ∧ ∀ j b, l[j]? = some b → w.cell? (a.add j) = some (.int .u8 (b.toNat : Int))
theorem add_block (a : Addr) (j : Nat) : (a.add j).block = a.block := by unfold Addr.add; split <;> rfl
theorem Lies.kept {w w' : World} {a : Addr} {l : List UInt8} (h : Lies w a l) (k : KeptW w w') : Lies w' a l :=
  ⟨Nat.lt_of_lt_of_le h.1 k.2.2.1, fun j b hj => by
    rw [← h.2 j b hj]
    unfold World.cell?
    rw [add_block, k.2.2.2 _ h.1]⟩
theorem kept_of_below {w w' : World} (h : Below w.heap.size w w') : KeptW w w' := ⟨h.os, h.output, h.size, fun k hk => h.block k hk⟩
def sign (n : Nat) : UInt8 := [48, 49, 50, 51, 52, 53, 54, 55, 56, 57, 97, 98, 99, 100, 101, 102].getD n 0
def hexL (l : List UInt8) : List UInt8 := l.flatMap fun b => [sign (b.toNat / 16), sign (b.toNat % 16)]
def hexS (l : List UInt8) : List UInt8 := if l.isEmpty then [45] else hexL l
theorem hexL_len (l : List UInt8) : (hexL l).length = 2 * l.length := by
  induction l with
  | nil => rfl
  | cons b l ih => simp only [hexL, List.flatMap_cons, List.length_append, List.length_cons, List.length_nil] at ih ⊢; omega
theorem hexL_snoc (l : List UInt8) (b : UInt8) : hexL (l ++ [b]) = hexL l ++ [sign (b.toNat / 16), sign (b.toNat % 16)] := by simp [hexL]
theorem sign_at (p : Nat) (hp : p < 16) : ({ data := #[48, 49, 50, 51, 52, 53, 54, 55, 56, 57, 97, 98, 99, 100, 101, 102] } : ByteArray)[p]'(by simpa [ByteArray.size] using hp) = sign p := by
  have : ∀ p : Fin 16, ({ data := #[48, 49, 50, 51, 52, 53, 54, 55, 56, 57, 97, 98, 99, 100, 101, 102] } : ByteArray)[p.val]'(by simp [ByteArray.size]) = sign p.val := by decide
  exact this ⟨p, hp⟩
set_option maxHeartbeats 4000000
set_option maxRecDepth 1000000
theorem hexOf_nil (w : World) (x : Option Addr) (c : Nat) : Calls Tryz.prog 23 #[.slice x 0 c] w fun e w' => e = .returned (.string (strOf [45])) ∧ KeptW w w' := by
  go_enter Tryz.func23, Tryz.ntmps23
  go_wp2
  go_ret
  exact ⟨rfl, .refl w⟩
theorem hexOf_some (w : World) (a : Addr) (c : Nat) (l : List UInt8) (hl : l ≠ []) (hn : l.length ≤ 2000) (h : Lies w a l) :
    Calls Tryz.prog 23 #[.slice (some a) l.length c] w fun e w' => e = .returned (.string (strOf (hexL l))) ∧ KeptW w w' := by
  have h0 : 0 < l.length := List.length_pos_iff.2 hl
  have h0' : ((l.length : Int) == 0) = false := by simpa using hl
  go_enter Tryz.func23, Tryz.ntmps23
  go_wp2
  go_loopw [11] (fun i wr => ∃ k : Nat, k ≤ l.length ∧ i = .int .i64 k ∧ Lib.IsBuilderF 75 5 w.heap.size w.heap.size (Lib.byteCells (hexL (l.take k))) wr ∧ Below w.heap.size w wr) (fun i wr => l.length - (intOf i).toNat)
  case atStart =>
    exact ⟨0, Nat.zero_le _, rfl, by simpa [hexL, Lib.byteCells] using Lib.IsBuilderF.of (Lib.fresh_isBuilder 75 5 w), (Below.refl _ w).alloc (Nat.le_refl _) _⟩
  case round =>
    obtain ⟨k, hk, rfl, hI, hb⟩ := hrel
    have hsz := hb.size
    by_cases hp : k < l.length
    · have hc : wr.cell? (a.add k) = some (.int .u8 ((l[k]).toNat : Int)) := by
        rw [hb.cell (by rw [add_block]; exact h.1)]
        exact h.2 k _ (List.getElem?_eq_getElem hp)
      have ht0 : Lib.byteCells (hexL (l.take (k + 1))) = Lib.byteCells (hexL (l.take k)) ++ [.int .u8 ((sign ((l[k]).toNat / 16)).toNat : Int)] ++ [.int .u8 ((sign ((l[k]).toNat % 16)).toNat : Int)] := by
        rw [List.take_succ_eq_append_getElem hp, hexL_snoc]
        simp [Lib.byteCells]
      have ht : Hid (Lib.byteCells (hexL (l.take (k + 1))) = Lib.byteCells (hexL (l.take k)) ++ [.int .u8 ((sign ((l[k]).toNat / 16)).toNat : Int)] ++ [.int .u8 ((sign ((l[k]).toNat % 16)).toNat : Int)]) := ht0
      clear ht0
      have hlen : (Lib.byteCells (hexL (l.take k))).length + 2 ≤ 140737488355328 := by
        rw [Lib.byteCells_length]
        have := hexL_len (l.take k)
        have := List.length_take_le k l
        omega
      generalize Lib.byteCells (hexL (l.take k)) = bs at hI hlen ht
      generalize l[k] = b at hc ht
      have hbl := UInt8.toNat_lt b
      obtain ⟨p, hp1, e1, ep⟩ : ∃ p : Nat, p < 16 ∧ (b.toNat : Int) / 16 = p ∧ b.toNat / 16 = p := ⟨b.toNat / 16, by omega, by omega, rfl⟩
      obtain ⟨q, hq1, e2, eq⟩ : ∃ q : Nat, q < 16 ∧ (b.toNat : Int) % 16 = q ∧ b.toNat % 16 = q := ⟨b.toNat % 16, by omega, by omega, rfl⟩
      have ht : Hid (Lib.byteCells (hexL (l.take (k + 1))) = bs ++ [.int .u8 ((sign p).toNat : Int)] ++ [.int .u8 ((sign q).toNat : Int)]) := by rw [← ep, ← eq]; exact ht
      clear ep eq
      have e3 : (p : Int) < 16 := by omega
      have e4 : (q : Int) < 16 := by omega
      have sp := sign_at p hp1
      have sq := sign_at q hq1
      go_wp2_with (go_at_call 36; refine (Tryz.Builder_WriteByte_k w.heap.size w.heap.size _ _ _ hI (by omega) hsz).mono ?_)
      rintro e W1 ⟨rfl, h1, b1, k1⟩
      have hsz1 := b1.size
      go_wp2_with (go_at_call 36; refine (Tryz.Builder_WriteByte_k w.heap.size w.heap.size _ _ _ (Or.inr h1) (by rw [List.length_append, List.length_singleton]; omega) (by omega)).mono ?_)
      rintro e W2 ⟨rfl, h2, b2, k2⟩
      go_wp2
      go_roundw
      case rel =>
        refine ⟨k + 1, by omega, by go_num, ?_, (hb.trans b1).trans b2⟩
        rw [ht.out]
        exact Or.inr h2
      case measure => simp [intOf]; omega
    · obtain rfl : k = l.length := by omega
      rw [List.take_length] at hI
      go_wp2_with (go_at_call 37; refine (Tryz.Builder_String_any_k w.heap.size w.heap.size (hexL l) _ hI hsz).mono ?_)
      rintro e W1 ⟨rfl, _, b1, _⟩
      go_wp2
      go_ret
      exact ⟨rfl, kept_of_below (hb.trans b1)⟩
end Go.Proofs.YtijnnpbfgmmngaaGreatDoor.C
