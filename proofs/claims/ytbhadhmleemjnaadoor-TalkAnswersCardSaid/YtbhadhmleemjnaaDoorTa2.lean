/- Ta2: the walks: an error's word. -/
import Derived.Test.YtbhadhmleemjnaaDoorTa1
open Go Go.Nm Go.Sort Go.RowKit
namespace Go.Proofs.YtbhadhmleemjnaaDoor.C
open Go.Vi (strOf)
def words : List (List UInt8) := [[117, 110, 107, 110, 111, 119, 110], [114, 97, 110, 103, 101], [102, 111, 114, 109], [100, 111, 119, 110], [102, 117, 108, 108], [101, 120, 105, 115, 116, 115], [110, 111, 110, 101], [103, 117, 97, 114, 100],
  [98, 108, 111, 99, 107, 101, 100], [98, 117, 115, 121], [108, 111, 99, 107], [99, 111, 114, 114, 117, 112, 116], [112, 114, 111, 116, 101, 99, 116, 101, 100], [115, 116, 97, 116, 101]]
def wordOf (e : Int) : List UInt8 := if 0 ≤ e ∧ e < 14 then words.getD e.toNat [] else words.getD 0 []
theorem wordOf_len (e : Int) : (wordOf e).length ≤ 9 := by
  unfold wordOf
  split
  · rename_i h
    obtain ⟨n, rfl⟩ : ∃ n : Nat, e = n := ⟨e.toNat, by omega⟩
    have hn : n < 14 := by omega
    have : ∀ n : Fin 14, (words.getD n.val []).length ≤ 9 := by decide
    exact this ⟨n, hn⟩
  · decide
set_option maxHeartbeats 4000000
set_option maxRecDepth 1000000
theorem error_calls (e : Int) (w : World) : Calls Tryd.prog 20 #[.int .i64 e] w fun r w' => r = .returned (.string (strOf (wordOf e))) ∧ KeptW w w' := by
  by_cases h : 1 ≤ e ∧ e < 14
  · have hc : e = 1 ∨ e = 2 ∨ e = 3 ∨ e = 4 ∨ e = 5 ∨ e = 6 ∨ e = 7 ∨ e = 8 ∨ e = 9 ∨ e = 10 ∨ e = 11 ∨ e = 12 ∨ e = 13 := by omega
    rcases hc with rfl | rfl | rfl | rfl | rfl | rfl | rfl | rfl | rfl | rfl | rfl | rfl | rfl
    all_goals
      go_enter Tryd.func20, Tryd.ntmps20
      go_wp2
      go_ret
      exact ⟨rfl, .refl w⟩
  · have hw : wordOf e = words.getD 0 [] := by
      unfold wordOf
      split
      · obtain rfl : e = 0 := by omega
        rfl
      · rfl
    rw [hw]
    have h1 : (e == (1 : Int)) = false := by simp; omega
    have h2 : (e == (2 : Int)) = false := by simp; omega
    have h3 : (e == (3 : Int)) = false := by simp; omega
    have h4 : (e == (4 : Int)) = false := by simp; omega
    have h5 : (e == (5 : Int)) = false := by simp; omega
    have h6 : (e == (6 : Int)) = false := by simp; omega
    have h7 : (e == (7 : Int)) = false := by simp; omega
    have h8 : (e == (8 : Int)) = false := by simp; omega
    have h9 : (e == (9 : Int)) = false := by simp; omega
    have h10 : (e == (10 : Int)) = false := by simp; omega
    have h11 : (e == (11 : Int)) = false := by simp; omega
    have h12 : (e == (12 : Int)) = false := by simp; omega
    have h13 : (e == (13 : Int)) = false := by simp; omega
    clear h hw
    go_enter Tryd.func20, Tryd.ntmps20
    go_wp2
    go_ret
    exact ⟨rfl, .refl w⟩
theorem as29 (v : Value) (w : World) : (Instr.typeAssert (.iface 29 v) 26 29 true).run Tryd.prog w = .ok (.tuple #[v, .bool true]) w := by kernel_rfl
theorem named_calls (e : Int) (w : World) : Calls Tryd.prog 10 #[.iface 29 (.int .i64 e)] w fun r w' => r = .returned (.string (strOf (wordOf e))) ∧ KeptW w w' := by
  have has := as29 (.int .i64 e)
  go_enter Tryd.func10, Tryd.ntmps10
  go_wp2_with (go_at_call 20; refine (error_calls e _).mono ?_; rintro r w1 ⟨rfl, k1⟩)
  go_ret
  exact ⟨rfl, k1⟩
theorem word_calls (e : Int) (w : World) : Calls Tryd.prog 13 #[.int .i64 e] w fun r w' => r = .returned (.string (strOf (wordOf e))) ∧ KeptW w w' := by
  by_cases h : 0 ≤ e ∧ e < 14
  · have hc : e = 0 ∨ e = 1 ∨ e = 2 ∨ e = 3 ∨ e = 4 ∨ e = 5 ∨ e = 6 ∨ e = 7 ∨ e = 8 ∨ e = 9 ∨ e = 10 ∨ e = 11 ∨ e = 12 ∨ e = 13 := by omega
    rcases hc with rfl | rfl | rfl | rfl | rfl | rfl | rfl | rfl | rfl | rfl | rfl | rfl | rfl | rfl
    all_goals
      go_enter Tryd.func13, Tryd.ntmps13
      go_wp2
      go_ret
      exact ⟨rfl, kept_of_below ((Below.refl _ w).alloc (Nat.le_refl _) _)⟩
  · have hw : wordOf e = words.getD 0 [] := by
      unfold wordOf
      rw [if_neg h]
    rw [hw]
    by_cases h0 : e < 0
    · have h1 : decide (e < 0) = true := by simpa using h0
      go_enter Tryd.func13, Tryd.ntmps13
      go_wp2
      go_ret
      exact ⟨rfl, kept_of_below ((Below.refl _ w).alloc (Nat.le_refl _) _)⟩
    · have h1 : decide (e < 0) = false := by simpa using h0
      have h2 : decide (e ≥ 14) = true := by simp; omega
      go_enter Tryd.func13, Tryd.ntmps13
      go_wp2
      go_ret
      exact ⟨rfl, kept_of_below ((Below.refl _ w).alloc (Nat.le_refl _) _)⟩
end Go.Proofs.YtbhadhmleemjnaaDoor.C
