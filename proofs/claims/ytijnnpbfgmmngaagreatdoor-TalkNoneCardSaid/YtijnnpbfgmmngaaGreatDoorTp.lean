/- Tp: operations and lines, plainly: how an operation is printed, and that a parsed line is printed to itself. No program in sight. -/
import Derived.Test.YtijnnpbfgmmngaaGreatDoorTm
import Derived.Test.YtijnnpbfgmmngaaGreatDoorK1
namespace Go.Tk
open Go.Proofs.YtijnnpbfgmmngaaGreatDoor.C (sign hexL hexS)
deriving instance DecidableEq for TOp
open Go.Lib
theorem dig_sign {b : UInt8} {x : Nat} (h : digOf b = some x) : x < 16 ∧ sign x = b := by
  unfold digOf at h
  have hb := b.toNat_lt
  split at h
  · rename_i q
    cases h
    refine ⟨by omega, ?_⟩
    apply UInt8.toNat_inj.1
    obtain ⟨n, hn⟩ : ∃ n, b.toNat = 48 + n := ⟨b.toNat - 48, by omega⟩
    rw [hn] at q ⊢
    rw [show 48 + n - 48 = n from by omega]
    have : n < 10 := by omega
    rcases n with _ | _ | _ | _ | _ | _ | _ | _ | _ | _ | n <;> first | rfl | omega
  split at h
  · rename_i q
    cases h
    refine ⟨by omega, ?_⟩
    apply UInt8.toNat_inj.1
    obtain ⟨n, hn⟩ : ∃ n, b.toNat = 97 + n := ⟨b.toNat - 97, by omega⟩
    rw [hn] at q ⊢
    rw [show 97 + n - 87 = 10 + n from by omega]
    have : n < 6 := by omega
    rcases n with _ | _ | _ | _ | _ | _ | n <;> first | rfl | omega
  cases h
theorem bytes_hex : ∀ (l d : List UInt8), bytesL l = some d → hexL d = l
  | [], d, h => by cases h; rfl
  | [_], d, h => by cases h
  | a :: b :: r, d, h => by
    unfold bytesL at h
    split at h
    · rename_i x y t hx hy ht
      cases h
      obtain ⟨x1, x2⟩ := dig_sign hx
      obtain ⟨y1, y2⟩ := dig_sign hy
      have ih := bytes_hex r t ht
      have hn : (UInt8.ofNat (16 * x + y)).toNat = 16 * x + y := by rw [UInt8.toNat_ofNat']; omega
      show sign ((UInt8.ofNat (16 * x + y)).toNat / 16) :: sign ((UInt8.ofNat (16 * x + y)).toNat % 16) :: hexL t = _
      rw [hn, ih, show (16 * x + y) / 16 = x from by omega, show (16 * x + y) % 16 = y from by omega, x2, y2]
    · cases h
theorem data_hex {l d : List UInt8} (h : dataOf l = some d) : hexS d = l := by
  unfold dataOf at h
  split at h
  · rename_i q; cases h; rw [q]; rfl
  split at h
  · cases h
  rename_i q
  have := bytes_hex l d h
  unfold hexS
  cases d with
  | nil => exact absurd this.symm q
  | cons a d => exact this
theorem named_ne {y : List UInt8} (h : namedB y = true) : y ≠ [] := by
  rintro rfl
  revert h
  decide
theorem num_itoa {y : List UInt8} (h : numB y = true) : itoa (numV y) = y := by
  unfold numB at h
  unfold numV
  rcases hq : atoiAll y with v | _ | _
  · rw [hq] at h; exact eq_of_beq h
  · rw [hq] at h; cases h
  · rw [hq] at h; cases h
theorem take_i {o o' : TOp} {y : List UInt8} (h : takeT o 105 y = some o') : o' = { o with image := y } := by
  have h : (if namedB y then some { o with image := y } else none) = some o' := h
  split at h
  · cases h; rfl
  · cases h
theorem pair_is {y : List UInt8} (h : pairB y = true) : (twoOf y).1 ++ 64 :: (twoOf y).2.1 = y ∧ (twoOf y).2.1 ≠ [] := by
  unfold pairB at h
  simp only [Bool.and_eq_true] at h
  exact ⟨(two_join y h.1.1).symm, named_ne h.2⟩
theorem take_v {o o' : TOp} {y : List UInt8} (h : takeT o 118 y = some o') : ∃ a b, o' = { o with image := a, snap := b } ∧ (if b = [] then a else a ++ 64 :: b) = y := by
  have h : (if pairB y then some { o with image := (twoOf y).1, snap := (twoOf y).2.1 } else if namedB y then some { o with image := y, snap := [] } else none) = some o' := h
  split at h
  · rename_i q
    cases h
    obtain ⟨q1, q2⟩ := pair_is q
    exact ⟨_, _, rfl, by rw [if_neg q2, q1]⟩
  split at h
  · cases h
    exact ⟨_, _, rfl, by rw [if_pos rfl]⟩
  · cases h
theorem take_s {o o' : TOp} {y : List UInt8} (h : takeT o 115 y = some o') : ∃ a b, o' = { o with image := a, snap := b } ∧ a ++ 64 :: b = y := by
  have h : (if pairB y then some { o with image := (twoOf y).1, snap := (twoOf y).2.1 } else none) = some o' := h
  split at h
  · rename_i q
    cases h
    exact ⟨_, _, rfl, (pair_is q).1⟩
  · cases h
theorem take_p {o o' : TOp} {y : List UInt8} (h : takeT o 112 y = some o') : ∃ a b, o' = { o with parent := a, snap := b } ∧ a ++ 64 :: b = y := by
  have h : (if pairB y then some { o with parent := (twoOf y).1, snap := (twoOf y).2.1 } else none) = some o' := h
  split at h
  · rename_i q
    cases h
    exact ⟨_, _, rfl, (pair_is q).1⟩
  · cases h
theorem take_d {o o' : TOp} {y : List UInt8} (h : takeT o 100 y = some o') : ∃ d, o' = { o with data := d } ∧ hexS d = y := by
  have h : (match dataOf y with | some d => some { o with data := d } | none => none) = some o' := h
  split at h
  · rename_i d q; cases h; exact ⟨d, rfl, data_hex q⟩
  · cases h
theorem take_m {o o' : TOp} {y : List UInt8} (h : takeT o 109 y = some o') : ∃ b : Bool, o' = { o with on := b } ∧ (if b then ([111, 110] : List UInt8) else [111, 102, 102]) = y := by
  have h : (if y = [111, 110] then some { o with on := true } else if y = [111, 102, 102] then some { o with on := false } else none) = some o' := h
  split at h
  · rename_i q; cases h; exact ⟨true, rfl, q.symm⟩
  split at h
  · rename_i q; cases h; exact ⟨false, rfl, q.symm⟩
  · cases h
theorem take_a {o o' : TOp} {y : List UInt8} (h : takeT o 97 y = some o') : ∃ n, o' = { o with at_ := n } ∧ itoa n = y := by
  have h : (if numB y then some { o with at_ := numV y } else none) = some o' := h
  split at h
  · rename_i q; cases h; exact ⟨_, rfl, num_itoa q⟩
  · cases h
theorem take_l {o o' : TOp} {y : List UInt8} (h : takeT o 108 y = some o') : ∃ n, o' = { o with len := n } ∧ itoa n = y := by
  have h : (if numB y then some { o with len := numV y } else none) = some o' := h
  split at h
  · rename_i q; cases h; exact ⟨_, rfl, num_itoa q⟩
  · cases h
theorem take_z {o o' : TOp} {y : List UInt8} (h : takeT o 122 y = some o') : ∃ n, o' = { o with size := n } ∧ itoa n = y := by
  have h : (if numB y then some { o with size := numV y } else none) = some o' := h
  split at h
  · rename_i q; cases h; exact ⟨_, rfl, num_itoa q⟩
  · cases h
theorem take_o {o o' : TOp} {y : List UInt8} (h : takeT o 111 y = some o') : ∃ n, o' = { o with object := n } ∧ itoa n = y := by
  have h : (if numB y then some { o with object := numV y } else none) = some o' := h
  split at h
  · rename_i q; cases h; exact ⟨_, rfl, num_itoa q⟩
  · cases h
def knownB (a : UInt8) : Bool := [105, 118, 115, 112, 50, 100, 109, 97, 108, 122, 111].contains a.toNat
theorem wants_known : ∀ v ∈ verbsT, v.2.2.all knownB = true ∧ v.2.2.count 50 ≤ 1 := by decide
end Go.Tk
