/- KP2: numbers, more. -/
import Derived.Test.YtkloflhiipebmaaDoorKP
namespace Go.Tk
open Go.Lib
theorem parse_lt {l : List UInt8} {u : Nat} (h : parseMag l = .ok u) : u < 18446744073709551616 := parseMag_lt h
theorem atoi_range {l : List UInt8} {v : Int} (h : atoiAll l = .ok v) : inR v := by
  cases l with
  | nil => cases h
  | cons c r =>
    simp only [atoiAll] at h
    generalize parseMag (if c.toNat = 43 ∨ c.toNat = 45 then r else c :: r) = q at h
    rcases q with u | _ | _
    rotate_left
    · cases h
    · cases h
    · unfold inR
      by_cases hn : c.toNat = 45
      · simp only [hn, not_true_eq_false, false_and, if_false, true_and, if_true] at h
        by_cases hu : 9223372036854775808 < u
        · rw [if_pos hu] at h; cases h
        · rw [if_neg hu] at h; injection h with h; omega
      · simp only [hn, not_false_eq_true, false_and, if_false, true_and] at h
        by_cases hu : 9223372036854775808 ≤ u
        · rw [if_pos hu] at h; cases h
        · rw [if_neg hu] at h; injection h with h; omega
theorem num_atoi {l : List UInt8} {n : Int} (h : numOf l = some n) : atoiAll l = .ok n := by
  obtain ⟨h1, h2⟩ := numOf_some.1 h
  rw [← h2]
  exact atoi_itoa h1
theorem num_of_atoi {l : List UInt8} {v : Int} (h : atoiAll l = .ok v) : (itoa v = l → numOf l = some v) ∧ (itoa v ≠ l → numOf l = none) := by
  refine ⟨fun e => numOf_some.2 ⟨atoi_range h, e⟩, fun e => ?_⟩
  cases hq : numOf l with
  | none => rfl
  | some m =>
    have h2 := num_atoi hq
    rw [h] at h2
    injection h2 with h2
    subst h2
    exact absurd (numOf_some.1 hq).2 e
theorem num_of_bad {l : List UInt8} (h : ∀ v, atoiAll l ≠ .ok v) : numOf l = none := by
  cases hq : numOf l with
  | none => rfl
  | some m => exact absurd (num_atoi hq) (h m)
theorem dec_len : ∀ (k u : Nat), u < 10 ^ (k + 1) → (decDigits u).length ≤ k + 1 := by
  intro k
  induction k with
  | zero =>
    intro u hu
    rw [decDigits, dif_pos (by omega)]
    simp
  | succ k ih =>
    intro u hu
    rw [decDigits]
    split
    · simp
    · rw [List.length_append]
      have := ih (u / 10) (by rw [Nat.pow_succ] at hu; omega)
      simp only [List.length_cons, List.length_nil]
      omega
theorem itoa_len20 {n : Int} (h : inR n) : 1 ≤ (itoa n).length ∧ (itoa n).length ≤ 20 := by
  obtain ⟨h1, h2⟩ := h
  have hp : (10 : Nat) ^ (18 + 1) = 10000000000000000000 := by decide
  unfold itoa
  split
  · have := dec_len 18 n.natAbs (by rw [hp]; omega)
    simp only [List.length_cons]
    omega
  · have := dec_len 18 n.toNat (by rw [hp]; omega)
    have hne := (dec_ev (n.toNat + 1) n.toNat (by omega)).2.2
    have : 0 < (decDigits n.toNat).length := List.length_pos_iff.2 hne
    omega
end Go.Tk
