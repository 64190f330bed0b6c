/- KP2: numbers, more. -/
import Derived.Test.YtijnnpbfgmmngaaGreatDoorKP
namespace Go.Tk
open Go.Lib
theorem atoi_range {l : List UInt8} {v : Int} (h : atoiAll l = .ok v) : inR v := by
  cases l with
  | nil => cases h
  | cons c r =>
    simp only [atoiAll] at h
    generalize parseMag (if c.toNat = 43 ∨ c.toNat = 45 then r else c :: r) = q at h
    rcases q with u | _ | _
    rotate_left
    · cases h
    · cases h
    · unfold inR
      by_cases hn : c.toNat = 45
      · simp only [hn, not_true_eq_false, false_and, if_false, true_and, if_true] at h
        by_cases hu : 9223372036854775808 < u
        · rw [if_pos hu] at h; cases h
        · rw [if_neg hu] at h; injection h with h; omega
      · simp only [hn, not_false_eq_true, false_and, if_false, true_and] at h
        by_cases hu : 9223372036854775808 ≤ u
        · rw [if_pos hu] at h; cases h
        · rw [if_neg hu] at h; injection h with h; omega
theorem dec_len : ∀ (k u : Nat), u < 10 ^ (k + 1) → (decDigits u).length ≤ k + 1 := by
  intro k
  induction k with
  | zero =>
    intro u hu
    rw [decDigits, dif_pos (by omega)]
    simp
  | succ k ih =>
    intro u hu
    rw [decDigits]
    split
    · simp
    · rw [List.length_append]
      have := ih (u / 10) (by rw [Nat.pow_succ] at hu; omega)
      simp only [List.length_cons, List.length_nil]
      omega
theorem itoa_len20 {n : Int} (h : inR n) : 1 ≤ (itoa n).length ∧ (itoa n).length ≤ 20 := by
  obtain ⟨h1, h2⟩ := h
  have hp : (10 : Nat) ^ (18 + 1) = 10000000000000000000 := by decide
  unfold itoa
  split
  · have := dec_len 18 n.natAbs (by rw [hp]; omega)
    simp only [List.length_cons]
    omega
  · have := dec_len 18 n.toNat (by rw [hp]; omega)
    have hne := (dec_ev (n.toNat + 1) n.toNat (by omega)).2.2
    have : 0 < (decDigits n.toNat).length := List.length_pos_iff.2 hne
    omega
end Go.Tk
