/- KP: lines of words, plainly: numbers, names, halves, bytes as hex. No program in sight. -/
import Derived.Lib.ItoaNum
import Derived.Lib.AtoiAll
import Derived.Lib.Bytealg
import Derived.Lib.Index
import Derived.Lib.IndexBytes
import Derived.Lib.IndexMore
import Derived.Lib.Split
import Derived.Lib.SplitLaws
import Derived.Lib.Join
namespace Go.Tk
open Go.Lib
def evD (acc : Nat) (l : List UInt8) : Nat := l.foldl (fun a b => a * 10 + (b.toNat - 48)) acc
theorem evD_nil (acc : Nat) : evD acc [] = acc := rfl
theorem evD_cons (acc : Nat) (b : UInt8) (r : List UInt8) : evD acc (b :: r) = evD (acc * 10 + (b.toNat - 48)) r := by
  unfold evD
  rw [List.foldl_cons]
theorem evD_snoc (l : List UInt8) (acc : Nat) (b : UInt8) : evD acc (l ++ [b]) = evD acc l * 10 + (b.toNat - 48) := by
  unfold evD
  rw [List.foldl_append]
  rfl
def isDig (b : UInt8) : Bool := decide (48 ≤ b.toNat ∧ b.toNat ≤ 57)
theorem digB {u : Nat} (h : u < 10) : (UInt8.ofNat (48 + u)).toNat = 48 + u := by
  rw [UInt8.toNat_ofNat']
  exact Nat.mod_eq_of_lt (by omega)
theorem dec_ev : ∀ (n u : Nat), u < n → evD 0 (decDigits u) = u ∧ (decDigits u).all isDig = true ∧ decDigits u ≠ []
  | 0, u, h => by omega
  | n + 1, u, h => by
    rw [decDigits]
    split
    · rename_i h10
      have := digB h10
      generalize UInt8.ofNat (48 + u) = b at this ⊢
      refine ⟨?_, ?_, by simp⟩
      · rw [evD_cons, evD_nil]; omega
      · simp only [List.all_cons, List.all_nil, Bool.and_true, isDig, decide_eq_true_eq]; omega
    · rename_i h10
      obtain ⟨h1, h2, _⟩ := dec_ev n (u / 10) (by omega)
      have := digB (u := u % 10) (by omega)
      generalize UInt8.ofNat (48 + u % 10) = b at this ⊢
      refine ⟨?_, ?_, by simp⟩
      · rw [evD_snoc, h1]; omega
      · rw [List.all_append, h2]
        simp only [List.all_cons, List.all_nil, Bool.and_true, Bool.true_and, isDig, decide_eq_true_eq]; omega
theorem dec_head {u : Nat} {b : UInt8} {r : List UInt8} (h : decDigits u = b :: r) : 48 ≤ b.toNat ∧ b.toNat ≤ 57 := by
  have := (dec_ev (u + 1) u (by omega)).2.1
  rw [h] at this
  simp only [List.all_cons, isDig, Bool.and_eq_true, decide_eq_true_eq] at this
  exact this.1
def inR (n : Int) : Prop := -9223372036854775808 ≤ n ∧ n ≤ 9223372036854775807
theorem evD_ge : ∀ (l : List UInt8) (acc : Nat), acc ≤ evD acc l
  | [], acc => Nat.le_refl _
  | b :: r, acc => by
    have := evD_ge r (acc * 10 + (b.toNat - 48))
    rw [evD_cons]
    omega
theorem parse_ev : ∀ (l : List UInt8) (acc : Nat), l.all isDig = true → evD acc l < 18446744073709551616 → parseUint10 acc l = .ok (evD acc l)
  | [], acc, _, _ => rfl
  | b :: r, acc, h, hu => by
    simp only [List.all_cons, Bool.and_eq_true] at h
    have hb : 48 ≤ b.toNat ∧ b.toNat ≤ 57 := by simpa [isDig] using h.1
    rw [evD_cons] at hu ⊢
    have := evD_ge r (acc * 10 + (b.toNat - 48))
    rw [parseUint10, if_pos hb, if_neg (by omega), if_neg (by omega)]
    exact parse_ev r _ h.2 hu
theorem atoi_itoa {n : Int} (h : inR n) : atoiAll (itoa n) = .ok n := by
  obtain ⟨h1, h2⟩ := h
  unfold itoa
  split
  · rename_i hn
    obtain ⟨e1, e2, e3⟩ := dec_ev (n.natAbs + 1) n.natAbs (by omega)
    have hp : parseMag (decDigits n.natAbs) = .ok n.natAbs := by
      unfold parseMag
      rw [if_neg e3, parse_ev _ 0 e2 (by rw [e1]; omega), e1]
    simp only [atoiAll]
    rw [if_pos (by decide), hp]
    have : (45 : UInt8).toNat = 45 := rfl
    simp only [this, not_true, false_and, if_false, true_and]
    rw [if_neg (by omega)]
    simp only [if_true]
    congr 1
    omega
  · rename_i hn
    obtain ⟨e1, e2, e3⟩ := dec_ev (n.toNat + 1) n.toNat (by omega)
    have hp : parseMag (decDigits n.toNat) = .ok n.toNat := by
      unfold parseMag
      rw [if_neg e3, parse_ev _ 0 e2 (by rw [e1]; omega), e1]
    cases hd : decDigits n.toNat with
    | nil => exact absurd hd e3
    | cons b r =>
      have hb := dec_head hd
      rw [hd] at hp
      simp only [atoiAll]
      have h45 : ¬ b.toNat = 45 := by omega
      rw [if_neg (by omega), hp]
      simp only [h45, not_false_eq_true, true_and, false_and, if_false]
      rw [if_neg (by omega)]
      congr 1
      omega
def okB (b : UInt8) : Bool := decide (97 ≤ b.toNat ∧ b.toNat ≤ 122) || decide (48 ≤ b.toNat ∧ b.toNat ≤ 57) || decide (b.toNat = 45)
def namedB (l : List UInt8) : Bool := decide (1 ≤ l.length) && decide (l.length ≤ 20) && l.all okB
def twoOf : List UInt8 → List UInt8 × List UInt8 × Bool
  | [] => ([], [], false)
  | b :: r => if b = 64 then ([], r, true) else (b :: (twoOf r).1, (twoOf r).2.1, (twoOf r).2.2)
theorem idx_cut : ∀ l : List UInt8, (indexByte l 64 = -1 ∧ twoOf l = (l, [], false)) ∨ ∃ i : Nat, indexByte l 64 = i ∧ twoOf l = (l.take i, l.drop (i + 1), true)
  | [] => .inl ⟨rfl, rfl⟩
  | b :: r => by
    unfold indexByte twoOf
    by_cases hb : b = 64
    · subst hb
      exact .inr ⟨0, by simp, by simp⟩
    · have hb' : (b == (64 : UInt8)) = false := by simpa using hb
      rw [if_neg (by rw [hb']; simp), if_neg hb]
      rcases idx_cut r with ⟨h1, h2⟩ | ⟨i, h1, h2⟩
      · left
        rw [h1, h2]
        simp
      · right
        refine ⟨i + 1, ?_, ?_⟩
        · rw [h1, if_neg (by simp)]; omega
        · rw [h2]; simp
theorem cut_is (l : List UInt8) : cut l [64] = twoOf l := by
  unfold cut
  rw [index_one]
  rcases idx_cut l with ⟨h1, h2⟩ | ⟨i, h1, h2⟩
  · rw [h1, h2]; rfl
  · rw [h1, h2, if_pos (by omega)]; simp
theorem two_join (l : List UInt8) (h : (twoOf l).2.2 = true) : l = (twoOf l).1 ++ 64 :: (twoOf l).2.1 := by
  induction l with
  | nil => simp [twoOf] at h
  | cons b r ih =>
    unfold twoOf at h ⊢
    by_cases hb : b = 64
    · subst hb; simp
    · rw [if_neg hb] at h ⊢
      simp only [List.cons_append]
      rw [← ih h]
theorem two_none (l : List UInt8) (h : (twoOf l).2.2 = false) : twoOf l = (l, [], false) := by
  rcases idx_cut l with ⟨_, h2⟩ | ⟨i, _, h2⟩
  · exact h2
  · rw [h2] at h; cases h
def wordsL : List UInt8 → List (List UInt8)
  | [] => [[]]
  | b :: r => if b = 32 then [] :: wordsL r else match wordsL r with
    | [] => [[b]]
    | h :: t => (b :: h) :: t
theorem wordsL_ne (l : List UInt8) : wordsL l ≠ [] := by
  cases l with
  | nil => simp [wordsL]
  | cons b r =>
    unfold wordsL
    split
    · simp
    · split <;> simp
theorem words_split : ∀ l : List UInt8, (indexByte l 32 = -1 ∧ wordsL l = [l]) ∨ ∃ i : Nat, indexByte l 32 = i ∧ wordsL l = l.take i :: wordsL (l.drop (i + 1)) ∧ l.count 32 = 1 + (l.drop (i + 1)).count 32
  | [] => .inl ⟨rfl, rfl⟩
  | b :: r => by
    unfold indexByte
    by_cases hb : b = 32
    · subst hb
      refine .inr ⟨0, by simp, ?_, ?_⟩
      · rw [wordsL, if_pos rfl]; simp
      · simp; omega
    · have hb' : (b == (32 : UInt8)) = false := by simpa using hb
      rw [if_neg (by rw [hb']; simp)]
      have hc : (b :: r).count 32 = r.count 32 := by rw [List.count_cons]; simp [hb]
      rcases words_split r with ⟨h1, h2⟩ | ⟨i, h1, h2, h3⟩
      · left
        rw [h1]
        refine ⟨by simp, ?_⟩
        rw [wordsL, if_neg hb, h2]
      · right
        refine ⟨i + 1, ?_, ?_, ?_⟩
        · rw [h1, if_neg (by simp)]; omega
        · rw [wordsL, if_neg hb, h2]; simp
        · rw [hc, h3]; simp
theorem idx_none_count {l : List UInt8} (h : indexByte l 32 = -1) : l.count 32 = 0 := by
  induction l with
  | nil => rfl
  | cons b r ih =>
    unfold indexByte at h
    split at h
    · omega
    · rename_i hb
      split at h
      · rename_i hr
        rw [List.count_cons, ih (by simpa using hr)]
        simpa using hb
      · rename_i hr
        have := indexByte_ge r 32
        simp at hr
        omega
theorem split_is : ∀ (k : Nat) (l : List UInt8), l.count 32 = k → splitK [32] 0 k l = wordsL l := by
  intro k
  induction k with
  | zero =>
    intro l h
    rcases words_split l with ⟨_, h2⟩ | ⟨i, _, _, h3⟩
    · rw [h2]; rfl
    · omega
  | succ k ih =>
    intro l h
    rcases words_split l with ⟨h1, _⟩ | ⟨i, h1, h2, h3⟩
    · rw [idx_none_count h1] at h; omega
    · rw [splitK, index_one, h1, if_neg (by simp), h2]
      have := ih (l.drop (i + 1)) (by omega)
      simp only [Int.toNat_natCast, Nat.add_zero, List.length_cons, List.length_nil, Nat.zero_add]
      rw [this]
theorem words_len (l : List UInt8) : (wordsL l).length = l.count 32 + 1 := by
  suffices h : ∀ k (l : List UInt8), l.count 32 = k → (wordsL l).length = k + 1 from h _ l rfl
  intro k
  induction k with
  | zero =>
    intro l h
    rcases words_split l with ⟨_, h2⟩ | ⟨i, _, _, h3⟩
    · rw [h2]; rfl
    · omega
  | succ k ih =>
    intro l h
    rcases words_split l with ⟨h1, _⟩ | ⟨i, h1, h2, h3⟩
    · rw [idx_none_count h1] at h; omega
    · rw [h2, List.length_cons, ih _ (by omega)]
def digOf (b : UInt8) : Option Nat := if 48 ≤ b.toNat ∧ b.toNat ≤ 57 then some (b.toNat - 48) else if 97 ≤ b.toNat ∧ b.toNat ≤ 102 then some (b.toNat - 87) else none
def bytesL : List UInt8 → Option (List UInt8)
  | [] => some []
  | [_] => none
  | a :: b :: r => match digOf a, digOf b, bytesL r with
    | some x, some y, some t => some (UInt8.ofNat (16 * x + y) :: t)
    | _, _, _ => none
def dataOf (l : List UInt8) : Option (List UInt8) := if l = [45] then some [] else if l = [] then none else bytesL l
end Go.Tk
