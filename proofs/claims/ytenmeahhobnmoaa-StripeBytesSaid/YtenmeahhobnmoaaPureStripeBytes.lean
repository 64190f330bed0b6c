/- StripeBytes: for every size, object size and range, the pieces are just the range's bytes, each once, in order, each piece within one data object; where there is an error there are no pieces. No condition. -/
import Derived.Test.YtenmeahhobnmoaaPStripeBytesx3
namespace Go.Proofs.Ytenmeahhobnmoaa.Pure
open Go.RowKit Go.Proofs.Ytenmeahhobnmoaa.PStripeBytes Go.Proofs.YtenmeahhobnmoaaW.PrintWords Go.Proofs.YtenmeahhobnmoaaW.PrintLast Go.Proofs.YtenmeahhobnmoaaW.PrintMore
namespace StripeBytesAid
theorem w64 {x : Int} (h0 : -9223372036854775808 ≤ x) (h1 : x ≤ 9223372036854775807) : wrap64 x = x := by
  unfold wrap64; omega

theorem wf64 {n : Int} (h : (Lit.int .i64 n).wf = true) : -9223372036854775808 ≤ n ∧ n ≤ 9223372036854775807 := by
  simp only [Lit.wf, Bool.and_eq_true, decide_eq_true_eq] at h; exact h

def five (a : Int) : Prop := a = 16 ∨ a = 32 ∨ a = 64 ∨ a = 128 ∨ a = 256
def good (a b : Int) : Prop := 0 ≤ a ∧ a ≤ 4096 ∧ five b
instance (a b : Int) : Decidable (good a b) := by unfold good five; infer_instance

theorem sound_bits : ∀ n : Nat, n < 241 → ((Go.bits .and .i64 (16 + (n : Int)) (wrap64 (16 + (n : Int) - 1)) == 0) = (n == 0 || n == 16 || n == 48 || n == 112 || n == 240)) := by
  decide +kernel

theorem sound_eq (a b : Int) : stripe_sound.f a b = some (decide (good a b)) := by
  unfold stripe_sound.f
  by_cases h0 : a ≥ 0
  · rw [if_pos h0]
    by_cases h1 : a ≤ 4096
    · rw [if_pos h1]
      by_cases h2 : b ≥ 16
      · rw [if_pos h2]
        by_cases h3 : b ≤ 256
        · rw [if_pos h3]
          obtain ⟨n, rfl⟩ : ∃ n : Nat, b = 16 + (n : Int) := ⟨(b - 16).toNat, by omega⟩
          rw [sound_bits n (by omega)]
          congr 1
          rw [Bool.eq_iff_iff, decide_eq_true_iff]
          simp only [Bool.or_eq_true, beq_iff_eq]
          unfold good five
          omega
        · rw [if_neg h3]; congr 1; exact (decide_eq_false (show ¬ good a b from by unfold good five; omega)).symm
      · rw [if_neg h2]; congr 1; exact (decide_eq_false (show ¬ good a b from by unfold good five; omega)).symm
    · rw [if_neg h1]; congr 1; exact (decide_eq_false (show ¬ good a b from by unfold good five; omega)).symm
  · rw [if_neg h0]; congr 1; exact (decide_eq_false (show ¬ good a b from by unfold good five; omega)).symm

theorem alive {k : Nat} (h : 8 ≤ k) : laminalaw12_alive.f k = some true :=
  at_rounds laminalaw12_alive.mono h (by decide +kernel)

/-- how many of the first i bytes stand in an object. -/
def cnt (o x i : Int) : Int := if x < 0 then 0 else if i ≤ x * o then 0 else if i ≤ x * o + o then i - x * o else o

theorem objects_eq (s o : Int) (h : good s o) : head_Objects.f s o = some ((s + o - 1) / o) := by
  obtain ⟨h0, h1, ho⟩ := h
  unfold head_Objects.f
  by_cases hs : s < 1
  · rw [if_pos hs]; congr 1; rcases ho with rfl | rfl | rfl | rfl | rfl <;> omega
  · rw [if_neg hs, if_neg (by unfold five at ho; omega), if_neg (by unfold five at ho; omega)]
    rw [w64 (x := s - 1) (by omega) (by omega), Int.tdiv_eq_ediv_of_nonneg (by omega)]
    congr 1
    rcases ho with rfl | rfl | rfl | rfl | rfl <;> (unfold wrap64; omega)

theorem whole_eq (s o x : Int) (h : good s o) (hx : -9223372036854775808 ≤ x ∧ x ≤ 9223372036854775807) :
    stripe_Whole.f s o x = some (cnt o x s, if cnt o x s = 0 then some 1 else none) := by
  unfold stripe_Whole.f
  rw [sound_eq, decide_eq_true h]
  simp only [Option.bind_some, if_true]
  rw [objects_eq s o h]
  obtain ⟨h0, h1, ho⟩ := h
  by_cases hx0 : x < 0
  · rw [if_pos hx0]
    have : cnt o x s = 0 := by unfold cnt; rw [if_pos hx0]
    rw [this]; rfl
  · rw [if_neg hx0]
    simp only [Option.bind_some]
    by_cases hx1 : x ≥ (s + o - 1) / o
    · rw [if_pos hx1]
      have : cnt o x s = 0 := by
        unfold cnt
        rcases ho with rfl | rfl | rfl | rfl | rfl <;> (repeat' split) <;> omega
      rw [this]; rfl
    · rw [if_neg hx1]
      have hb : 0 ≤ x * o ∧ x * o < s := by rcases ho with rfl | rfl | rfl | rfl | rfl <;> omega
      rw [w64 (x := x * o) (by omega) (by omega), w64 (x := s - x * o) (by omega) (by omega)]
      have : cnt o x s = mn o (s - x * o) := by
        unfold cnt mn; (repeat' split) <;> omega
      rw [← this]
      have : cnt o x s ≠ 0 := by
        rw [this]; unfold mn; unfold five at ho; split <;> omega
      rw [if_neg this]
/-- the place of piece j in its data object; where it begins in the range; the piece; how many there are. -/
def pa (o t : Int) (j : Nat) : Int := if j = 0 then t % o else 0
def pf (o t : Int) (j : Nat) : Int := if j = 0 then 0 else (t / o + j) * o - t
def pc (o t n : Int) (j : Nat) : S37 := ⟨t / o + j, pa o t j, mn (o - pa o t j) (n - pf o t j), pf o t j⟩
def pm (o t n : Int) : Nat := if n ≤ 0 then 0 else ((t + n - 1) / o - t / o + 1).toNat
def row (o t n : Int) : List S37 := (List.range (pm o t n)).map (pc o t n)

theorem pa_range (o t : Int) (j : Nat) (ho : five o) : 0 ≤ pa o t j ∧ pa o t j < o := by
  unfold pa; rcases ho with rfl | rfl | rfl | rfl | rfl <;> split <;> omega
theorem pm_le (o t n : Int) (ho : five o) (ht : 0 ≤ t) (hb : t + n ≤ 4096) : pm o t n ≤ 5000 := by
  unfold pm; rcases ho with rfl | rfl | rfl | rfl | rfl <;> split <;> omega
theorem pf_lt (o t n : Int) (j : Nat) (ho : five o) : j < pm o t n ↔ pf o t j < n := by
  unfold pm pf
  rcases ho with rfl | rfl | rfl | rfl | rfl <;> (repeat' split) <;> omega
theorem pf_zero (o t : Int) : pf o t 0 = 0 := rfl
theorem pf_nonneg (o t : Int) (j : Nat) (ho : five o) : 0 ≤ pf o t j := by
  unfold pf; rcases ho with rfl | rfl | rfl | rfl | rfl <;> split <;> omega
theorem pf_div (o t : Int) (j : Nat) (ho : five o) : (t + pf o t j) / o = t / o + j := by
  unfold pf; rcases ho with rfl | rfl | rfl | rfl | rfl <;> split <;> omega
theorem pf_mod (o t : Int) (j : Nat) (ho : five o) : (t + pf o t j) % o = pa o t j := by
  unfold pf pa; rcases ho with rfl | rfl | rfl | rfl | rfl <;> split <;> omega
theorem pf_next (o t n : Int) (j : Nat) (ho : five o) (h : pf o t j < n) : pf o t j + mn (o - pa o t j) (n - pf o t j) = mn (pf o t (j + 1)) n := by
  revert h
  unfold pf pa mn
  rcases ho with rfl | rfl | rfl | rfl | rfl <;> (repeat' split) <;> omega

theorem prog_loop (o t n : Int) (ho : five o) (ht : 0 ≤ t) (hn : 0 ≤ n) (hb : t + n ≤ 4096) (d : Nat) : ∀ (k j : Nat), j ≤ pm o t n → pm o t n - j = d → d < k →
    stripe_Pieces.l0 k o t n ((List.range j).map (pc o t n)) (mn (pf o t j) n) = some (row o t n, none) := by
  induction d with
  | zero =>
    intro k j h0 hd hk
    obtain ⟨k, rfl⟩ : ∃ m, k = m + 1 := ⟨k - 1, by omega⟩
    have hj : j = pm o t n := by omega
    have hq := pf_lt o t n j ho
    have : ¬ mn (pf o t j) n < n := by unfold mn; split <;> omega
    simp only [stripe_Pieces.l0]
    rw [if_neg this, hj]; rfl
  | succ d ih =>
    intro k j h0 hd hk
    obtain ⟨k, rfl⟩ : ∃ m, k = m + 1 := ⟨k - 1, by omega⟩
    have hj : j < pm o t n := by omega
    have hq := (pf_lt o t n j ho).1 hj
    have hm : mn (pf o t j) n = pf o t j := by unfold mn; rw [if_neg (by omega)]
    have hz := pf_nonneg o t j ho
    have hA := pa_range o t j ho
    have hL := pm_le o t n ho ht hb
    have ho5 : 16 ≤ o ∧ o ≤ 256 := by unfold five at ho; omega
    simp only [stripe_Pieces.l0]
    rw [hm, if_pos hq, if_neg (by omega), if_pos (by simp; omega)]
    rw [w64 (x := t + pf o t j) (by omega) (by omega), Int.tdiv_eq_ediv_of_nonneg (by omega), Int.tmod_eq_emod_of_nonneg (by omega), pf_div o t j ho, pf_mod o t j ho]
    have hdv : 0 ≤ t / o + (j : Int) ∧ t / o + (j : Int) ≤ 4096 := by
      rw [← pf_div o t j ho]
      constructor
      · exact Int.ediv_nonneg (by omega) (by omega)
      · have := Int.ediv_le_self (a := t + pf o t j) o (by omega); omega
    have hmn : mn (o - pa o t j) (n - pf o t j) ≤ o ∧ 0 < mn (o - pa o t j) (n - pf o t j) := by unfold mn; split <;> omega
    rw [w64 (x := t / o + (j : Int)) (by omega) (by omega), w64 (x := o - pa o t j) (by omega) (by omega), w64 (x := n - pf o t j) (by omega) (by omega),
      w64 (x := pf o t j + mn (o - pa o t j) (n - pf o t j)) (by omega) (by omega), pf_next o t n j ho hq]
    have := ih k (j + 1) (by omega) (by omega) (by omega)
    rw [List.range_succ, List.map_append] at this
    exact this

theorem pieces_yes (s o t n : Int) (h : good s o) (ht : 0 ≤ t) (hn : 0 ≤ n) (hb : t + n ≤ s) {k : Nat} (hk : 5100 ≤ k) : stripe_Pieces.f k s o t n = some (row o t n, none) := by
  have h' := h
  obtain ⟨h0, h1, ho⟩ := h
  unfold stripe_Pieces.f
  rw [sound_eq, decide_eq_true h']
  simp only [Option.bind_some, if_true]
  rw [if_neg (by omega), if_neg (by omega), if_neg (by omega), w64 (x := s - n) (by omega) (by omega), decide_eq_false (by omega)]
  obtain ⟨k, rfl⟩ : ∃ m, k = m + 1 := ⟨k - 1, by omega⟩
  simp only [stripe_Pieces.j0, Bool.false_eq_true, if_false]
  have := pm_le o t n ho ht (by omega)
  have := prog_loop o t n ho ht hn (by omega) (pm o t n) k 0 (by omega) (by omega) (by omega)
  rw [pf_zero, show mn 0 n = 0 by unfold mn; rw [if_neg (by omega)]] at this
  exact this

theorem pieces_no (s o t n : Int) (h : ¬ (good s o ∧ 0 ≤ t ∧ 0 ≤ n ∧ t + n ≤ s)) {k : Nat} (hk : 1 ≤ k) : stripe_Pieces.f k s o t n = some ([], some 1) := by
  obtain ⟨k, rfl⟩ : ∃ m, k = m + 1 := ⟨k - 1, by omega⟩
  unfold stripe_Pieces.f
  rw [sound_eq]
  simp only [Option.bind_some]
  by_cases hg : good s o
  · rw [decide_eq_true hg]
    have hs : 0 ≤ s ∧ s ≤ 4096 := ⟨hg.1, hg.2.1⟩
    simp only [if_true]
    by_cases h1 : t < 0
    · rw [if_pos h1]; simp only [stripe_Pieces.j0, if_true]
    · rw [if_neg h1]
      by_cases h2 : n < 0
      · rw [if_pos h2]; simp only [stripe_Pieces.j0, if_true]
      · rw [if_neg h2]
        by_cases h3 : n > s
        · rw [if_pos h3]; simp only [stripe_Pieces.j0, if_true]
        · rw [if_neg h3, w64 (x := s - n) (by omega) (by omega)]
          have : t > s - n := by
            have : ¬ (0 ≤ t ∧ 0 ≤ n ∧ t + n ≤ s) := fun q => h ⟨hg, q⟩
            omega
          rw [decide_eq_true this]; simp only [stripe_Pieces.j0, if_true]
  · rw [decide_eq_false hg]
    simp only [Bool.false_eq_true, if_false, stripe_Pieces.j0, if_true]

theorem row_len (o t n : Int) : (row o t n).length = pm o t n := by unfold row; simp
theorem row_at (o t n : Int) (j : Nat) (h : j < pm o t n) : rd_T37 (row o t n) (j : Int) = pc o t n j := by
  unfold rd_T37 row; simp [List.getD, h]

theorem law_loop (s o t n : Int) (hg : good s o) (ht : 0 ≤ t) (hn : 0 ≤ n) (hb : t + n ≤ s) (d : Nat) : ∀ (k j : Nat), j ≤ pm o t n → pm o t n - j = d → d < k →
    laminalaw12_StripeBytes.l0 k (t + mn (pf o t j) n) (row o t n) ((row o t n).length : Int) j s o t n = some true := by
  have hg' := hg
  obtain ⟨h0, h1, ho⟩ := hg
  induction d with
  | zero =>
    intro k j h2 hd hk
    obtain ⟨k, rfl⟩ : ∃ m, k = m + 1 := ⟨k - 1, by omega⟩
    have hj : j = pm o t n := by omega
    have hq := pf_lt o t n j ho
    have : mn (pf o t j) n = n := by unfold mn; split <;> omega
    simp only [laminalaw12_StripeBytes.l0]
    rw [row_len, if_neg (by omega), this, w64 (x := t + n) (by omega) (by omega)]; simp
  | succ d ih =>
    intro k j h2 hd hk
    obtain ⟨k, rfl⟩ : ∃ m, k = m + 1 := ⟨k - 1, by omega⟩
    have hj : j < pm o t n := by omega
    have hq := (pf_lt o t n j ho).1 hj
    have hm : mn (pf o t j) n = pf o t j := by unfold mn; rw [if_neg (by omega)]
    have hz := pf_nonneg o t j ho
    have hA := pa_range o t j ho
    have hL := pm_le o t n ho ht (by omega)
    have ho5 : 16 ≤ o ∧ o ≤ 256 := by unfold five at ho; omega
    have hih := ih k (j + 1) (by omega) (by omega) (by omega)
    simp only [laminalaw12_StripeBytes.l0]
    rw [row_at o t n j hj, row_len, hm, if_pos (by omega), if_pos (by omega), if_pos (by omega)]
    rw [row_len] at hih
    have hdv : 0 ≤ t / o + (j : Int) ∧ t / o + (j : Int) ≤ 4096 := by
      rw [← pf_div o t j ho]
      constructor
      · exact Int.ediv_nonneg (by omega) (by omega)
      · have := Int.ediv_le_self (a := t + pf o t j) o (by omega); omega
    have hmn : mn (o - pa o t j) (n - pf o t j) ≤ o ∧ 0 < mn (o - pa o t j) (n - pf o t j) ∧ mn (o - pa o t j) (n - pf o t j) ≤ n - pf o t j ∧ mn (o - pa o t j) (n - pf o t j) ≤ o - pa o t j := by unfold mn; split <;> omega
    have hprod : (t / o + (j : Int)) * o + pa o t j = t + pf o t j := by
      unfold pf pa; rcases ho with rfl | rfl | rfl | rfl | rfl <;> split <;> omega
    have hcnt : cnt o (t / o + (j : Int)) s = mn o (s - (t / o + (j : Int)) * o) := by
      unfold cnt mn; (repeat' split) <;> omega
    have hw := whole_eq s o (t / o + (j : Int)) hg' (by omega)
    have hc2 : pa o t j + mn (o - pa o t j) (n - pf o t j) ≤ cnt o (t / o + (j : Int)) s := by
      rw [hcnt]; generalize mn (o - pa o t j) (n - pf o t j) = q at hmn ⊢
      unfold mn; split <;> omega
    rw [show (pc o t n j).f0 = t / o + (j : Int) from rfl, show (pc o t n j).f1 = pa o t j from rfl, show (pc o t n j).f2 = mn (o - pa o t j) (n - pf o t j) from rfl, show (pc o t n j).f3 = pf o t j from rfl]
    rw [hw, if_neg (show ¬ cnt o (t / o + (j : Int)) s = 0 by omega)]
    simp only [Option.bind_some, Option.isNone_none, if_true]
    rw [if_neg (by omega), w64 (x := (t / o + (j : Int)) * o) (by omega) (by omega), w64 (x := (t / o + (j : Int)) * o + pa o t j) (by omega) (by omega), if_pos hprod,
      w64 (x := t + pf o t j - t) (by omega) (by omega), if_pos (by omega), w64 (x := pa o t j + mn (o - pa o t j) (n - pf o t j)) (by omega) (by omega), if_neg (by omega),
      w64 (x := t + pf o t j + mn (o - pa o t j) (n - pf o t j)) (by omega) (by omega), w64 (x := (j : Int) + 1) (by omega) (by omega), Int.add_assoc, pf_next o t n j ho hq]
    exact hih
end StripeBytesAid
open StripeBytesAid
theorem StripeBytes (s o t n : Int) : ∃ k, laminalaw12_StripeBytes.f k s o t n = some true := by
  refine ⟨6000, ?_⟩
  unfold laminalaw12_StripeBytes.f
  rw [alive (by omega)]
  simp only [Option.bind_some, if_true]
  by_cases h : good s o ∧ 0 ≤ t ∧ 0 ≤ n ∧ t + n ≤ s
  · obtain ⟨hg, ht, hn, hb⟩ := h
    rw [pieces_yes s o t n hg ht hn hb (by omega)]
    simp only [Option.bind_some, Option.isNone_none, if_true]
    have hL := pm_le o t n hg.2.2 ht (by have := hg.2.1; omega)
    have := law_loop s o t n hg ht hn hb (pm o t n) 6000 0 (by omega) (by omega) (by omega)
    rw [pf_zero, show mn 0 n = 0 by unfold mn; rw [if_neg (by omega)], Int.add_zero] at this
    exact this
  · rw [pieces_no s o t n h (by omega)]
    rfl

end Go.Proofs.Ytenmeahhobnmoaa.Pure
