/- StripeWhole: for every size, object size and index the program's Whole and the document's answer agree: ErrRange and 0, or how many bytes stand there. No condition. -/
import Derived.Test.YtenmeahhobnmoaaPStripeWholex3
namespace Go.Proofs.Ytenmeahhobnmoaa.Pure
open Go.RowKit Go.Proofs.Ytenmeahhobnmoaa.PStripeWhole Go.Proofs.YtenmeahhobnmoaaW.PrintWords Go.Proofs.YtenmeahhobnmoaaW.PrintLast Go.Proofs.YtenmeahhobnmoaaW.PrintMore
namespace StripeWholeAid
theorem w64 {x : Int} (h0 : -9223372036854775808 ≤ x) (h1 : x ≤ 9223372036854775807) : wrap64 x = x := by
  unfold wrap64; omega

theorem wf64 {n : Int} (h : (Lit.int .i64 n).wf = true) : -9223372036854775808 ≤ n ∧ n ≤ 9223372036854775807 := by
  simp only [Lit.wf, Bool.and_eq_true, decide_eq_true_eq] at h; exact h

def five (a : Int) : Prop := a = 16 ∨ a = 32 ∨ a = 64 ∨ a = 128 ∨ a = 256
def good (a b : Int) : Prop := 0 ≤ a ∧ a ≤ 4096 ∧ five b
instance (a b : Int) : Decidable (good a b) := by unfold good five; infer_instance

theorem sound_bits : ∀ n : Nat, n < 241 → ((Go.bits .and .i64 (16 + (n : Int)) (wrap64 (16 + (n : Int) - 1)) == 0) = (n == 0 || n == 16 || n == 48 || n == 112 || n == 240)) := by
  decide +kernel

theorem sound_eq (a b : Int) : stripe_sound.f a b = some (decide (good a b)) := by
  unfold stripe_sound.f
  by_cases h0 : a ≥ 0
  · rw [if_pos h0]
    by_cases h1 : a ≤ 4096
    · rw [if_pos h1]
      by_cases h2 : b ≥ 16
      · rw [if_pos h2]
        by_cases h3 : b ≤ 256
        · rw [if_pos h3]
          obtain ⟨n, rfl⟩ : ∃ n : Nat, b = 16 + (n : Int) := ⟨(b - 16).toNat, by omega⟩
          rw [sound_bits n (by omega)]
          congr 1
          rw [Bool.eq_iff_iff, decide_eq_true_iff]
          simp only [Bool.or_eq_true, beq_iff_eq]
          unfold good five
          omega
        · rw [if_neg h3]; congr 1; exact (decide_eq_false (show ¬ good a b from by unfold good five; omega)).symm
      · rw [if_neg h2]; congr 1; exact (decide_eq_false (show ¬ good a b from by unfold good five; omega)).symm
    · rw [if_neg h1]; congr 1; exact (decide_eq_false (show ¬ good a b from by unfold good five; omega)).symm
  · rw [if_neg h0]; congr 1; exact (decide_eq_false (show ¬ good a b from by unfold good five; omega)).symm

theorem good_eq (a b : Int) : laminaref12_Good.f a b = some (decide (good a b)) := by
  unfold laminaref12_Good.f
  by_cases h0 : a ≥ 0
  · rw [if_pos h0]
    by_cases h1 : a ≤ 4096
    · rw [if_pos h1]
      by_cases h2 : b = 16
      · rw [if_pos h2]; congr 1; exact (decide_eq_true (show good a b from by unfold good five; omega)).symm
      · rw [if_neg h2]
        by_cases h3 : b = 32
        · rw [if_pos h3]; congr 1; exact (decide_eq_true (show good a b from by unfold good five; omega)).symm
        · rw [if_neg h3]
          by_cases h4 : b = 64
          · rw [if_pos h4]; congr 1; exact (decide_eq_true (show good a b from by unfold good five; omega)).symm
          · rw [if_neg h4]
            by_cases h5 : b = 128
            · rw [if_pos h5]; congr 1; exact (decide_eq_true (show good a b from by unfold good five; omega)).symm
            · rw [if_neg h5]; congr 1; rw [Bool.eq_iff_iff, decide_eq_true_iff, beq_iff_eq]; unfold good five; omega
    · rw [if_neg h1]; congr 1; exact (decide_eq_false (show ¬ good a b from by unfold good five; omega)).symm
  · rw [if_neg h0]; congr 1; exact (decide_eq_false (show ¬ good a b from by unfold good five; omega)).symm

theorem alive {k : Nat} (h : 8 ≤ k) : laminalaw12_alive.f k = some true :=
  at_rounds laminalaw12_alive.mono h (by decide +kernel)

theorem is_range : laminanum_Is.f (some 1) 1 = some true := by decide +kernel

/-- how many of the first i bytes stand in an object. -/
def cnt (o x i : Int) : Int := if x < 0 then 0 else if i ≤ x * o then 0 else if i ≤ x * o + o then i - x * o else o

theorem cnt_step (o x i : Int) (ho : five o) (hi : 0 ≤ i) : cnt o x (i + 1) = if Int.tdiv i o = x then cnt o x i + 1 else cnt o x i := by
  rw [Int.tdiv_eq_ediv_of_nonneg hi]
  unfold cnt
  rcases ho with rfl | rfl | rfl | rfl | rfl <;> (repeat' split) <;> omega

theorem ref_loop (s o x : Int) (ho : five o) (hs : s ≤ 4096) (d : Nat) : ∀ (k : Nat) (i : Int), 0 ≤ i → i ≤ s → s - i = d → d < k →
    laminaref12_Whole.l0 k s o x (cnt o x i) i = some (cnt o x s) := by
  induction d with
  | zero =>
    intro k i h0 h1 hd hk
    obtain ⟨k, rfl⟩ : ∃ m, k = m + 1 := ⟨k - 1, by omega⟩
    simp only [laminaref12_Whole.l0]
    rw [if_neg (by omega)]
    congr 2; omega
  | succ d ih =>
    intro k i h0 h1 hd hk
    obtain ⟨k, rfl⟩ : ∃ m, k = m + 1 := ⟨k - 1, by omega⟩
    simp only [laminaref12_Whole.l0]
    have hlt : i < s := by omega
    have hc : 0 ≤ cnt o x i ∧ cnt o x i ≤ 4096 := by
      unfold cnt; unfold five at ho; (repeat' split) <;> omega
    have hq : wrap64 (Int.tdiv i o) = Int.tdiv i o := by
      rw [Int.tdiv_eq_ediv_of_nonneg h0]
      apply w64
      · have := Int.ediv_nonneg h0 (show 0 ≤ o by unfold five at ho; omega); omega
      · have := Int.ediv_le_self o h0; omega
    rw [if_pos hlt, if_neg (by unfold five at ho; omega), hq, w64 (x := i + 1) (by omega) (by omega), w64 (x := cnt o x i + 1) (by omega) (by omega)]
    have hih := ih k (i + 1) (by omega) (by omega) (by omega) (by omega)
    rw [cnt_step o x i ho h0] at hih
    by_cases hx : Int.tdiv i o = x
    · rw [if_pos hx] at hih ⊢; exact hih
    · rw [if_neg hx] at hih ⊢; exact hih

theorem ref_whole (s o x : Int) (h : good s o) {k : Nat} (hk : 5000 ≤ k) : laminaref12_Whole.f k s o x = some (cnt o x s) := by
  obtain ⟨h0, h1, ho⟩ := h
  have := ref_loop s o x ho h1 s.toNat k 0 (by omega) h0 (by omega) (by omega)
  unfold laminaref12_Whole.f
  rw [show cnt o x 0 = 0 by unfold cnt; unfold five at ho; rcases ho with rfl | rfl | rfl | rfl | rfl <;> (repeat' split) <;> omega] at this
  exact this

theorem objects_eq (s o : Int) (h : good s o) : head_Objects.f s o = some ((s + o - 1) / o) := by
  obtain ⟨h0, h1, ho⟩ := h
  unfold head_Objects.f
  by_cases hs : s < 1
  · rw [if_pos hs]; congr 1; rcases ho with rfl | rfl | rfl | rfl | rfl <;> omega
  · rw [if_neg hs, if_neg (by unfold five at ho; omega), if_neg (by unfold five at ho; omega)]
    rw [w64 (x := s - 1) (by omega) (by omega), Int.tdiv_eq_ediv_of_nonneg (by omega)]
    congr 1
    rcases ho with rfl | rfl | rfl | rfl | rfl <;> (unfold wrap64; omega)

theorem whole_eq (s o x : Int) (h : good s o) (hx : -9223372036854775808 ≤ x ∧ x ≤ 9223372036854775807) :
    stripe_Whole.f s o x = some (cnt o x s, if cnt o x s = 0 then some 1 else none) := by
  unfold stripe_Whole.f
  rw [sound_eq, decide_eq_true h]
  simp only [Option.bind_some, if_true]
  rw [objects_eq s o h]
  obtain ⟨h0, h1, ho⟩ := h
  by_cases hx0 : x < 0
  · rw [if_pos hx0]
    have : cnt o x s = 0 := by unfold cnt; rw [if_pos hx0]
    rw [this]; rfl
  · rw [if_neg hx0]
    simp only [Option.bind_some]
    by_cases hx1 : x ≥ (s + o - 1) / o
    · rw [if_pos hx1]
      have : cnt o x s = 0 := by
        unfold cnt
        rcases ho with rfl | rfl | rfl | rfl | rfl <;> (repeat' split) <;> omega
      rw [this]; rfl
    · rw [if_neg hx1]
      have hb : 0 ≤ x * o ∧ x * o < s := by rcases ho with rfl | rfl | rfl | rfl | rfl <;> omega
      rw [w64 (x := x * o) (by omega) (by omega), w64 (x := s - x * o) (by omega) (by omega)]
      have : cnt o x s = mn o (s - x * o) := by
        unfold cnt mn; (repeat' split) <;> omega
      rw [← this]
      have : cnt o x s ≠ 0 := by
        rw [this]; unfold mn; unfold five at ho; split <;> omega
      rw [if_neg this]
end StripeWholeAid
open StripeWholeAid
theorem StripeWhole : laminalaw12_StripeWhole.Pure := by
  intro s o x _ _ hx
  have hx' := wf64 hx
  refine ⟨6000, ?_⟩
  unfold laminalaw12_StripeWhole.f
  rw [alive (by omega)]
  simp only [Option.bind_some, if_true]
  rw [good_eq]
  by_cases hg : good s o
  · rw [whole_eq s o x hg hx', decide_eq_true hg, ref_whole s o x hg (by omega)]
    simp only [Option.bind_some, if_true]
    simp only [laminalaw12_StripeWhole.j0]
    rw [ref_whole s o x hg (by omega)]
    by_cases hc : cnt o x s = 0
    · simp [hc, is_range]
    · simp [hc]
  · rw [decide_eq_false hg]
    simp only [stripe_Whole.f, sound_eq, decide_eq_false hg, Option.bind_some, Bool.false_eq_true, if_false]
    simp only [laminalaw12_StripeWhole.j0, is_range]
    simp

end Go.Proofs.Ytenmeahhobnmoaa.Pure
