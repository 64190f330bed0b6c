/- StripePieces: for every size, object size and range the program's pieces are the document's; ErrRange and no pieces where the image or the range is none. No condition. -/
import Derived.Test.YtenmeahhobnmoaaPStripePiecesx4
namespace Go.Proofs.Ytenmeahhobnmoaa.Pure
open Go.RowKit Go.Proofs.Ytenmeahhobnmoaa.PStripePieces Go.Proofs.YtenmeahhobnmoaaW.PrintWords Go.Proofs.YtenmeahhobnmoaaW.PrintLast Go.Proofs.YtenmeahhobnmoaaW.PrintMore
namespace StripePiecesAid
theorem w64 {x : Int} (h0 : -9223372036854775808 ≤ x) (h1 : x ≤ 9223372036854775807) : wrap64 x = x := by
  unfold wrap64; omega

theorem wf64 {n : Int} (h : (Lit.int .i64 n).wf = true) : -9223372036854775808 ≤ n ∧ n ≤ 9223372036854775807 := by
  simp only [Lit.wf, Bool.and_eq_true, decide_eq_true_eq] at h; exact h

def five (a : Int) : Prop := a = 16 ∨ a = 32 ∨ a = 64 ∨ a = 128 ∨ a = 256
def good (a b : Int) : Prop := 0 ≤ a ∧ a ≤ 4096 ∧ five b
instance (a b : Int) : Decidable (good a b) := by unfold good five; infer_instance

theorem sound_bits : ∀ n : Nat, n < 241 → ((Go.bits .and .i64 (16 + (n : Int)) (wrap64 (16 + (n : Int) - 1)) == 0) = (n == 0 || n == 16 || n == 48 || n == 112 || n == 240)) := by
  decide +kernel

theorem sound_eq (a b : Int) : stripe_sound.f a b = some (decide (good a b)) := by
  unfold stripe_sound.f
  by_cases h0 : a ≥ 0
  · rw [if_pos h0]
    by_cases h1 : a ≤ 4096
    · rw [if_pos h1]
      by_cases h2 : b ≥ 16
      · rw [if_pos h2]
        by_cases h3 : b ≤ 256
        · rw [if_pos h3]
          obtain ⟨n, rfl⟩ : ∃ n : Nat, b = 16 + (n : Int) := ⟨(b - 16).toNat, by omega⟩
          rw [sound_bits n (by omega)]
          congr 1
          rw [Bool.eq_iff_iff, decide_eq_true_iff]
          simp only [Bool.or_eq_true, beq_iff_eq]
          unfold good five
          omega
        · rw [if_neg h3]; congr 1; exact (decide_eq_false (show ¬ good a b from by unfold good five; omega)).symm
      · rw [if_neg h2]; congr 1; exact (decide_eq_false (show ¬ good a b from by unfold good five; omega)).symm
    · rw [if_neg h1]; congr 1; exact (decide_eq_false (show ¬ good a b from by unfold good five; omega)).symm
  · rw [if_neg h0]; congr 1; exact (decide_eq_false (show ¬ good a b from by unfold good five; omega)).symm

theorem good_eq (a b : Int) : laminaref12_Good.f a b = some (decide (good a b)) := by
  unfold laminaref12_Good.f
  by_cases h0 : a ≥ 0
  · rw [if_pos h0]
    by_cases h1 : a ≤ 4096
    · rw [if_pos h1]
      by_cases h2 : b = 16
      · rw [if_pos h2]; congr 1; exact (decide_eq_true (show good a b from by unfold good five; omega)).symm
      · rw [if_neg h2]
        by_cases h3 : b = 32
        · rw [if_pos h3]; congr 1; exact (decide_eq_true (show good a b from by unfold good five; omega)).symm
        · rw [if_neg h3]
          by_cases h4 : b = 64
          · rw [if_pos h4]; congr 1; exact (decide_eq_true (show good a b from by unfold good five; omega)).symm
          · rw [if_neg h4]
            by_cases h5 : b = 128
            · rw [if_pos h5]; congr 1; exact (decide_eq_true (show good a b from by unfold good five; omega)).symm
            · rw [if_neg h5]; congr 1; rw [Bool.eq_iff_iff, decide_eq_true_iff, beq_iff_eq]; unfold good five; omega
    · rw [if_neg h1]; congr 1; exact (decide_eq_false (show ¬ good a b from by unfold good five; omega)).symm
  · rw [if_neg h0]; congr 1; exact (decide_eq_false (show ¬ good a b from by unfold good five; omega)).symm

theorem alive {k : Nat} (h : 8 ≤ k) : laminalaw12_alive.f k = some true :=
  at_rounds laminalaw12_alive.mono h (by decide +kernel)

theorem is_range : laminanum_Is.f (some 1) 1 = some true := by decide +kernel

/-- the place of piece j in its data object; where it begins in the range; the piece; how many there are. -/
def pa (o t : Int) (j : Nat) : Int := if j = 0 then t % o else 0
def pf (o t : Int) (j : Nat) : Int := if j = 0 then 0 else (t / o + j) * o - t
def pc (o t n : Int) (j : Nat) : S37 := ⟨t / o + j, pa o t j, mn (o - pa o t j) (n - pf o t j), pf o t j⟩
def pm (o t n : Int) : Nat := if n ≤ 0 then 0 else ((t + n - 1) / o - t / o + 1).toNat
def row (o t n : Int) : List S37 := (List.range (pm o t n)).map (pc o t n)

theorem pa_range (o t : Int) (j : Nat) (ho : five o) : 0 ≤ pa o t j ∧ pa o t j < o := by
  unfold pa; rcases ho with rfl | rfl | rfl | rfl | rfl <;> split <;> omega
theorem pm_le (o t n : Int) (ho : five o) (ht : 0 ≤ t) (hb : t + n ≤ 4096) : pm o t n ≤ 5000 := by
  unfold pm; rcases ho with rfl | rfl | rfl | rfl | rfl <;> split <;> omega
theorem pf_lt (o t n : Int) (j : Nat) (ho : five o) : j < pm o t n ↔ pf o t j < n := by
  unfold pm pf
  rcases ho with rfl | rfl | rfl | rfl | rfl <;> (repeat' split) <;> omega
theorem pf_zero (o t : Int) : pf o t 0 = 0 := rfl
theorem pf_nonneg (o t : Int) (j : Nat) (ho : five o) : 0 ≤ pf o t j := by
  unfold pf; rcases ho with rfl | rfl | rfl | rfl | rfl <;> split <;> omega
theorem pf_div (o t : Int) (j : Nat) (ho : five o) : (t + pf o t j) / o = t / o + j := by
  unfold pf; rcases ho with rfl | rfl | rfl | rfl | rfl <;> split <;> omega
theorem pf_mod (o t : Int) (j : Nat) (ho : five o) : (t + pf o t j) % o = pa o t j := by
  unfold pf pa; rcases ho with rfl | rfl | rfl | rfl | rfl <;> split <;> omega
theorem pf_next (o t n : Int) (j : Nat) (ho : five o) (h : pf o t j < n) : pf o t j + mn (o - pa o t j) (n - pf o t j) = mn (pf o t (j + 1)) n := by
  revert h
  unfold pf pa mn
  rcases ho with rfl | rfl | rfl | rfl | rfl <;> (repeat' split) <;> omega

theorem prog_loop (o t n : Int) (ho : five o) (ht : 0 ≤ t) (hn : 0 ≤ n) (hb : t + n ≤ 4096) (d : Nat) : ∀ (k j : Nat), j ≤ pm o t n → pm o t n - j = d → d < k →
    stripe_Pieces.l0 k o t n ((List.range j).map (pc o t n)) (mn (pf o t j) n) = some (row o t n, none) := by
  induction d with
  | zero =>
    intro k j h0 hd hk
    obtain ⟨k, rfl⟩ : ∃ m, k = m + 1 := ⟨k - 1, by omega⟩
    have hj : j = pm o t n := by omega
    have hq := pf_lt o t n j ho
    have : ¬ mn (pf o t j) n < n := by unfold mn; split <;> omega
    simp only [stripe_Pieces.l0]
    rw [if_neg this, hj]; rfl
  | succ d ih =>
    intro k j h0 hd hk
    obtain ⟨k, rfl⟩ : ∃ m, k = m + 1 := ⟨k - 1, by omega⟩
    have hj : j < pm o t n := by omega
    have hq := (pf_lt o t n j ho).1 hj
    have hm : mn (pf o t j) n = pf o t j := by unfold mn; rw [if_neg (by omega)]
    have hz := pf_nonneg o t j ho
    have hA := pa_range o t j ho
    have hL := pm_le o t n ho ht hb
    have ho5 : 16 ≤ o ∧ o ≤ 256 := by unfold five at ho; omega
    simp only [stripe_Pieces.l0]
    rw [hm, if_pos hq, if_neg (by omega), if_pos (by simp; omega)]
    rw [w64 (x := t + pf o t j) (by omega) (by omega), Int.tdiv_eq_ediv_of_nonneg (by omega), Int.tmod_eq_emod_of_nonneg (by omega), pf_div o t j ho, pf_mod o t j ho]
    have hdv : 0 ≤ t / o + (j : Int) ∧ t / o + (j : Int) ≤ 4096 := by
      rw [← pf_div o t j ho]
      constructor
      · exact Int.ediv_nonneg (by omega) (by omega)
      · have := Int.ediv_le_self (a := t + pf o t j) o (by omega); omega
    have hmn : mn (o - pa o t j) (n - pf o t j) ≤ o ∧ 0 < mn (o - pa o t j) (n - pf o t j) := by unfold mn; split <;> omega
    rw [w64 (x := t / o + (j : Int)) (by omega) (by omega), w64 (x := o - pa o t j) (by omega) (by omega), w64 (x := n - pf o t j) (by omega) (by omega),
      w64 (x := pf o t j + mn (o - pa o t j) (n - pf o t j)) (by omega) (by omega), pf_next o t n j ho hq]
    have := ih k (j + 1) (by omega) (by omega) (by omega)
    rw [List.range_succ, List.map_append] at this
    exact this

theorem pieces_yes (s o t n : Int) (h : good s o) (ht : 0 ≤ t) (hn : 0 ≤ n) (hb : t + n ≤ s) {k : Nat} (hk : 5100 ≤ k) : stripe_Pieces.f k s o t n = some (row o t n, none) := by
  have h' := h
  obtain ⟨h0, h1, ho⟩ := h
  unfold stripe_Pieces.f
  rw [sound_eq, decide_eq_true h']
  simp only [Option.bind_some, if_true]
  rw [if_neg (by omega), if_neg (by omega), if_neg (by omega), w64 (x := s - n) (by omega) (by omega), decide_eq_false (by omega)]
  obtain ⟨k, rfl⟩ : ∃ m, k = m + 1 := ⟨k - 1, by omega⟩
  simp only [stripe_Pieces.j0, Bool.false_eq_true, if_false]
  have := pm_le o t n ho ht (by omega)
  have := prog_loop o t n ho ht hn (by omega) (pm o t n) k 0 (by omega) (by omega) (by omega)
  rw [pf_zero, show mn 0 n = 0 by unfold mn; rw [if_neg (by omega)]] at this
  exact this

theorem pieces_no (s o t n : Int) (h : ¬ (good s o ∧ 0 ≤ t ∧ 0 ≤ n ∧ t + n ≤ s)) {k : Nat} (hk : 1 ≤ k) : stripe_Pieces.f k s o t n = some ([], some 1) := by
  obtain ⟨k, rfl⟩ : ∃ m, k = m + 1 := ⟨k - 1, by omega⟩
  unfold stripe_Pieces.f
  rw [sound_eq]
  simp only [Option.bind_some]
  by_cases hg : good s o
  · rw [decide_eq_true hg]
    have hs : 0 ≤ s ∧ s ≤ 4096 := ⟨hg.1, hg.2.1⟩
    simp only [if_true]
    by_cases h1 : t < 0
    · rw [if_pos h1]; simp only [stripe_Pieces.j0, if_true]
    · rw [if_neg h1]
      by_cases h2 : n < 0
      · rw [if_pos h2]; simp only [stripe_Pieces.j0, if_true]
      · rw [if_neg h2]
        by_cases h3 : n > s
        · rw [if_pos h3]; simp only [stripe_Pieces.j0, if_true]
        · rw [if_neg h3, w64 (x := s - n) (by omega) (by omega)]
          have : t > s - n := by
            have : ¬ (0 ≤ t ∧ 0 ≤ n ∧ t + n ≤ s) := fun q => h ⟨hg, q⟩
            omega
          rw [decide_eq_true this]; simp only [stripe_Pieces.j0, if_true]
  · rw [decide_eq_false hg]
    simp only [Bool.false_eq_true, if_false, stripe_Pieces.j0, if_true]

theorem row_len (o t n : Int) : (row o t n).length = pm o t n := by unfold row; simp
theorem row_at (o t n : Int) (j : Nat) (h : j < pm o t n) : rd_T37 (row o t n) (j : Int) = pc o t n j := by
  unfold rd_T37 row; simp [List.getD, h]

def pd (o t n : Int) (j : Nat) : S38 := ⟨t / o + j, pa o t j, mn (o - pa o t j) (n - pf o t j), pf o t j⟩
def want (o t n : Int) : List S38 := (List.range (pm o t n)).map (pd o t n)
theorem want_len (o t n : Int) : (want o t n).length = pm o t n := by unfold want; simp
theorem want_at (o t n : Int) (j : Nat) (h : j < pm o t n) : rd_T38 (want o t n) (j : Int) = pd o t n j := by
  unfold rd_T38 want; simp [List.getD, h]

theorem pm_zero (o t : Int) : pm o t 0 = 0 := by unfold pm; rw [if_pos (by omega)]
theorem pm_same (o t i : Int) (hi : 0 < i) (h : (t + i) / o = (t + i - 1) / o) : pm o t (i + 1) = pm o t i := by
  unfold pm; rw [if_neg (by omega), if_neg (by omega)]; rw [show t + (i + 1) - 1 = t + i by omega, h]
theorem pm_more (o t i : Int) (ho : five o) (hi : 0 < i) (h : (t + i) / o ≠ (t + i - 1) / o) : pm o t (i + 1) = pm o t i + 1 := by
  unfold pm; rw [if_neg (by omega), if_neg (by omega)]
  rcases ho with rfl | rfl | rfl | rfl | rfl <;> omega
theorem pm_pos (o t i : Int) (ho : five o) (hi : 0 < i) : 0 < pm o t i ∧ t / o + ((pm o t i : Int) - 1) = (t + i - 1) / o := by
  unfold pm; rw [if_neg (by omega)]
  rcases ho with rfl | rfl | rfl | rfl | rfl <;> omega
theorem pd_keep (o t i : Int) (j : Nat) (ho : five o) (hj : j + 1 < pm o t i ∨ (j < pm o t i ∧ (t + i) / o ≠ (t + i - 1) / o)) : pd o t i j = pd o t (i + 1) j := by
  have : mn (o - pa o t j) (i - pf o t j) = mn (o - pa o t j) (i + 1 - pf o t j) := by
    revert hj
    unfold pm pa pf mn
    rcases ho with rfl | rfl | rfl | rfl | rfl <;> (repeat' split) <;> omega
  unfold pd; rw [this]
theorem pd_grow (o t i : Int) (j : Nat) (ho : five o) (hi : 0 < i) (hj : j + 1 = pm o t i) (h : (t + i) / o = (t + i - 1) / o) :
    mn (o - pa o t j) (i - pf o t j) + 1 = mn (o - pa o t j) (i + 1 - pf o t j) := by
  revert hj h
  unfold pm pa pf mn
  rcases ho with rfl | rfl | rfl | rfl | rfl <;> (repeat' split) <;> omega
theorem pd_new (o t i : Int) (ho : five o) (hi : 0 ≤ i) (h : i = 0 ∨ (t + i) / o ≠ (t + i - 1) / o) : pd o t (i + 1) (pm o t i) = ⟨(t + i) / o, (t + i) % o, 1, i⟩ := by
  have e1 : t / o + (pm o t i : Int) = (t + i) / o := by
    revert h; unfold pm; rcases ho with rfl | rfl | rfl | rfl | rfl <;> (repeat' split) <;> omega
  have e2 : pa o t (pm o t i) = (t + i) % o := by
    revert h; unfold pm pa; rcases ho with rfl | rfl | rfl | rfl | rfl <;> (repeat' split) <;> omega
  have e3 : pf o t (pm o t i) = i := by
    revert h; unfold pm pf; rcases ho with rfl | rfl | rfl | rfl | rfl <;> (repeat' split) <;> omega
  have e4 : mn (o - (t + i) % o) (i + 1 - i) = 1 := by
    unfold mn; rcases ho with rfl | rfl | rfl | rfl | rfl <;> split <;> omega
  unfold pd; rw [e1, e2, e3, e4]

theorem map_set {α : Type} (f g : Nat → α) (q : Nat) (v : α) (h : ∀ j, j < q → f j = g j) (hv : v = g q) :
    ((List.range (q + 1)).map f).set q v = (List.range (q + 1)).map g := by
  have e : (List.range q).map f = (List.range q).map g := List.map_congr_left fun j hj => h j (List.mem_range.1 hj)
  rw [List.range_succ, List.map_append, List.map_append, e, List.set_append_right _ _ (by simp)]
  simp [hv]

theorem step_same (o t i : Int) (ho : five o) (hi : 0 < i) (h : (t + i) / o = (t + i - 1) / o) :
    (want o t i).set (pm o t i - 1) (⟨t / o + ((pm o t i - 1 : Nat) : Int), pa o t (pm o t i - 1), mn (o - pa o t (pm o t i - 1)) (i - pf o t (pm o t i - 1)) + 1, pf o t (pm o t i - 1)⟩ : S38) = want o t (i + 1) := by
  have hp := (pm_pos o t i ho hi).1
  obtain ⟨q, hq⟩ : ∃ q, pm o t i = q + 1 := ⟨pm o t i - 1, by omega⟩
  unfold want
  rw [pm_same o t i hi h, hq, Nat.add_sub_cancel]
  refine map_set _ _ q _ (fun j hj => pd_keep o t i j ho (Or.inl (by omega))) ?_
  rw [pd_grow o t i q ho hi (by omega) h]; rfl
theorem step_more (o t i : Int) (ho : five o) (hi : 0 < i) (h : (t + i) / o ≠ (t + i - 1) / o) :
    want o t i ++ [(⟨(t + i) / o, (t + i) % o, 1, i⟩ : S38)] = want o t (i + 1) := by
  unfold want
  rw [pm_more o t i ho hi h, List.range_succ, List.map_append, ← pd_new o t i ho (by omega) (Or.inr h)]
  congr 1
  exact List.map_congr_left fun j hj => pd_keep o t i j ho (Or.inr ⟨List.mem_range.1 hj, h⟩)
theorem step_zero (o t : Int) (ho : five o) : [(⟨(t + 0) / o, (t + 0) % o, 1, 0⟩ : S38)] = want o t (0 + 1) := by
  have := pd_new o t 0 ho (by omega) (Or.inl rfl)
  rw [pm_zero] at this
  have e : pm o t (0 + 1) = 1 := by unfold pm; rw [if_neg (by omega)]; rcases ho with rfl | rfl | rfl | rfl | rfl <;> omega
  unfold want; rw [e, ← this]; rfl

theorem ref_loop (o t n : Int) (ho : five o) (ht : 0 ≤ t) (hb : t + n ≤ 4096) (d : Nat) : ∀ (k : Nat) (i : Int), 0 ≤ i → i ≤ n → n - i = d → d < k →
    laminaref12_Pieces.l0 k o t n (want o t i) i = some (want o t n) := by
  induction d with
  | zero =>
    intro k i h0 h1 hd hk
    obtain ⟨k, rfl⟩ : ∃ m, k = m + 1 := ⟨k - 1, by omega⟩
    simp only [laminaref12_Pieces.l0]
    rw [if_neg (by omega), show i = n by omega]
  | succ d ih =>
    intro k i h0 h1 hd hk
    obtain ⟨k, rfl⟩ : ∃ m, k = m + 1 := ⟨k - 1, by omega⟩
    have hlt : i < n := by omega
    have hih := ih k (i + 1) (by omega) (by omega) (by omega) (by omega)
    have ho5 : 16 ≤ o ∧ o ≤ 256 := by unfold five at ho; omega
    have hL := pm_le o t i ho ht (by omega)
    have hdv : 0 ≤ (t + i) / o ∧ (t + i) / o ≤ 4096 := by
      constructor
      · exact Int.ediv_nonneg (by omega) (by omega)
      · have := Int.ediv_le_self (a := t + i) o (by omega); omega
    simp only [laminaref12_Pieces.l0]
    rw [if_pos hlt, want_len, w64 (x := (pm o t i : Int) - 1) (by omega) (by omega), w64 (x := t + i) (by omega) (by omega), Int.tdiv_eq_ediv_of_nonneg (by omega),
      Int.tmod_eq_emod_of_nonneg (by omega), w64 (x := (t + i) / o) (by omega) (by omega), w64 (x := i + 1) (by omega) (by omega)]
    by_cases hi : i = 0
    · subst hi
      have e0 : want o t 0 = [] := by unfold want; rw [pm_zero]; rfl
      rw [pm_zero, if_neg (by omega), if_neg (by omega), if_pos (by omega), e0, List.nil_append, step_zero o t ho]
      exact hih
    · have hp := pm_pos o t i ho (by omega)
      rw [if_pos (by omega), if_pos (by omega), if_pos (by omega), if_neg (by omega)]
      rw [show ((pm o t i : Int) - 1) = ((pm o t i - 1 : Nat) : Int) by omega, want_at o t i _ (by omega)]
      rw [show (pd o t i (pm o t i - 1)).f0 = (t + i - 1) / o from by rw [← hp.2]; show t / o + ((pm o t i - 1 : Nat) : Int) = _; omega]
      by_cases h : (t + i) / o = (t + i - 1) / o
      · rw [if_pos h.symm, Int.toNat_natCast]
        rw [show (pd o t i (pm o t i - 1)).f1 = pa o t (pm o t i - 1) from rfl, show (pd o t i (pm o t i - 1)).f2 = mn (o - pa o t (pm o t i - 1)) (i - pf o t (pm o t i - 1)) from rfl,
          show (pd o t i (pm o t i - 1)).f3 = pf o t (pm o t i - 1) from rfl]
        have hA := pa_range o t (pm o t i - 1) ho
        have hF := (pf_lt o t i (pm o t i - 1) ho).1 (by omega)
        have hmn : mn (o - pa o t (pm o t i - 1)) (i - pf o t (pm o t i - 1)) ≤ 4096 ∧ 0 ≤ mn (o - pa o t (pm o t i - 1)) (i - pf o t (pm o t i - 1)) := by unfold mn; split <;> omega
        rw [w64 (by omega) (by omega)]
        have hs := step_same o t i ho (by omega) h
        rw [show t / o + ((pm o t i - 1 : Nat) : Int) = (t + i - 1) / o by rw [← hp.2]; omega] at hs
        rw [hs]; exact hih
      · rw [if_neg (fun q => h q.symm), if_pos (by omega), step_more o t i ho (by omega) h]
        exact hih

theorem ref_pieces (o t n : Int) (ho : five o) (ht : 0 ≤ t) (hn : 0 ≤ n) (hb : t + n ≤ 4096) {k : Nat} (hk : 5000 ≤ k) : laminaref12_Pieces.f k o t n = some (want o t n) := by
  have := ref_loop o t n ho ht hb n.toNat k 0 (by omega) (by omega) (by omega) (by omega)
  unfold laminaref12_Pieces.f
  rw [show want o t 0 = [] by unfold want; rw [pm_zero]; rfl] at this
  exact this

theorem law_loop (o t n : Int) (hL : pm o t n ≤ 5000) (d : Nat) : ∀ (k j : Nat), j ≤ pm o t n → pm o t n - j = d → d < k →
    laminalaw12_StripePieces.l0 k (want o t n) (row o t n) ((row o t n).length : Int) (j : Int) = some true := by
  induction d with
  | zero =>
    intro k j h0 hd hk
    obtain ⟨k, rfl⟩ : ∃ m, k = m + 1 := ⟨k - 1, by omega⟩
    simp only [laminalaw12_StripePieces.l0]
    rw [row_len, if_neg (by omega)]
  | succ d ih =>
    intro k j h0 hd hk
    obtain ⟨k, rfl⟩ : ∃ m, k = m + 1 := ⟨k - 1, by omega⟩
    have hj : j < pm o t n := by omega
    have hih := ih k (j + 1) (by omega) (by omega) (by omega)
    rw [row_len] at hih
    simp only [laminalaw12_StripePieces.l0]
    rw [row_len, want_len, if_pos (by omega), if_pos (by omega), if_pos (by omega), if_pos (by omega), row_at o t n j hj, want_at o t n j hj]
    rw [show (pc o t n j).f0 = (pd o t n j).f0 from rfl, show (pc o t n j).f1 = (pd o t n j).f1 from rfl, show (pc o t n j).f2 = (pd o t n j).f2 from rfl, show (pc o t n j).f3 = (pd o t n j).f3 from rfl]
    rw [if_neg (by simp), w64 (x := (j : Int) + 1) (by omega) (by omega)]
    exact hih

theorem goodrange_eq (s t n : Int) (h0 : 0 ≤ s) (h1 : s ≤ 4096) : laminaref12_GoodRange.f s t n = some (decide (0 ≤ t ∧ 0 ≤ n ∧ t + n ≤ s)) := by
  unfold laminaref12_GoodRange.f
  by_cases a : t ≥ 0
  · rw [if_pos a]
    by_cases b : n ≥ 0
    · rw [if_pos b]
      by_cases c : t ≤ s
      · rw [if_pos c, w64 (x := s - t) (by omega) (by omega)]
        congr 1; rw [decide_eq_decide]; omega
      · rw [if_neg c]; congr 1; exact (decide_eq_false (by omega)).symm
    · rw [if_neg b]; congr 1; exact (decide_eq_false (by omega)).symm
  · rw [if_neg a]; congr 1; exact (decide_eq_false (by omega)).symm
end StripePiecesAid
open StripePiecesAid
theorem StripePieces (s o t n : Int) : ∃ k, laminalaw12_StripePieces.f k s o t n = some true := by
  refine ⟨6000, ?_⟩
  unfold laminalaw12_StripePieces.f
  rw [alive (by omega)]
  simp only [Option.bind_some, if_true]
  by_cases h : good s o ∧ 0 ≤ t ∧ 0 ≤ n ∧ t + n ≤ s
  · obtain ⟨hg, hr⟩ := h
    have hs := hg.2.1
    rw [pieces_yes s o t n hg hr.1 hr.2.1 hr.2.2 (by omega), good_eq, decide_eq_true hg]
    simp only [Option.bind_some, if_true]
    rw [goodrange_eq s t n hg.1 hg.2.1, decide_eq_true hr]
    simp only [Option.bind_some, laminalaw12_StripePieces.j0, Bool.not_true, Bool.false_eq_true, if_false, Option.isNone_none, if_true]
    rw [ref_pieces o t n hg.2.2 hr.1 hr.2.1 (by omega) (by omega)]
    simp only [Option.bind_some, row_len, want_len, bne_self_eq_false, laminalaw12_StripePieces.j1, Bool.false_eq_true, if_false]
    have hL := pm_le o t n hg.2.2 hr.1 (by omega)
    have := law_loop o t n hL (pm o t n) 5998 0 (by omega) (by omega) (by omega)
    rw [row_len] at this
    exact this
  · rw [pieces_no s o t n h (by omega), good_eq]
    simp only [Option.bind_some]
    by_cases hg : good s o
    · rw [decide_eq_true hg]
      simp only [if_true]
      rw [goodrange_eq s t n hg.1 hg.2.1, decide_eq_false (fun q => h ⟨hg, q⟩)]
      simp [laminalaw12_StripePieces.j0, is_range]
    · rw [decide_eq_false hg]
      simp [laminalaw12_StripePieces.j0, is_range]

end Go.Proofs.Ytenmeahhobnmoaa.Pure
