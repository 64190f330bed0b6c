/- StripeCuts: for every size, object size and place the program's Cut and the document's answer agree: ErrRange and noughts, or the edge that is cut off and the data objects that are gone. No condition. -/
import Derived.Test.YtenmeahhobnmoaaPStripeCutsx4
namespace Go.Proofs.Ytenmeahhobnmoaa.Pure
open Go.RowKit Go.Proofs.Ytenmeahhobnmoaa.PStripeCuts Go.Proofs.YtenmeahhobnmoaaW.PrintWords Go.Proofs.YtenmeahhobnmoaaW.PrintLast Go.Proofs.YtenmeahhobnmoaaW.PrintMore
namespace StripeCutsAid
theorem w64 {x : Int} (h0 : -9223372036854775808 ≤ x) (h1 : x ≤ 9223372036854775807) : wrap64 x = x := by
  unfold wrap64; omega

theorem wf64 {n : Int} (h : (Lit.int .i64 n).wf = true) : -9223372036854775808 ≤ n ∧ n ≤ 9223372036854775807 := by
  simp only [Lit.wf, Bool.and_eq_true, decide_eq_true_eq] at h; exact h

def five (a : Int) : Prop := a = 16 ∨ a = 32 ∨ a = 64 ∨ a = 128 ∨ a = 256
def good (a b : Int) : Prop := 0 ≤ a ∧ a ≤ 4096 ∧ five b
instance (a b : Int) : Decidable (good a b) := by unfold good five; infer_instance

theorem sound_bits : ∀ n : Nat, n < 241 → ((Go.bits .and .i64 (16 + (n : Int)) (wrap64 (16 + (n : Int) - 1)) == 0) = (n == 0 || n == 16 || n == 48 || n == 112 || n == 240)) := by
  decide +kernel

theorem sound_eq (a b : Int) : stripe_sound.f a b = some (decide (good a b)) := by
  unfold stripe_sound.f
  by_cases h0 : a ≥ 0
  · rw [if_pos h0]
    by_cases h1 : a ≤ 4096
    · rw [if_pos h1]
      by_cases h2 : b ≥ 16
      · rw [if_pos h2]
        by_cases h3 : b ≤ 256
        · rw [if_pos h3]
          obtain ⟨n, rfl⟩ : ∃ n : Nat, b = 16 + (n : Int) := ⟨(b - 16).toNat, by omega⟩
          rw [sound_bits n (by omega)]
          congr 1
          rw [Bool.eq_iff_iff, decide_eq_true_iff]
          simp only [Bool.or_eq_true, beq_iff_eq]
          unfold good five
          omega
        · rw [if_neg h3]; congr 1; exact (decide_eq_false (show ¬ good a b from by unfold good five; omega)).symm
      · rw [if_neg h2]; congr 1; exact (decide_eq_false (show ¬ good a b from by unfold good five; omega)).symm
    · rw [if_neg h1]; congr 1; exact (decide_eq_false (show ¬ good a b from by unfold good five; omega)).symm
  · rw [if_neg h0]; congr 1; exact (decide_eq_false (show ¬ good a b from by unfold good five; omega)).symm

theorem good_eq (a b : Int) : laminaref12_Good.f a b = some (decide (good a b)) := by
  unfold laminaref12_Good.f
  by_cases h0 : a ≥ 0
  · rw [if_pos h0]
    by_cases h1 : a ≤ 4096
    · rw [if_pos h1]
      by_cases h2 : b = 16
      · rw [if_pos h2]; congr 1; exact (decide_eq_true (show good a b from by unfold good five; omega)).symm
      · rw [if_neg h2]
        by_cases h3 : b = 32
        · rw [if_pos h3]; congr 1; exact (decide_eq_true (show good a b from by unfold good five; omega)).symm
        · rw [if_neg h3]
          by_cases h4 : b = 64
          · rw [if_pos h4]; congr 1; exact (decide_eq_true (show good a b from by unfold good five; omega)).symm
          · rw [if_neg h4]
            by_cases h5 : b = 128
            · rw [if_pos h5]; congr 1; exact (decide_eq_true (show good a b from by unfold good five; omega)).symm
            · rw [if_neg h5]; congr 1; rw [Bool.eq_iff_iff, decide_eq_true_iff, beq_iff_eq]; unfold good five; omega
    · rw [if_neg h1]; congr 1; exact (decide_eq_false (show ¬ good a b from by unfold good five; omega)).symm
  · rw [if_neg h0]; congr 1; exact (decide_eq_false (show ¬ good a b from by unfold good five; omega)).symm

theorem alive {k : Nat} (h : 8 ≤ k) : laminalaw12_alive.f k = some true :=
  at_rounds laminalaw12_alive.mono h (by decide +kernel)

theorem is_range : laminanum_Is.f (some 1) 1 = some true := by decide +kernel

theorem objects_eq (s o : Int) (h : good s o) : head_Objects.f s o = some ((s + o - 1) / o) := by
  obtain ⟨h0, h1, ho⟩ := h
  unfold head_Objects.f
  by_cases hs : s < 1
  · rw [if_pos hs]; congr 1; rcases ho with rfl | rfl | rfl | rfl | rfl <;> omega
  · rw [if_neg hs, if_neg (by unfold five at ho; omega), if_neg (by unfold five at ho; omega)]
    rw [w64 (x := s - 1) (by omega) (by omega), Int.tdiv_eq_ediv_of_nonneg (by omega)]
    congr 1
    rcases ho with rfl | rfl | rfl | rfl | rfl <;> (unfold wrap64; omega)


/-- behind the bytes to .. i: the edge's length; how many objects are gone; their list. -/
def el (o t i : Int) : Int := if t % o = 0 then 0 else mn (i - t) (o - t % o)
def e0 (o t i : Int) : Int := if el o t i = 0 then 0 else t / o
def e1 (o t i : Int) : Int := if el o t i = 0 then 0 else t % o
def gn (o t i : Int) : Nat := ((i + o - 1) / o - (t + o - 1) / o).toNat
def gl (o t i : Int) : List Int := (List.range (gn o t i)).map fun j : Nat => (t + o - 1) / o + (j : Int)
theorem gl_len (o t i : Int) : (gl o t i).length = gn o t i := by unfold gl; simp
theorem gl_at (o t i : Int) (j : Nat) (h : j < gn o t i) : rd (gl o t i) (j : Int) = (t + o - 1) / o + (j : Int) := by
  unfold rd gl; simp [List.getD, h]
theorem gn_le (o t i : Int) (ho : five o) (h0 : 0 ≤ t) (hi : i ≤ 4096) : gn o t i ≤ 5000 := by
  unfold gn; rcases ho with rfl | rfl | rfl | rfl | rfl <;> omega
theorem el_range (o t i : Int) (ho : five o) (hi : t ≤ i) : 0 ≤ el o t i ∧ el o t i ≤ 256 := by
  unfold el mn; rcases ho with rfl | rfl | rfl | rfl | rfl <;> (repeat' split) <;> omega
/-- a byte of the edge. -/
theorem in_edge (o t i : Int) (ho : five o) (hi : t ≤ i) (h : t > i / o * o) : i / o = t / o ∧ t % o ≠ 0 ∧ el o t i = i - t ∧ el o t (i + 1) = i - t + 1 ∧ gn o t i = 0 ∧ gn o t (i + 1) = 0 ∧ (i = t → i % o = t % o) := by
  revert h
  unfold el gn mn; rcases ho with rfl | rfl | rfl | rfl | rfl <;> (repeat' split) <;> omega
/-- a byte of an object that is gone. -/
theorem in_gone (o t i : Int) (ho : five o) (hi : t ≤ i) (h : ¬ t > i / o * o) : el o t (i + 1) = el o t i ∧
    (gn o t i = 0 → i / o = (t + o - 1) / o + (gn o t i : Int) ∧ gn o t (i + 1) = gn o t i + 1) ∧
    (i / o = (t + o - 1) / o + ((gn o t i : Int) - 1) → gn o t (i + 1) = gn o t i) ∧
    (i / o ≠ (t + o - 1) / o + ((gn o t i : Int) - 1) → i / o = (t + o - 1) / o + (gn o t i : Int) ∧ gn o t (i + 1) = gn o t i + 1) := by
  revert h
  unfold el gn mn; rcases ho with rfl | rfl | rfl | rfl | rfl <;> (repeat' split) <;> omega
theorem gl_more (o t i : Int) (h : i / o = (t + o - 1) / o + (gn o t i : Int) ∧ gn o t (i + 1) = gn o t i + 1) : gl o t i ++ [i / o] = gl o t (i + 1) := by
  unfold gl; rw [h.2, List.range_succ, List.map_append, h.1]; rfl
theorem gl_same (o t i : Int) (h : gn o t (i + 1) = gn o t i) : gl o t (i + 1) = gl o t i := by unfold gl; rw [h]
theorem e_same (o t i : Int) (h : el o t (i + 1) = el o t i) : e0 o t (i + 1) = e0 o t i ∧ e1 o t (i + 1) = e1 o t i := by unfold e0 e1; rw [h]; exact ⟨rfl, rfl⟩

theorem ref_loop (s o t : Int) (ho : five o) (h0 : 0 ≤ t) (hs : s ≤ 4096) (d : Nat) : ∀ (k : Nat) (i : Int), t ≤ i → i ≤ s → s - i = d → d < k →
    laminaref12_Cut.l0 k s o t (gl o t i) i (e0 o t i) (e1 o t i) (el o t i) 0 = some (e0 o t s, e1 o t s, el o t s, 0, gl o t s) := by
  induction d with
  | zero =>
    intro k i h2 h1 hd hk
    obtain ⟨k, rfl⟩ : ∃ m, k = m + 1 := ⟨k - 1, by omega⟩
    simp only [laminaref12_Cut.l0]
    rw [if_neg (by omega), show i = s by omega]
  | succ d ih =>
    intro k i h2 h1 hd hk
    obtain ⟨k, rfl⟩ : ∃ m, k = m + 1 := ⟨k - 1, by omega⟩
    have hlt : i < s := by omega
    have hih := ih k (i + 1) (by omega) (by omega) (by omega) (by omega)
    have ho5 : 16 ≤ o ∧ o ≤ 256 := by unfold five at ho; omega
    have hdv : 0 ≤ i / o ∧ i / o ≤ 4096 ∧ 0 ≤ i / o * o ∧ i / o * o ≤ 4096 := by rcases ho with rfl | rfl | rfl | rfl | rfl <;> omega
    have hE := el_range o t i ho h2
    have hG := gn_le o t i ho h0 (by omega)
    simp only [laminaref12_Cut.l0]
    rw [if_pos hlt, if_neg (by omega), Int.tdiv_eq_ediv_of_nonneg (by omega), Int.tmod_eq_emod_of_nonneg (by omega), w64 (x := i / o) (by omega) (by omega),
      w64 (x := i / o * o) (by omega) (by omega), w64 (x := i + 1) (by omega) (by omega), gl_len]
    by_cases h : t > i / o * o
    · have he := in_edge o t i ho h2 h
      have hg : gl o t (i + 1) = gl o t i := gl_same o t i (by rw [he.2.2.2.2.1, he.2.2.2.2.2.1])
      have hn0 : e0 o t (i + 1) = t / o := by unfold e0; rw [if_neg (by omega)]
      have hn1 : e1 o t (i + 1) = t % o := by unfold e1; rw [if_neg (by omega)]
      rw [hg, hn0, hn1, he.2.2.2.1] at hih
      rw [if_pos h]
      by_cases hl : el o t i = 0
      · have hit : i = t := by omega
        rw [if_pos hl, he.1, he.2.2.2.2.2.2 hit]
        rw [show i - t + 1 = 0 + 1 by omega] at hih
        exact hih
      · rw [if_neg hl, w64 (x := el o t i + 1) (by omega) (by omega), he.2.2.1]
        rw [show e0 o t i = t / o by unfold e0; rw [if_neg hl], show e1 o t i = t % o by unfold e1; rw [if_neg hl]]
        exact hih
    · obtain ⟨he, hz, hsame, hmore⟩ := in_gone o t i ho h2 h
      rw [(e_same o t i he).1, (e_same o t i he).2, he] at hih
      rw [if_neg h]
      by_cases hg0 : gn o t i = 0
      · rw [if_pos (by omega), if_pos (by omega), gl_more o t i (hz hg0)]
        exact hih
      · rw [if_neg (by omega), w64 (x := (gn o t i : Int) - 1) (by omega) (by omega), if_pos (by omega), if_pos (by omega)]
        rw [show ((gn o t i : Int) - 1) = ((gn o t i - 1 : Nat) : Int) by omega, gl_at o t i _ (by omega)]
        by_cases hx : i / o = (t + o - 1) / o + ((gn o t i : Int) - 1)
        · rw [if_pos (by omega), ← gl_same o t i (hsame hx)]
          exact hih
        · rw [if_neg (by omega), if_pos (by omega), gl_more o t i (hmore hx)]
          exact hih

theorem ref_cut (s o t : Int) (hg : good s o) (h0 : 0 ≤ t) (h1 : t ≤ s) {k : Nat} (hk : 5000 ≤ k) :
    laminaref12_Cut.f k s o t = some (e0 o t s, e1 o t s, el o t s, 0, gl o t s) := by
  have hs := hg.2.1
  have := ref_loop s o t hg.2.2 h0 hs (s - t).toNat k t (by omega) h1 (by omega) (by omega)
  have hel : el o t t = 0 := by
    unfold el mn; rcases hg.2.2 with rfl | rfl | rfl | rfl | rfl <;> (repeat' split) <;> omega
  have hgn : gn o t t = 0 := by unfold gn; omega
  rw [show gl o t t = [] by unfold gl; rw [hgn]; rfl, show e0 o t t = 0 by unfold e0; rw [if_pos hel], show e1 o t t = 0 by unfold e1; rw [if_pos hel], hel] at this
  unfold laminaref12_Cut.f
  exact this

theorem cut_no (s o t : Int) (h : ¬ (good s o ∧ 0 ≤ t ∧ t ≤ s)) {k : Nat} (hk : 1 ≤ k) : stripe_Cut.f k s o t = some (0, 0, 0, 0, 0, 0, some 1) := by
  obtain ⟨k, rfl⟩ : ∃ m, k = m + 1 := ⟨k - 1, by omega⟩
  unfold stripe_Cut.f
  rw [sound_eq]
  simp only [Option.bind_some]
  by_cases hg : good s o
  · rw [decide_eq_true hg]
    simp only [if_true]
    by_cases h1 : t < 0
    · rw [if_pos h1]; simp only [stripe_Cut.j0, if_true]
    · rw [if_neg h1]
      have : t > s := by
        have : ¬ (0 ≤ t ∧ t ≤ s) := fun q => h ⟨hg, q⟩
        omega
      rw [decide_eq_true this]; simp only [stripe_Cut.j0, if_true]
  · rw [decide_eq_false hg]
    simp only [Bool.false_eq_true, if_false, stripe_Cut.j0, if_true]

theorem cut_yes (s o t : Int) (hg : good s o) (h0 : 0 ≤ t) (h1 : t ≤ s) {k : Nat} (hk : 1 ≤ k) :
    stripe_Cut.f k s o t = some (e0 o t s, e1 o t s, el o t s, 0, (t + o - 1) / o, (s + o - 1) / o, none) := by
  obtain ⟨k, rfl⟩ : ∃ m, k = m + 1 := ⟨k - 1, by omega⟩
  have hs := hg.2.1
  have ho := hg.2.2
  unfold stripe_Cut.f
  rw [sound_eq, decide_eq_true hg]
  simp only [Option.bind_some, if_true]
  rw [if_neg (by omega), decide_eq_false (by omega)]
  simp only [stripe_Cut.j0, Bool.false_eq_true, if_false]
  rw [objects_eq t o ⟨h0, by omega, ho⟩, objects_eq s o hg]
  simp only [Option.bind_some]
  rw [if_neg (by unfold five at ho; omega), Int.tmod_eq_emod_of_nonneg h0, Int.tdiv_eq_ediv_of_nonneg h0]
  by_cases hm : t % o = 0
  · have hel : el o t s = 0 := by unfold el; rw [if_pos hm]
    rw [if_pos hm, hel, show e0 o t s = 0 by unfold e0; rw [if_pos hel], show e1 o t s = 0 by unfold e1; rw [if_pos hel]]
  · rw [if_neg hm]
    by_cases hlt : t < s
    · have hel : el o t s ≠ 0 := by
        unfold el mn; rw [if_neg hm]; rcases ho with rfl | rfl | rfl | rfl | rfl <;> split <;> omega
      have hb : 0 ≤ t / o ∧ t / o ≤ 4096 ∧ 0 ≤ t / o * o ∧ t / o * o ≤ 4096 := by rcases ho with rfl | rfl | rfl | rfl | rfl <;> omega
      rw [if_pos hlt, show e0 o t s = t / o by unfold e0; rw [if_neg hel], show e1 o t s = t % o by unfold e1; rw [if_neg hel], w64 (x := t / o) (by omega) (by omega),
        w64 (x := t / o * o) (by omega) (by omega), w64 (x := s - t / o * o) (by omega) (by omega)]
      have hv : mn o (s - t / o * o) - t % o = el o t s := by
        unfold el mn; rw [if_neg hm]
        rcases ho with rfl | rfl | rfl | rfl | rfl <;> (repeat' split) <;> omega
      have hr := el_range o t s ho h1
      rw [hv, w64 (x := el o t s) (by omega) (by omega)]
    · have hts : t = s := by omega
      have hel : el o t s = 0 := by
        unfold el mn; rcases ho with rfl | rfl | rfl | rfl | rfl <;> (repeat' split) <;> omega
      rw [if_neg hlt, hel, show e0 o t s = 0 by unfold e0; rw [if_pos hel], show e1 o t s = 0 by unfold e1; rw [if_pos hel]]

theorem law_loop (s o t : Int) (hf : 0 ≤ (t + o - 1) / o ∧ (t + o - 1) / o ≤ 5000) (hL : gn o t s ≤ 5000) (d : Nat) : ∀ (k j : Nat), j ≤ gn o t s → gn o t s - j = d → d < k →
    laminalaw12_StripeCuts.l0 k ((t + o - 1) / o) (gl o t s) ((gl o t s).length : Int) (j : Int) = some true := by
  induction d with
  | zero =>
    intro k j h0 hd hk
    obtain ⟨k, rfl⟩ : ∃ m, k = m + 1 := ⟨k - 1, by omega⟩
    simp only [laminalaw12_StripeCuts.l0]
    rw [gl_len, if_neg (by omega)]
  | succ d ih =>
    intro k j h0 hd hk
    obtain ⟨k, rfl⟩ : ∃ m, k = m + 1 := ⟨k - 1, by omega⟩
    have hih := ih k (j + 1) (by omega) (by omega) (by omega)
    rw [gl_len] at hih
    simp only [laminalaw12_StripeCuts.l0]
    rw [gl_len, if_pos (by omega), if_pos (by omega), if_pos (by omega), gl_at o t s j (by omega), w64 (x := (t + o - 1) / o + (j : Int)) (by omega) (by omega), if_pos rfl,
      w64 (x := (j : Int) + 1) (by omega) (by omega)]
    exact hih
end StripeCutsAid
open StripeCutsAid
theorem StripeCuts : laminalaw12_StripeCuts.Pure := by
  intro s o t _ _ _
  refine ⟨6000, ?_⟩
  unfold laminalaw12_StripeCuts.f
  rw [alive (by omega)]
  simp only [Option.bind_some, if_true]
  by_cases h : good s o ∧ 0 ≤ t ∧ t ≤ s
  · obtain ⟨hg, h0, h1⟩ := h
    have hs := hg.2.1
    have ho := hg.2.2
    rw [cut_yes s o t hg h0 h1 (by omega), good_eq, decide_eq_true hg]
    simp only [Option.bind_some, if_true]
    rw [if_neg (by omega), decide_eq_false (by omega)]
    simp only [laminalaw12_StripeCuts.j0, Bool.false_eq_true, if_false]
    rw [ref_cut s o t hg h0 h1 (by omega)]
    simp only [Option.bind_some, Option.isNone_none, if_true, beq_self_eq_true, Bool.not_true, Bool.or_self, Bool.false_eq_true, if_false]
    have hb : 0 ≤ (t + o - 1) / o ∧ (t + o - 1) / o ≤ (s + o - 1) / o ∧ (s + o - 1) / o ≤ 5000 := by rcases ho with rfl | rfl | rfl | rfl | rfl <;> omega
    have hgn : (s + o - 1) / o - (t + o - 1) / o = (gn o t s : Int) := by unfold gn; omega
    rw [w64 (x := (s + o - 1) / o - (t + o - 1) / o) (by omega) (by omega), hgn, gl_len]
    simp only [bne_self_eq_false, laminalaw12_StripeCuts.j1, Bool.false_eq_true, if_false]
    have hL := gn_le o t s ho h0 hs
    have := law_loop s o t ⟨hb.1, by omega⟩ hL (gn o t s) 5998 0 (by omega) (by omega) (by omega)
    exact this
  · rw [cut_no s o t h (by omega), good_eq]
    simp only [Option.bind_some]
    by_cases hg : good s o
    · rw [decide_eq_true hg]
      simp only [if_true]
      by_cases h0 : t < 0
      · rw [if_pos h0]
        simp [laminalaw12_StripeCuts.j0, is_range]
      · have : t > s := by
          have : ¬ (0 ≤ t ∧ t ≤ s) := fun q => h ⟨hg, q⟩
          omega
        rw [if_neg h0, decide_eq_true this]
        simp [laminalaw12_StripeCuts.j0, is_range]
    · rw [decide_eq_false hg]
      simp [laminalaw12_StripeCuts.j0, is_range]

end Go.Proofs.Ytenmeahhobnmoaa.Pure
