/- Pl: the plain law: two good diffs put together are a good diff, that makes of bytes what they make, one behind the other. -/
import Derived.Test.YthkpbhdljbdliaaSh
open Go Go.Vi
namespace Go.Bm
theorem runEnd_some (S : Nat → Option UInt8) : ∀ k i j, i ≤ j → j < runEnd S k i → (S j).isSome = true
  | 0, i, j, h1, h2 => by rw [runEnd] at h2; omega
  | k + 1, i, j, h1, h2 => by
    rw [runEnd] at h2
    split at h2
    · rename_i hs
      by_cases e : j = i
      · rw [e]; exact hs
      · exact runEnd_some S k (i + 1) j (by omega) h2
    · omega
theorem runEnd_stop (S : Nat → Option UInt8) : ∀ k i, runEnd S k i < i + k → S (runEnd S k i) = none
  | 0, i, h => by rw [runEnd] at h; omega
  | k + 1, i, h => by
    rw [runEnd] at h ⊢
    split
    · rename_i hs
      rw [if_pos hs] at h
      exact runEnd_stop S k (i + 1) (by omega)
    · rename_i hs
      cases hq : S i with
      | none => rfl
      | some c => rw [hq] at hs; exact absurd rfl hs
theorem mkRec_at (i : Nat) (l : List UInt8) : (mkRec i l).at_ = i ∧ (mkRec i l).len = l.length := by unfold mkRec; split <;> exact ⟨rfl, rfl⟩
theorem mkRec_data (i : Nat) (l : List UInt8) : ((mkRec i l).data.length : Int) = if (mkRec i l).zero then 0 else (mkRec i l).len := by unfold mkRec; split <;> rfl
theorem mkRec_tells (i : Nat) (l : List UInt8) (j : Nat) : recAt (mkRec i l) j = if i ≤ j ∧ j < i + l.length then l[j - i]? else none := by
  obtain ⟨h1, h2⟩ := mkRec_at i l
  unfold recAt
  rw [h1, h2, Int.toNat_natCast]
  by_cases c : i ≤ j ∧ j < i + l.length
  · rw [if_pos (by omega), if_pos c]
    have hg : l[j - i]? = some l[j - i] := List.getElem?_eq_getElem (by omega)
    unfold mkRec
    by_cases ha : anyB l = true
    · rw [if_pos ha, hg]
      simp [List.getD_eq_getElem?_getD, hg]
    · rw [if_neg ha, hg]
      simp only [if_true]
      congr 1
      unfold anyB at ha
      have : ¬ (l[j - i] != 0) = true := fun q => ha (List.any_eq_true.2 ⟨_, List.getElem_mem _, q⟩)
      have h0 : l[j - i] = 0 := by simpa using this
      exact h0.symm
  · rw [if_neg (by omega), if_neg c]
theorem segB_get (S : Nat → Option UInt8) {i k j : Nat} (h1 : i ≤ j) (h2 : j < i + k) (hs : (S j).isSome = true) : (segB S i k)[j - i]? = S j := by
  unfold segB
  rw [List.getElem?_map, List.getElem?_range (by omega), Option.map_some, show i + (j - i) = j from by omega]
  obtain ⟨c, hc⟩ := Option.isSome_iff_exists.1 hs
  rw [hc]
  rfl
theorem runs_ok (S : Nat → Option UInt8) (n : Nat) : ∀ k i, n ≤ i + k → (∀ x : Int, x ≤ i → goodL n x (runsP S n k i) = true) ∧ ∀ j, tellsL (runsP S n k i) j = if i ≤ j ∧ j < n then S j else none
  | 0, i, h => by
    rw [runsP]
    exact ⟨fun _ _ => rfl, fun j => by rw [if_neg (by omega)]; rfl⟩
  | k + 1, i, h => by
    rw [runsP]
    by_cases hi : i < n
    · rw [if_pos hi]
      have hle := runEnd_le S (n - i) i
      have hso := runEnd_some S (n - i) i
      have hst := runEnd_stop S (n - i) i
      generalize runEnd S (n - i) i = g at hle hso hst
      by_cases hg : i < g
      · rw [if_pos hg]
        obtain ⟨ih1, ih2⟩ := runs_ok S n k (g + 1) (by omega)
        obtain ⟨m1, m2⟩ := mkRec_at i (segB S i (g - i))
        have hd := mkRec_data i (segB S i (g - i))
        have ht := mkRec_tells i (segB S i (g - i))
        rw [segB_len] at m2 ht
        refine ⟨fun x hx => ?_, fun j => ?_⟩
        · rw [goodL, Bool.and_eq_true]
          refine ⟨decide_eq_true ⟨by omega, by omega, by omega, by omega, hd⟩, ?_⟩
          rw [m1, m2]
          exact ih1 _ (by omega)
        · rw [tellsL, ht, ih2]
          by_cases c1 : i ≤ j ∧ j < g
          · rw [if_pos (show i ≤ j ∧ j < i + (g - i) by omega), if_pos (show i ≤ j ∧ j < n by omega), segB_get S c1.1 (by omega) (hso j c1.1 c1.2)]
            obtain ⟨c, hc⟩ := Option.isSome_iff_exists.1 (hso j c1.1 c1.2)
            rw [hc]
          · rw [if_neg (show ¬ (i ≤ j ∧ j < i + (g - i)) by omega)]
            by_cases c2 : j = g
            · rw [if_neg (show ¬ (g + 1 ≤ j ∧ j < n) by omega)]
              by_cases c3 : g < n
              · rw [if_pos (show i ≤ j ∧ j < n by omega), c2, hst (by omega)]
              · rw [if_neg (show ¬ (i ≤ j ∧ j < n) by omega)]
            · by_cases c3 : g + 1 ≤ j ∧ j < n
              · rw [if_pos c3, if_pos (show i ≤ j ∧ j < n by omega)]
              · rw [if_neg c3, if_neg (show ¬ (i ≤ j ∧ j < n) by omega)]
      · rw [if_neg hg]
        obtain ⟨ih1, ih2⟩ := runs_ok S n k (i + 1) (by omega)
        have hgi : g = i := by omega
        rw [hgi] at hst
        refine ⟨fun x hx => ih1 x (by omega), fun j => ?_⟩
        rw [ih2]
        by_cases c2 : j = i
        · rw [if_neg (show ¬ (i + 1 ≤ j ∧ j < n) by omega), if_pos (show i ≤ j ∧ j < n by omega), c2, hst (by omega)]
        · by_cases c3 : i + 1 ≤ j ∧ j < n
          · rw [if_pos c3, if_pos (show i ≤ j ∧ j < n by omega)]
          · rw [if_neg c3, if_neg (show ¬ (i ≤ j ∧ j < n) by omega)]
    · rw [if_neg hi]
      exact ⟨fun _ _ => rfl, fun j => by rw [if_neg (by omega)]; rfl⟩
theorem sized_of {n : Int} (h : sizedB n = true) : 0 ≤ n ∧ n ≤ 4096 := of_decide_eq_true h
theorem good_of {d : Dif} (h : goodD d = true) : (0 ≤ d.fr ∧ d.fr ≤ 4096) ∧ (0 ≤ d.to ∧ d.to ≤ 4096) ∧ goodL d.to 0 d.recs = true := by
  unfold goodD at h
  simp only [Bool.and_eq_true] at h
  exact ⟨sized_of h.1, sized_of h.2.1, h.2.2⟩
theorem good_merge {a b : Dif} (ha : goodD a = true) (hb : goodD b = true) : goodD (mergeD a b) = true := by
  obtain ⟨a1, _, _⟩ := good_of ha
  obtain ⟨_, b2, _⟩ := good_of hb
  unfold goodD sizedB mergeD
  simp only [Bool.and_eq_true, decide_eq_true_eq]
  refine ⟨a1, b2, ?_⟩
  have := (runs_ok (mergeS a b) b.to.toNat (b.to.toNat + 1) 0 (by omega)).1 0 (by omega)
  rwa [Int.toNat_of_nonneg b2.1] at this
theorem tells_merge {a b : Dif} {j : Nat} (hj : (j : Int) < b.to) : tellsL (mergeD a b).recs j = mergeS a b j := by
  have := (runs_ok (mergeS a b) b.to.toNat (b.to.toNat + 1) 0 (by omega)).2 j
  rw [if_pos (by omega)] at this
  exact this
theorem mergeS_is {a b : Dif} (ha : goodD a = true) (hb : goodD b = true) (j : Nat) : mergeS a b j = match tellsL b.recs j with
    | some c => some c
    | none => match tellsL a.recs j with
      | some c => some c
      | none => if a.to ≤ (j : Int) ∧ (j : Int) < a.fr then some 0 else none := by
  unfold mergeS
  rw [tells_fold (good_of hb).2.2, tells_fold (good_of ha).2.2]
  cases tellsL b.recs j with
  | some c => rfl
  | none => cases tellsL a.recs j <;> rfl
theorem apply_fold {to : Int} : ∀ {x : Int} {rs : List Rec}, goodL to x rs = true → ∀ (F : Nat → UInt8) (j : Nat), rs.foldl applyF F j = (tellsL rs j).getD (F j)
  | _, [], _, _, _ => rfl
  | x, r :: rs, h, F, j => by
    rw [goodL, Bool.and_eq_true] at h
    rw [List.foldl_cons, apply_fold h.2, tellsL]
    show (tellsL rs j).getD (applyF F r j) = _
    unfold applyF
    cases hr : recAt r j with
    | none => rfl
    | some c =>
      have hj : (j : Int) < r.at_ + r.len := by
        unfold recAt at hr
        split at hr
        · rename_i q; exact q.2
        · cases hr
      rw [tells_ahead h.2 j hj]
      rfl
theorem tells_beyond {to : Int} : ∀ {x : Int} {rs : List Rec}, goodL to x rs = true → ∀ j : Nat, to ≤ (j : Int) → tellsL rs j = none
  | _, [], _, _, _ => rfl
  | x, r :: rs, h, j, hj => by
    rw [goodL, Bool.and_eq_true] at h
    obtain ⟨g1, g2, g3, g4, _⟩ := goodR_of h.1
    rw [tellsL, recAt, if_neg (by omega)]
    exact tells_beyond h.2 j hj
theorem applyL_len (d : Dif) (l : List UInt8) : (applyL d l).length = d.to.toNat := by unfold applyL; simp
theorem applyL_get {d : Dif} (h : goodD d = true) (l : List UInt8) (j : Nat) : (applyL d l).getD j 0 = if (j : Int) < d.to then (tellsL d.recs j).getD (l.getD j 0) else 0 := by
  obtain ⟨_, d2, d3⟩ := good_of h
  by_cases hj : (j : Int) < d.to
  · rw [if_pos hj]
    unfold applyL
    rw [List.getD_eq_getElem?_getD, List.getElem?_map, List.getElem?_range (by omega)]
    show d.recs.foldl applyF (sizedF l) j = _
    rw [apply_fold d3]
    rfl
  · rw [if_neg hj, List.getD_eq_getElem?_getD, List.getElem?_eq_none (by rw [applyL_len]; omega)]
    rfl
theorem apply_merge {a b : Dif} (ha : goodD a = true) (hb : goodD b = true) {l : List UInt8} (hl : (l.length : Int) = a.fr) : applyL (mergeD a b) l = applyL b (applyL a l) := by
  obtain ⟨a1, a2, a3⟩ := good_of ha
  obtain ⟨b1, b2, b3⟩ := good_of hb
  have e : ∀ (x y : List UInt8), x.length = y.length → (∀ j, j < x.length → x.getD j 0 = y.getD j 0) → x = y := fun x y h1 h2 => by
    refine List.ext_getElem? fun j => ?_
    by_cases hj : j < x.length
    · have := h2 j hj
      rw [List.getD_eq_getElem?_getD, List.getD_eq_getElem?_getD, List.getElem?_eq_getElem hj, List.getElem?_eq_getElem (by omega)] at this
      rw [List.getElem?_eq_getElem hj, List.getElem?_eq_getElem (by omega)]
      exact congrArg some this
    · rw [List.getElem?_eq_none (by omega), List.getElem?_eq_none (by omega)]
  refine e _ _ (by rw [applyL_len, applyL_len]; rfl) fun j hj => ?_
  rw [applyL_len] at hj
  have hj' : (j : Int) < b.to := by
    have : (mergeD a b).to = b.to := rfl
    rw [this] at hj
    omega
  rw [applyL_get (good_merge ha hb), applyL_get hb, applyL_get ha, if_pos (show (j : Int) < (mergeD a b).to from hj'), if_pos hj', tells_merge hj', mergeS_is ha hb]
  cases hq : tellsL b.recs j with
  | some c => rfl
  | none =>
    simp only
    cases hq2 : tellsL a.recs j with
    | some c =>
      have : (j : Int) < a.to := by
        refine Int.lt_of_not_ge fun hx => ?_
        rw [tells_beyond a3 j hx] at hq2
        cases hq2
      rw [if_pos this]
      rfl
    | none =>
      simp only
      by_cases c1 : (j : Int) < a.to
      · rw [if_neg (by omega), if_pos c1]; rfl
      · rw [if_neg c1]
        by_cases c2 : (j : Int) < a.fr
        · rw [if_pos (by omega)]; rfl
        · rw [if_neg (by omega)]
          show l.getD j 0 = 0
          rw [List.getD_eq_getElem?_getD, List.getElem?_eq_none (by omega)]
          rfl
def runsA (f : Nat → Option UInt8) : Nat → Nat → List UInt8 → List Rec
  | 0, _, _ => []
  | k + 1, i, row => match f i with
    | some c => runsA f k (i + 1) (row ++ [c])
    | none => (if row = [] then [] else [mkRec (i - row.length) row]) ++ runsA f k (i + 1) []
theorem runsA_skip (f : Nat → Option UInt8) : ∀ (m k i : Nat) (row : List UInt8), (∀ j, i ≤ j → j < i + m → (f j).isSome = true) → runsA f (m + k) i row = runsA f k (i + m) (row ++ segB f i m)
  | 0, k, i, row, _ => by rw [Nat.zero_add, Nat.add_zero]; unfold segB; simp
  | m + 1, k, i, row, h => by
    have h0 := h i (Nat.le_refl _) (by omega)
    obtain ⟨c, hc⟩ := Option.isSome_iff_exists.1 h0
    rw [show m + 1 + k = (m + k) + 1 from by omega, runsA, hc]
    simp only
    rw [runsA_skip f m k (i + 1) _ fun j h1 h2 => h j (by omega) (by omega), show i + 1 + m = i + (m + 1) from by omega]
    congr 1
    rw [List.append_assoc]
    congr 1
    unfold segB
    rw [List.range_succ_eq_map, List.map_cons, List.map_map, show (f (i + 0)).getD 0 = c by rw [Nat.add_zero, hc]; rfl]
    show c :: _ = c :: _
    congr 1
    refine List.map_congr_left fun j _ => ?_
    show (f (i + 1 + j)).getD 0 = (f (i + (j + 1))).getD 0
    rw [show i + 1 + j = i + (j + 1) from by omega]
def cutS (n : Nat) (S : Nat → Option UInt8) : Nat → Option UInt8 := fun j => if j < n then S j else none
theorem cutS_lt {n : Nat} {S : Nat → Option UInt8} {j : Nat} (h : j < n) : cutS n S j = S j := if_pos h
theorem cutS_ge {n : Nat} {S : Nat → Option UInt8} {j : Nat} (h : n ≤ j) : cutS n S j = none := if_neg (by omega)
theorem runs_same (S : Nat → Option UInt8) (n : Nat) : ∀ k i, n + 1 ≤ i + k → i ≤ n + 1 → runsP S n k i = runsA (cutS n S) (n + 1 - i) i []
  | 0, i, h, h2 => by rw [runsP, show n + 1 - i = 0 from by omega, runsA]
  | k + 1, i, h, h2 => by
    rw [runsP]
    by_cases hi : i < n
    · rw [if_pos hi]
      have hle := runEnd_le S (n - i) i
      have hso := runEnd_some S (n - i) i
      have hst := runEnd_stop S (n - i) i
      generalize runEnd S (n - i) i = g at hle hso hst
      have hseg : ∀ m, i + m ≤ n → segB (cutS n S) i m = segB S i m := fun m hm => by
        unfold segB
        refine List.map_congr_left fun j hj => ?_
        have := List.mem_range.1 hj
        rw [cutS_lt (by omega)]
      have hfg : (cutS n S) g = none := by
        by_cases c : g < n
        · rw [cutS_lt c, hst (by omega)]
        · rw [cutS_ge (by omega)]
      by_cases hg : i < g
      · rw [if_pos hg, show n + 1 - i = (g - i) + ((n + 1 - (g + 1)) + 1) from by omega, runsA_skip _ _ _ _ _ fun j h1 h3 => by
          rw [cutS_lt (by omega)]
          exact hso j h1 (by omega)]
        rw [show i + (g - i) = g from by omega, runsA, hfg, List.nil_append, hseg _ (by omega)]
        simp only
        rw [if_neg fun e => by have := congrArg List.length e; rw [segB_len] at this; simp at this; omega, segB_len, show g - (g - i) = i from by omega, runs_same S n k (g + 1) (by omega) (by omega)]
        rfl
      · rw [if_neg hg]
        have hgi : g = i := by omega
        rw [hgi] at hfg
        rw [show n + 1 - i = (n + 1 - (i + 1)) + 1 from by omega, runsA, hfg]
        simp only [if_true, List.nil_append]
        exact runs_same S n k (i + 1) (by omega) (by omega)
    · rw [if_neg hi]
      rcases Nat.lt_or_ge n i with h3 | h3
      · rw [show n + 1 - i = 0 from by omega, runsA]
      · obtain rfl : i = n := by omega
        rw [show i + 1 - i = 0 + 1 from by omega, runsA, cutS_ge (Nat.le_refl _)]
        simp [runsA]
end Go.Bm
