/- D9: a row of bytes in pieces. -/
import Derived.Test.YtjhaokhgiagkaaaGreatDoorD8
import Derived.Test.YtjhaokhgiagkaaaGreatDoorVgJ
open Go Go.Vi Go.Bm
namespace Go.Proofs.YtjhaokhgiagkaaaGreatDoor.C
set_option linter.unusedSimpArgs false
set_option maxRecDepth 100000
set_option maxHeartbeats 40000000
theorem cut_ok {b o l hi m : Nat} {cs : List Value} {w : Bool} {q : Option (Nat × Nat)} (h : q = none ∨ q.map (·.1) = some 1) : cutK 1 b o (some (.cells cs w q)) (some (l, hi, m)) = some (.slice (some ⟨b, if m = l then o else o + l, none⟩) (hi - l) (m - l)) := by
  unfold cutK
  simp only [if_pos h, Nat.mul_one]
theorem part_row {row : List Value} {l : List UInt8} {o i k : Nat} (h : (row.drop o).take l.length = l.map byteV) (hk : i + k ≤ l.length) : (row.drop (o + i)).take k = ((l.drop i).take k).map byteV := by
  rw [List.map_take, List.map_drop, ← h, List.drop_take, List.take_take, List.drop_drop, Nat.min_eq_left (by omega)]
def piece (d : List UInt8) (k : Nat) : List UInt8 := (d.drop (106 * k)).take 106
theorem chunk1_ok (a b l : Nat) (d : Value) (data : List UInt8) (Y : Nat → Heap → Prop) (hl : data.length ≤ 100000000)
    (hY : ∀ k h, Y k h → h.get a = some (.cells [d] true none) ∧ h.get b = some (.cells [.int .i64 106] true none) ∧ BRow h d data ∧ Cut1 h d)
    (hy : ∀ k h x, Y k h → 106 * k < data.length → BRow h x (piece data k) → YRet E l [x] h fun v h' => v = .bool true ∧ Y (k + 1) h') (h : Heap) (h0 : Y 0 h) :
    Ret E f_slices_Chunk_s_byte_byte_1 [.func (.yield l) #[] #[], .pointer (some ⟨a, 0, none⟩), .pointer (some ⟨b, 0, none⟩)] h fun _ h' => Y ((data.length + 105) / 106) h' := by
  refine ret_fun is_slices_Chunk_s_byte_byte_1 (by simp) ?_
  unfold g_slices_Chunk_s_byte_byte_1
  simp (maxSteps := 10000000) (disch := omega) only [vq0, vq1, vq2, vq3, vq4, vq5, tagOf, reduceIte, reduceCtorEq, Nat.reduceEqDiff, Nat.reduceAdd, Nat.reduceSub, Nat.reduceMul, Nat.reduceLT, Nat.reduceLeDiff, Int.reduceToNat, Nat.reduceBEq, tq1, tq2, tq3, tq4, tq5]
  refine r_loop (k := data.length) (fun k ρ h' => ∃ i : Nat, Y i h' ∧ 106 * i < data.length + 106 ∧ data.length - 106 * i = k ∧ ρ 0 = .func (.yield l) #[] #[] ∧ ρ 1 = .pointer (some ⟨a, 0, none⟩) ∧ ρ 2 = .pointer (some ⟨b, 0, none⟩) ∧ ρ 4 = .int .i64 ((106 * i : Nat) : Int)) ?_ ?_
  · rintro k ρ h' ⟨i, y, hi, hk, r0, r1, r2, r4⟩
    unfold g_slices_Chunk_s_byte_byte_1_L0
    obtain ⟨ga, gb, hd, hc⟩ := hY _ _ y
    rcases Nat.lt_or_ge (106 * i) data.length with hlt | hge
    · rcases hd with ⟨_, e⟩ | ⟨b2, o2, n, c, row, w, p, hb2, e, hnc, hn, hg2, h1, h2⟩
      · rw [List.map_eq_nil_iff.1 e] at hlt
        cases hlt
      · subst e
        rw [List.length_map] at hn h1 h2
        rw [Nat.mul_one] at hn
        subst hn
        obtain ⟨_, _, q, hgq, hq⟩ := hc b2 rfl
        rw [hg2] at hgq
        cases hgq
        have hlo : ∀ k : IntKind, boundsV data.length c (some (.int k ((106 * i : Nat) : Int))) none none = some (106 * i, data.length, c) := fun k => by
          rw [boundsV_l (by omega) (by omega)]
          rw [Int.toNat_natCast]
        have hcl : 106 * i ≤ c := by omega
        have hcne : ¬ c = 106 * i := by omega
        have hkk := h2
        obtain ⟨m, em⟩ : ∃ m : Nat, min 106 (data.length - 106 * i) = m := ⟨_, rfl⟩
        have hmn : mnV (.int .i64 106) [.int .i64 ((data.length - 106 * i : Nat) : Int)] = some (.int .i64 (m : Int)) := by
          rcases Nat.le_total 106 (data.length - 106 * i) with h | h
          · rw [mn_l (by omega)]; congr 2; omega
          · rcases Nat.lt_or_ge (data.length - 106 * i) 106 with h' | h'
            · rw [mn_r (by omega)]; congr 2; omega
            · rw [mn_l (by omega)]; congr 2; omega
        have hm0 : 0 < m := by omega
        have hm1 : 106 * i + m ≤ data.length := by omega
        have hlhm : ∀ q q' q2 : IntKind, boundsV data.length c (some (.int q ((106 * i : Nat) : Int))) (some (.int q' (((106 * i : Nat) : Int) + (m : Int)))) (some (.int q2 (((106 * i : Nat) : Int) + (m : Int)))) = some (106 * i, 106 * i + m, 106 * i + m) := fun q q' q2 => by
          rw [boundsV_lhm (by omega) (by omega) (by omega) (by omega)]
          congr 2
        have hsub : 106 * i + m - 106 * i = m := by omega
        have hne2 : ¬ 106 * i + m = 106 * i := by omega
        simp (maxSteps := 10000000) (disch := omega) only [vq0, vq1, vq2, vq3, vq4, vq5, tagOf, reduceIte, reduceCtorEq, Nat.reduceEqDiff, Nat.reduceAdd, Nat.reduceSub, Nat.reduceMul, Nat.reduceLT, Nat.reduceLeDiff, Int.reduceToNat, Nat.reduceBEq, tq1, tq2, tq3, tq4, tq5, r0, r1, r2, r4, ga, gb, hg2, hlo, cut_ok hq, hcne, d_min, hmn, hlhm, hsub, hne2]
        have hpl : (piece data i).length = m := by unfold piece; rw [List.length_take, List.length_drop]; omega
        have hpr : (row.drop (o2 + 106 * i)).take m = (piece data i).map byteV := by
          rw [part_row h2 hm1]
          unfold piece
          congr 1
          rw [← hpl]
          unfold piece
          rw [List.length_take, List.take_eq_take_iff, List.length_drop]
          omega
        refine (hy i h' _ y hlt (.inr ⟨b2, o2 + 106 * i, m, m, row, w, p, hb2, rfl, Nat.le_refl _, by rw [List.length_map]; omega, hg2, by rw [List.length_map]; omega, by rw [List.length_map, hpl]; exact hpr⟩)).mono ?_
        rintro v h3 ⟨rfl, y3⟩
        obtain ⟨ga3, gb3, _, _⟩ := hY _ _ y3
        simp (maxSteps := 10000000) (disch := omega) only [vq0, vq1, vq2, vq3, vq4, vq5, tagOf, reduceIte, reduceCtorEq, Nat.reduceEqDiff, Nat.reduceAdd, Nat.reduceSub, Nat.reduceMul, Nat.reduceLT, Nat.reduceLeDiff, Int.reduceToNat, Nat.reduceBEq, tq1, tq2, tq3, tq4, tq5, r0, r1, r2, r4, gb3]
        exact ⟨data.length - 106 * (i + 1), by omega, i + 1, y3, by omega, rfl, by rw [show ((106 * i : Nat) : Int) + 106 = ((106 * (i + 1) : Nat) : Int) by omega]⟩
    · have hi2 : i = (data.length + 105) / 106 := by omega
      obtain ⟨a2, c2, rfl⟩ := hd.is
      simp (maxSteps := 10000000) (disch := omega) only [vq0, vq1, vq2, vq3, vq4, vq5, tagOf, reduceIte, reduceCtorEq, Nat.reduceEqDiff, Nat.reduceAdd, Nat.reduceSub, Nat.reduceMul, Nat.reduceLT, Nat.reduceLeDiff, Int.reduceToNat, Nat.reduceBEq, tq1, tq2, tq3, tq4, tq5, r0, r1, r2, r4, ga, gb]
      rw [← hi2]
      exact y
  · refine ⟨0, h0, by omega, by omega, ?_⟩
    simp (maxSteps := 10000000) (disch := omega) only [vq0, vq1, vq2, vq3, vq4, vq5, tagOf, reduceIte, reduceCtorEq, Nat.reduceEqDiff, Nat.reduceAdd, Nat.reduceSub, Nat.reduceMul, Nat.reduceLT, Nat.reduceLeDiff, Int.reduceToNat, Nat.reduceBEq, tq1, tq2, tq3, tq4, tq5]
    rfl
theorem chunk_ok (h : Heap) (d : Value) (data : List UInt8) (hd : BRow h d data) : Ret E f_slices_Chunk_s_byte_byte [d, .int .i64 106] h fun v h' => v = .func (.func f_slices_Chunk_s_byte_byte_1) #[] #[.pointer (some ⟨h.next, 0, none⟩), .pointer (some ⟨h.next + 1, 0, none⟩)] ∧
    h' = (h.new (.cells [d] true none)).new (.cells [.int .i64 106] true none) := by
  refine ret_fun is_slices_Chunk_s_byte_byte (by simp) ?_
  unfold g_slices_Chunk_s_byte_byte
  obtain ⟨a, c, rfl⟩ := hd.is
  simp (maxSteps := 10000000) (disch := omega) only [vq0, vq1, vq2, vq3, vq4, vq5, tagOf, reduceIte, reduceCtorEq, Nat.reduceEqDiff, Nat.reduceAdd, Nat.reduceSub, Nat.reduceMul, Nat.reduceLT, Nat.reduceLeDiff, Int.reduceToNat, Nat.reduceBEq, tq1, tq2, tq3, tq4, tq5, List.map_toArray, List.map_cons, List.map_nil]
end Go.Proofs.YtjhaokhgiagkaaaGreatDoor.C
