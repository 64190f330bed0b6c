/- W5: the program's reader. -/
import Derived.Test.YtdmakachnphddaaW4
open Nat (reduceEqDiff reduceAdd reduceSub reduceMul reduceLT reduceLeDiff)
open Int (reduceToNat)
open Go Go.Vi Go.Bm
namespace Go.Proofs.Ytdmakachnphddaa.C
set_option linter.unusedSimpArgs false
set_option maxRecDepth 100000
set_option maxHeartbeats 40000000
def Off (o p : Nat) (v : Value) : Prop := ∀ b, blkOf v = some b → b < p ∧ o ≤ b
def Rdr (o : Nat) (h : Heap) (p : Nat) : Rd → Prop
  | none => p < h.next ∧ h.get p = some (.cells [.slice none 0 0, .bool true] true none)
  | some l => p < h.next ∧ l.length ≤ 100000000 ∧ ∃ v, h.get p = some (.cells [v, .bool false] true none) ∧ BRow h v l ∧ Off o p v ∧ v ≠ voidS ∧ Cut1 h v
theorem Rdr.lt {h : Heap} {o p : Nat} {r : Rd} (x : Rdr o h p r) : p < h.next := by
  cases r with
  | none => exact x.1
  | some l => exact x.1
theorem Rdr.keep {o : Nat} {h h' : Heap} {p : Nat} {r : Rd} (x : Rdr o h p r) (hn : h.next ≤ h'.next) (g : ∀ c, o ≤ c → c ≤ p → c < h.next → h'.get c = h.get c) (ho : o ≤ p) : Rdr o h' p r := by
  cases r with
  | none => exact ⟨Nat.lt_of_lt_of_le x.1 hn, (g p ho (Nat.le_refl _) x.1).trans x.2⟩
  | some l =>
    obtain ⟨hp, hl, v, hg, hv, ho2, hne, hcut⟩ := x
    refine ⟨Nat.lt_of_lt_of_le hp hn, hl, v, (g p ho (Nat.le_refl _) hp).trans hg, RowV.keep hv hn fun b hb hlt => g b (ho2 b hb).2 (Nat.le_of_lt (ho2 b hb).1) hlt, ho2, hne, fun b hb => ?_⟩
    obtain ⟨cs, w, q, e, hq⟩ := hcut b hb
    exact ⟨cs, w, q, (g b (ho2 b hb).2 (Nat.le_of_lt (ho2 b hb).1) (Nat.lt_trans (ho2 b hb).1 hp)).trans e, hq⟩
theorem Rdr.grow {o : Nat} {h h' : Heap} {p : Nat} {r : Rd} (x : Rdr o h p r) (g : Grow h h') (ho : o ≤ p) : Rdr o h' p r := x.keep g.next (fun c _ _ hc => g.get c hc) ho
theorem fail_ok (o p : Nat) (v : Value) (h : Heap) (hp : p < h.next) (b : Bool) (hg : h.get p = some (.cells [v, .bool b] true none)) : Ret E FF_ [.pointer (some ⟨p, 0, none⟩)] h (fun _ h' => Rdr o h' p none ∧ But p p h h') := by
  refine ret_fun Ie_ (by simp) ?_
  unfold Gc_
  simp (maxSteps := 10000000) (disch := omega) only [vqA, tagOf, reduceIte, reduceCtorEq, reduceEqDiff, reduceAdd, reduceSub, reduceMul, reduceLT, reduceLeDiff, reduceToNat, Nat.reduceBEq, tqA, hg]
  exact ⟨⟨hp, by simp (maxSteps := 10000000) (disch := omega) only [vqA, tagOf, reduceIte, reduceCtorEq, reduceEqDiff, reduceAdd, reduceSub, reduceMul, reduceLT, reduceLeDiff, reduceToNat, Nat.reduceBEq, tqA]⟩, ((But.refl p p h).setx _).setx _⟩
theorem nil_a (h : Heap) : sliceS E Tc_ (.slice none 0 0) none (some (.int .i64 0)) (some (.int .i64 0)) h = some (.slice none 0 0) := by kernel_rfl
theorem nil_b (h : Heap) : sliceS E Tc_ (.slice none 0 0) (some (.int .i64 0)) none none h = some (.slice none 0 0) := by kernel_rfl
theorem bounds_hm {len cap m : Nat} (h : m ≤ cap) : boundsV len cap none (some (.int .i64 (m : Int))) (some (.int .i64 (m : Int))) = some (0, m, m) := by
  unfold boundsV mxB hiB loB boundV
  simp only [intOf, Option.bind_some, Option.bind_eq_bind]
  rw [if_pos ⟨by omega, by omega⟩]
  simp only [Option.bind_some]
  rw [if_pos ⟨by omega, by omega⟩]
  simp
theorem cut_ok {b o l hi m : Nat} {cs : List Value} {w : Bool} {q : Option (Nat × Nat)} (h : q = none ∨ q.map (·.1) = some 1) : cutK 1 b o (some (.cells cs w q)) (some (l, hi, m)) = some (.slice (some ⟨b, if m = l then o else o + l, none⟩) (hi - l) (m - l)) := by
  unfold cutK
  simp only [if_pos h, Nat.mul_one]
theorem part_row {row : List Value} {l : List UInt8} {o i k : Nat} (h : (row.drop o).take l.length = l.map byteV) (hk : i + k ≤ l.length) : (row.drop (o + i)).take k = ((l.drop i).take k).map byteV := by
  rw [List.map_take, List.map_drop, ← h, List.drop_take, List.take_take, List.drop_drop, Nat.min_eq_left (by omega)]
theorem take_ok (o p : Nat) (r : Rd) (n : Int) (h : Heap) (x : Rdr o h p r) : Ret E Fm_ [.pointer (some ⟨p, 0, none⟩), .int .i64 n] h (fun u h' => Rdr o h' p (tkR r n).2 ∧ But p p h h' ∧ ∃ w, u = .tuple ⟨[w, .bool (tkR r n).2.isSome]⟩ ∧ BRow h' w (tkR r n).1 ∧ Off o p w) := by
  refine ret_fun I5_ (by simp) ?_
  unfold Gn_
  have hnil : ∀ k : Heap, BRow k (.slice none 0 0) [] := fun k => RowV.nil _ _
  have hoff : Off o p (.slice none 0 0) := fun b hb => by cases hb
  cases r with
  | none =>
    obtain ⟨hp, hg⟩ := x
    simp (maxSteps := 10000000) (disch := omega) only [vqA, tagOf, reduceIte, reduceCtorEq, reduceEqDiff, reduceAdd, reduceSub, reduceMul, reduceLT, reduceLeDiff, reduceToNat, Nat.reduceBEq, tqA, hg]
    exact ⟨⟨hp, hg⟩, But.refl p p h, _, rfl, hnil h, hoff⟩
  | some l =>
    obtain ⟨hp, hl, v, hg, hv, ho, hne, hcut⟩ := x
    unfold tkR
    have hone := hv.one
    by_cases hc : n < 0 ∨ (l.length : Int) < n
    · simp only [if_pos hc]
      obtain ⟨a, c, rfl⟩ := hv.is
      by_cases h0 : n < 0
      · simp (maxSteps := 10000000) (disch := omega) only [vqA, tagOf, reduceIte, reduceCtorEq, reduceEqDiff, reduceAdd, reduceSub, reduceMul, reduceLT, reduceLeDiff, reduceToNat, Nat.reduceBEq, tqA, hg]
        refine (fail_ok o p _ h hp false hg).mono ?_
        rintro u h1 ⟨q1, q2⟩
        simp (maxSteps := 10000000) (disch := omega) only [vqA, tagOf, reduceIte, reduceCtorEq, reduceEqDiff, reduceAdd, reduceSub, reduceMul, reduceLT, reduceLeDiff, reduceToNat, Nat.reduceBEq, tqA]
        exact ⟨q1, q2, _, rfl, hnil h1, hoff⟩
      · have hc2 : (l.length : Int) < n := by rcases hc with q | q; exact absurd q h0; exact q
        simp (maxSteps := 10000000) (disch := omega) only [vqA, tagOf, reduceIte, reduceCtorEq, reduceEqDiff, reduceAdd, reduceSub, reduceMul, reduceLT, reduceLeDiff, reduceToNat, Nat.reduceBEq, tqA, hg]
        refine (fail_ok o p _ h hp false hg).mono ?_
        rintro u h1 ⟨q1, q2⟩
        simp (maxSteps := 10000000) (disch := omega) only [vqA, tagOf, reduceIte, reduceCtorEq, reduceEqDiff, reduceAdd, reduceSub, reduceMul, reduceLT, reduceLeDiff, reduceToNat, Nat.reduceBEq, tqA]
        exact ⟨q1, q2, _, rfl, hnil h1, hoff⟩
    · simp only [if_neg hc]
      obtain ⟨m, rfl⟩ : ∃ m : Nat, n = (m : Int) := ⟨n.toNat, by omega⟩
      have hm : m ≤ l.length := by omega
      rcases hv with ⟨rfl | rfl, hm0⟩ | ⟨b2, o2, k, c2, row, w, q, hb2, rfl, hc2, hl2, hg2, h1, h2⟩
      · have hl0 : l = [] := List.map_eq_nil_iff.1 hm0
        subst hl0
        have hm00 : m = 0 := by simpa using hm
        subst hm00
        rw [show ((0 : Nat) : Int) = 0 from rfl]
        simp (maxSteps := 10000000) (disch := omega) only [vqA, tagOf, reduceIte, reduceCtorEq, reduceEqDiff, reduceAdd, reduceSub, reduceMul, reduceLT, reduceLeDiff, reduceToNat, Nat.reduceBEq, tqA, hg, nil_a, nil_b]
        exact ⟨⟨hp, Nat.zero_le _, _, by simp (maxSteps := 10000000) (disch := omega) only [vqA, tagOf, reduceIte, reduceCtorEq, reduceEqDiff, reduceAdd, reduceSub, reduceMul, reduceLT, reduceLeDiff, reduceToNat, Nat.reduceBEq, tqA], hnil _, hoff, hne, fun b hb => by cases hb⟩, (But.refl p p h).setx _, _, rfl, hnil _, hoff⟩
      · exact absurd rfl hne
      · rw [List.length_map, Nat.mul_one] at hl2
        subst hl2
        have hbm := bounds_hm (len := l.length) (cap := c2) (m := m) (by omega)
        obtain ⟨cs, w', q', e, hq⟩ := hcut b2 rfl
        rw [hg2] at e
        cases e
        simp (maxSteps := 10000000) (disch := omega) only [vqA, tagOf, reduceIte, reduceCtorEq, reduceEqDiff, reduceAdd, reduceSub, reduceMul, reduceLT, reduceLeDiff, reduceToNat, Nat.reduceBEq, tqA, hg, hbm, hg2, cut_ok hq]
        obtain ⟨hbp', hob⟩ : b2 < p ∧ o ≤ b2 := ho b2 rfl
        have hbp : b2 ≠ p := by omega
        rw [List.length_map] at h1 h2
        have hgs : ∀ x, (h.set p x).get b2 = some (.cells row w q) := fun x => by rw [get_set_ne hbp]; exact hg2
        have hoff2 : ∀ x n c, Off o p (.slice (some ⟨b2, x, none⟩) n c) := fun x n c b hb => by obtain rfl : b2 = b := Option.some.inj hb; exact ⟨hbp', hob⟩
        refine ⟨⟨hp, by rw [List.length_drop]; omega, _, by simp (maxSteps := 10000000) (disch := omega) only [vqA, tagOf, reduceIte, reduceCtorEq, reduceEqDiff, reduceAdd, reduceSub, reduceMul, reduceLT, reduceLeDiff, reduceToNat, Nat.reduceBEq, tqA], .inr ⟨b2, if c2 = m then o2 else o2 + m, l.length - m, c2 - m, row, w, q, hb2, rfl, by omega, by simp, hgs _, ?_, ?_⟩, hoff2 _ _ _, (fun e => by injection e with e; injection e with e; injection e with e1 e2 e3; cases e3), fun b hb => by obtain rfl : b2 = b := Option.some.inj hb; exact ⟨_, _, _, hgs _, hq⟩⟩, (But.refl p p h).setx _, _, rfl, .inr ⟨b2, if m = 0 then o2 else o2, m - 0, m - 0, row, w, q, hb2, rfl, Nat.le_refl _, by simp; omega, hgs _, ?_, ?_⟩, hoff2 _ _ _⟩
        · rw [List.length_map, List.length_drop]
          split <;> omega
        · rw [List.length_map, List.length_drop]
          by_cases e : c2 = m
          · have hlm : l.length - m = 0 := by omega
            rw [hlm, List.take_zero, List.drop_of_length_le (by omega)]
            rfl
          · rw [if_neg e, part_row h2 (by omega), List.take_of_length_le (by rw [List.length_drop]; omega)]
        · rw [List.length_map, List.length_take]
          split <;> omega
        · rw [List.length_map, List.length_take, Nat.min_eq_left hm, ite_self]
          have := part_row (i := 0) (k := m) h2 (by omega)
          rw [Nat.add_zero, List.drop_zero] at this
          exact this
end Go.Proofs.Ytdmakachnphddaa.C
