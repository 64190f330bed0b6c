/- B0: which diffs are good, as the program and as the document say it; which are large. -/
import Derived.Test.YtdmakachnphddaaHc
import Derived.Test.YtdmakachnphddaaMa
import Derived.Test.YtdmakachnphddaaVgH
open Nat (reduceEqDiff reduceAdd reduceSub reduceMul reduceLT reduceLeDiff)
open Int (reduceToNat)
open Go Go.Vi Go.Bm
namespace Go.Proofs.Ytdmakachnphddaa.C
set_option linter.unusedSimpArgs false
set_option maxRecDepth 100000
set_option maxHeartbeats 40000000
theorem sized_ret (n : Int) (h : Heap) (Q : Value → Heap → Prop) : Ret E Fp_ [.int .i64 n] h Q = Q (.bool (sizedB n)) h := by
  refine Ret.eq ?_ Q
  refine ret_fun Iab_ (by simp) ?_
  unfold Gaf_ sizedB
  by_cases h0 : 0 ≤ n
  · by_cases h1 : n ≤ 4096
    · have e : decide (0 ≤ n ∧ n ≤ 4096) = true := decide_eq_true ⟨h0, h1⟩
      simp (maxSteps := 10000000) (disch := omega) only [vqA, tagOf, reduceIte, reduceCtorEq, reduceEqDiff, reduceAdd, reduceSub, reduceMul, reduceLT, reduceLeDiff, reduceToNat, Nat.reduceBEq, tqA, e]
    · have e : decide (0 ≤ n ∧ n ≤ 4096) = false := decide_eq_false (by omega)
      simp (maxSteps := 10000000) (disch := omega) only [vqA, tagOf, reduceIte, reduceCtorEq, reduceEqDiff, reduceAdd, reduceSub, reduceMul, reduceLT, reduceLeDiff, reduceToNat, Nat.reduceBEq, tqA, e]
  · have e : decide (0 ≤ n ∧ n ≤ 4096) = false := decide_eq_false (by omega)
    simp (maxSteps := 10000000) (disch := omega) only [vqA, tagOf, reduceIte, reduceCtorEq, reduceEqDiff, reduceAdd, reduceSub, reduceMul, reduceLT, reduceLeDiff, reduceToNat, Nat.reduceBEq, tqA, e]
theorem good_ok (d : Dif) (v : Value) (h : Heap) (hd : DRow h v d.recs) (hL : d.recs.length ≤ 100000000) : Ret E FG_ [.agg ⟨difC d v⟩] h (fun u h' => Grow h h' ∧ u = .bool (goodD d)) := by
  have hgd : goodD d = (sizedB d.fr && (sizedB d.to && goodL d.to 0 d.recs)) := rfl
  generalize goodD d = G at hgd ⊢
  refine ret_fun IV_ (by simp) ?_
  unfold Gaz_ difC
  have gn : ∀ b1 : Blk, Grow h (h.new b1) := fun b1 => Grow.new h b1
  obtain ⟨a, c, hv⟩ := hd.is
  have hone := hd.one
  cases hs : sizedB d.fr with
  | false =>
    rw [hs] at hgd
    simp (maxSteps := 10000000) (disch := omega) only [vqA, tagOf, reduceIte, reduceCtorEq, reduceEqDiff, reduceAdd, reduceSub, reduceMul, reduceLT, reduceLeDiff, reduceToNat, Nat.reduceBEq, tqA, sized_ret, hs, hone]
    exact ⟨gn _, by rw [hgd]; rfl⟩
  | true =>
  cases hs2 : sizedB d.to with
  | false =>
    rw [hs, hs2] at hgd
    simp (maxSteps := 10000000) (disch := omega) only [vqA, tagOf, reduceIte, reduceCtorEq, reduceEqDiff, reduceAdd, reduceSub, reduceMul, reduceLT, reduceLeDiff, reduceToNat, Nat.reduceBEq, tqA, sized_ret, hs, hs2, hone]
    exact ⟨gn _, by rw [hgd]; rfl⟩
  | true =>
  rw [hs, hs2, Bool.true_and, Bool.true_and] at hgd
  have ht : 0 ≤ d.to ∧ d.to ≤ 4096 := of_decide_eq_true hs2
  obtain ⟨ht0, ht1⟩ := ht
  subst hv
  simp (maxSteps := 10000000) (disch := omega) only [vqA, tagOf, reduceIte, reduceCtorEq, reduceEqDiff, reduceAdd, reduceSub, reduceMul, reduceLT, reduceLeDiff, reduceToNat, Nat.reduceBEq, tqA, sized_ret, hs, hs2, hone]
  refine r_loop (k := d.recs.length) (fun k ρ h' => ∃ (i : Nat) (x : Int), i + k = d.recs.length ∧ 0 ≤ x ∧ x ≤ 4096 ∧ G = goodL d.to x (d.recs.drop i) ∧ ρ 1 = .pointer (some ⟨h.next, 0, none⟩) ∧ ρ 3 = .int .i64 x ∧ ρ 18 = .slice a d.recs.length c ∧ ρ 19 = .int .i64 d.recs.length ∧ ρ 20 = .int .i64 (i : Int) ∧
    h'.get h.next = some (.cells [.int .i64 d.fr, .int .i64 d.to, .slice a d.recs.length c] true none) ∧ Grow h h' ∧ h.next < h'.next) ?_ ?_
  · rintro k ρ h' ⟨i, x, hk, hx0, hx1, hG, r1, r3, r18, r19, r20, m0, gr, hn⟩
    unfold Gau_
    rcases Nat.lt_or_ge i d.recs.length with hi | hi
    · have hr : d.recs[i]? = some d.recs[i] := List.getElem?_eq_getElem hi
      rw [List.drop_eq_getElem_cons hi, goodL] at hG
      have hne : d.recs ≠ [] := fun e => by rw [e] at hi; simp at hi
      obtain ⟨b, o, c', he, hb, hall⟩ := hd.elems hne
      cases he
      obtain ⟨dv, hc, hbr⟩ := hall i _ hr
      obtain ⟨a2, c2, rfl⟩ := hbr.is
      rw [← gr.get b hb] at hc
      generalize d.recs[i] = r at hr hG hc hbr
      have g2 : ∀ b x, Grow h ((h'.new b).set h'.next x) := fun b x => (gr.trans (Grow.new h' b)).set gr.next x
      by_cases c1 : r.at_ < x
      · have e : goodR d.to x r = false := decide_eq_false (by omega)
        rw [e] at hG
        cases hz : r.zero <;> (simp (maxSteps := 10000000) (disch := omega) only [vqA, tagOf, reduceIte, reduceCtorEq, reduceEqDiff, reduceAdd, reduceSub, reduceMul, reduceLT, reduceLeDiff, reduceToNat, Nat.reduceBEq, tqA, r1, r3, r18, r19, r20, hc, hz]; exact ⟨g2 _ _, by rw [hG]; rfl⟩)
      by_cases c2 : r.len < 1
      · have e : goodR d.to x r = false := decide_eq_false (by omega)
        rw [e] at hG
        cases hz : r.zero <;> (simp (maxSteps := 10000000) (disch := omega) only [vqA, tagOf, reduceIte, reduceCtorEq, reduceEqDiff, reduceAdd, reduceSub, reduceMul, reduceLT, reduceLeDiff, reduceToNat, Nat.reduceBEq, tqA, r1, r3, r18, r19, r20, hc, hz]; exact ⟨g2 _ _, by rw [hG]; rfl⟩)
      by_cases c3 : r.len > d.to
      · have e : goodR d.to x r = false := decide_eq_false (by omega)
        rw [e] at hG
        cases hz : r.zero <;> (simp (maxSteps := 10000000) (disch := omega) only [vqA, tagOf, reduceIte, reduceCtorEq, reduceEqDiff, reduceAdd, reduceSub, reduceMul, reduceLT, reduceLeDiff, reduceToNat, Nat.reduceBEq, tqA, r1, r3, r18, r19, r20, hc, hz, m0]; exact ⟨g2 _ _, by rw [hG]; rfl⟩)
      by_cases c4 : r.at_ > d.to - r.len
      · have e : goodR d.to x r = false := decide_eq_false (by omega)
        rw [e] at hG
        cases hz : r.zero <;> (simp (maxSteps := 10000000) (disch := omega) only [vqA, tagOf, reduceIte, reduceCtorEq, reduceEqDiff, reduceAdd, reduceSub, reduceMul, reduceLT, reduceLeDiff, reduceToNat, Nat.reduceBEq, tqA, r1, r3, r18, r19, r20, hc, hz, m0]; exact ⟨g2 _ _, by rw [hG]; rfl⟩)
      cases hz : r.zero
      · by_cases c5 : (r.data.length : Int) = r.len
        · have e : goodR d.to x r = true := decide_eq_true ⟨by omega, by omega, by omega, by omega, by rw [hz]; simpa using c5⟩
          rw [e, Bool.true_and] at hG
          simp (maxSteps := 10000000) (disch := omega) only [vqA, tagOf, reduceIte, reduceCtorEq, reduceEqDiff, reduceAdd, reduceSub, reduceMul, reduceLT, reduceLeDiff, reduceToNat, Nat.reduceBEq, tqA, r1, r3, r18, r19, r20, hc, hz, m0]
          exact ⟨k - 1, by omega, i + 1, r.at_ + r.len, by omega, by omega, by omega, hG, rfl, rfl, g2 _ _, by omega⟩
        · have e : goodR d.to x r = false := decide_eq_false fun q => c5 (by have := q.2.2.2.2; rw [hz] at this; simpa using this)
          rw [e] at hG
          simp (maxSteps := 10000000) (disch := omega) only [vqA, tagOf, reduceIte, reduceCtorEq, reduceEqDiff, reduceAdd, reduceSub, reduceMul, reduceLT, reduceLeDiff, reduceToNat, Nat.reduceBEq, tqA, r1, r3, r18, r19, r20, hc, hz, m0]
          exact ⟨g2 _ _, by rw [hG]; rfl⟩
      · by_cases c5 : (r.data.length : Int) = 0
        · have e : goodR d.to x r = true := decide_eq_true ⟨by omega, by omega, by omega, by omega, by rw [hz]; simpa using c5⟩
          rw [e, Bool.true_and] at hG
          simp (maxSteps := 10000000) (disch := omega) only [vqA, tagOf, reduceIte, reduceCtorEq, reduceEqDiff, reduceAdd, reduceSub, reduceMul, reduceLT, reduceLeDiff, reduceToNat, Nat.reduceBEq, tqA, r1, r3, r18, r19, r20, hc, hz, m0]
          exact ⟨k - 1, by omega, i + 1, r.at_ + r.len, by omega, by omega, by omega, hG, rfl, rfl, g2 _ _, by omega⟩
        · have e : goodR d.to x r = false := decide_eq_false fun q => c5 (by have := q.2.2.2.2; rw [hz] at this; simpa using this)
          rw [e] at hG
          simp (maxSteps := 10000000) (disch := omega) only [vqA, tagOf, reduceIte, reduceCtorEq, reduceEqDiff, reduceAdd, reduceSub, reduceMul, reduceLT, reduceLeDiff, reduceToNat, Nat.reduceBEq, tqA, r1, r3, r18, r19, r20, hc, hz, m0]
          exact ⟨g2 _ _, by rw [hG]; rfl⟩
    · rw [List.drop_of_length_le hi, goodL] at hG
      simp (maxSteps := 10000000) (disch := omega) only [vqA, tagOf, reduceIte, reduceCtorEq, reduceEqDiff, reduceAdd, reduceSub, reduceMul, reduceLT, reduceLeDiff, reduceToNat, Nat.reduceBEq, tqA, r1, r3, r18, r19, r20]
      exact ⟨gr, by rw [hG]⟩
  · exact ⟨0, 0, by omega, by omega, by omega, hgd, by simp (maxSteps := 10000000) (disch := omega) only [vqA, tagOf, reduceIte, reduceCtorEq, reduceEqDiff, reduceAdd, reduceSub, reduceMul, reduceLT, reduceLeDiff, reduceToNat, Nat.reduceBEq, tqA], by simp (maxSteps := 10000000) (disch := omega) only [vqA, tagOf, reduceIte, reduceCtorEq, reduceEqDiff, reduceAdd, reduceSub, reduceMul, reduceLT, reduceLeDiff, reduceToNat, Nat.reduceBEq, tqA], by simp (maxSteps := 10000000) (disch := omega) only [vqA, tagOf, reduceIte, reduceCtorEq, reduceEqDiff, reduceAdd, reduceSub, reduceMul, reduceLT, reduceLeDiff, reduceToNat, Nat.reduceBEq, tqA], by simp (maxSteps := 10000000) (disch := omega) only [vqA, tagOf, reduceIte, reduceCtorEq, reduceEqDiff, reduceAdd, reduceSub, reduceMul, reduceLT, reduceLeDiff, reduceToNat, Nat.reduceBEq, tqA], by simp (maxSteps := 10000000) (disch := omega) only [vqA, tagOf, reduceIte, reduceCtorEq, reduceEqDiff, reduceAdd, reduceSub, reduceMul, reduceLT, reduceLeDiff, reduceToNat, Nat.reduceBEq, tqA]; rfl, get_new_same _ _, gn _, Nat.lt_succ_self _⟩
theorem refGood_ok (d : Dif) (v : Value) (h : Heap) (hd : DRow h v d.recs) (hL : d.recs.length ≤ 100000000) : Ret E Fs_ [.agg ⟨difC d v⟩] h (fun u h' => Grow h h' ∧ u = .bool (goodD d)) := by
  have hgd : goodD d = (sizedB d.fr && (sizedB d.to && goodL d.to 0 d.recs)) := rfl
  generalize goodD d = G at hgd ⊢
  refine ret_fun IO_ (by simp) ?_
  unfold Gav_ difC
  have gn : ∀ b1 : Blk, Grow h (h.new b1) := fun b1 => Grow.new h b1
  obtain ⟨a, c, hv⟩ := hd.is
  have hone := hd.one
  by_cases f0 : d.fr < 0
  · rw [show sizedB d.fr = false from decide_eq_false (by omega)] at hgd
    simp (maxSteps := 10000000) (disch := omega) only [vqA, tagOf, reduceIte, reduceCtorEq, reduceEqDiff, reduceAdd, reduceSub, reduceMul, reduceLT, reduceLeDiff, reduceToNat, Nat.reduceBEq, tqA, hone]
    exact ⟨gn _, by rw [hgd]; rfl⟩
  by_cases f1 : d.fr > 4096
  · rw [show sizedB d.fr = false from decide_eq_false (by omega)] at hgd
    simp (maxSteps := 10000000) (disch := omega) only [vqA, tagOf, reduceIte, reduceCtorEq, reduceEqDiff, reduceAdd, reduceSub, reduceMul, reduceLT, reduceLeDiff, reduceToNat, Nat.reduceBEq, tqA, hone]
    exact ⟨gn _, by rw [hgd]; rfl⟩
  rw [show sizedB d.fr = true from decide_eq_true (by omega), Bool.true_and] at hgd
  by_cases f2 : d.to < 0
  · rw [show sizedB d.to = false from decide_eq_false (by omega)] at hgd
    simp (maxSteps := 10000000) (disch := omega) only [vqA, tagOf, reduceIte, reduceCtorEq, reduceEqDiff, reduceAdd, reduceSub, reduceMul, reduceLT, reduceLeDiff, reduceToNat, Nat.reduceBEq, tqA, hone]
    exact ⟨gn _, by rw [hgd]; rfl⟩
  by_cases f3 : d.to > 4096
  · rw [show sizedB d.to = false from decide_eq_false (by omega)] at hgd
    simp (maxSteps := 10000000) (disch := omega) only [vqA, tagOf, reduceIte, reduceCtorEq, reduceEqDiff, reduceAdd, reduceSub, reduceMul, reduceLT, reduceLeDiff, reduceToNat, Nat.reduceBEq, tqA, hone]
    exact ⟨gn _, by rw [hgd]; rfl⟩
  rw [show sizedB d.to = true from decide_eq_true (by omega), Bool.true_and] at hgd
  subst hv
  simp (maxSteps := 10000000) (disch := omega) only [vqA, tagOf, reduceIte, reduceCtorEq, reduceEqDiff, reduceAdd, reduceSub, reduceMul, reduceLT, reduceLeDiff, reduceToNat, Nat.reduceBEq, tqA, hone]
  refine r_loop (k := d.recs.length) (fun k ρ h' => ∃ (i : Nat) (x : Int), i + k = d.recs.length ∧ 0 ≤ x ∧ x ≤ 4096 ∧ G = goodL d.to x (d.recs.drop i) ∧ ρ 1 = .pointer (some ⟨h.next, 0, none⟩) ∧ ρ 3 = .int .i64 x ∧ ρ 4 = .int .i64 (i : Int) ∧
    h'.get h.next = some (.cells [.int .i64 d.fr, .int .i64 d.to, .slice a d.recs.length c] true none) ∧ Grow h h' ∧ h.next < h'.next) ?_ ?_
  · rintro k ρ h' ⟨i, x, hk, hx0, hx1, hG, r1, r3, r4, m0, gr, hn⟩
    unfold Gaj_
    rcases Nat.lt_or_ge i d.recs.length with hi | hi
    · have hr : d.recs[i]? = some d.recs[i] := List.getElem?_eq_getElem hi
      rw [List.drop_eq_getElem_cons hi, goodL] at hG
      have hne : d.recs ≠ [] := fun e => by rw [e] at hi; simp at hi
      obtain ⟨b, o, c', he, hb, hall⟩ := hd.elems hne
      cases he
      obtain ⟨dv, hc, hbr⟩ := hall i _ hr
      obtain ⟨a2, c2, rfl⟩ := hbr.is
      rw [← gr.get b hb] at hc
      generalize d.recs[i] = r at hr hG hc hbr
      have g2 : ∀ b x, Grow h ((h'.new b).set h'.next x) := fun b x => (gr.trans (Grow.new h' b)).set gr.next x
      by_cases c1 : r.at_ < x
      · have e : goodR d.to x r = false := decide_eq_false (by omega)
        rw [e] at hG
        simp (maxSteps := 10000000) (disch := omega) only [vqA, tagOf, reduceIte, reduceCtorEq, reduceEqDiff, reduceAdd, reduceSub, reduceMul, reduceLT, reduceLeDiff, reduceToNat, Nat.reduceBEq, tqA, r1, r3, r4, hc, m0]
        exact ⟨g2 _ _, by rw [hG]; rfl⟩
      by_cases c2 : r.len < 1
      · have e : goodR d.to x r = false := decide_eq_false (by omega)
        rw [e] at hG
        simp (maxSteps := 10000000) (disch := omega) only [vqA, tagOf, reduceIte, reduceCtorEq, reduceEqDiff, reduceAdd, reduceSub, reduceMul, reduceLT, reduceLeDiff, reduceToNat, Nat.reduceBEq, tqA, r1, r3, r4, hc, m0]
        exact ⟨g2 _ _, by rw [hG]; rfl⟩
      by_cases c3 : r.at_ > d.to
      · have e : goodR d.to x r = false := decide_eq_false (by omega)
        rw [e] at hG
        simp (maxSteps := 10000000) (disch := omega) only [vqA, tagOf, reduceIte, reduceCtorEq, reduceEqDiff, reduceAdd, reduceSub, reduceMul, reduceLT, reduceLeDiff, reduceToNat, Nat.reduceBEq, tqA, r1, r3, r4, hc, m0]
        exact ⟨g2 _ _, by rw [hG]; rfl⟩
      by_cases c4 : r.len > d.to - r.at_
      · have e : goodR d.to x r = false := decide_eq_false (by omega)
        rw [e] at hG
        simp (maxSteps := 10000000) (disch := omega) only [vqA, tagOf, reduceIte, reduceCtorEq, reduceEqDiff, reduceAdd, reduceSub, reduceMul, reduceLT, reduceLeDiff, reduceToNat, Nat.reduceBEq, tqA, r1, r3, r4, hc, m0]
        exact ⟨g2 _ _, by rw [hG]; rfl⟩
      cases hz : r.zero
      · by_cases c5 : (r.data.length : Int) = r.len
        · have e : goodR d.to x r = true := decide_eq_true ⟨by omega, by omega, by omega, by omega, by rw [hz]; simpa using c5⟩
          rw [e, Bool.true_and] at hG
          simp (maxSteps := 10000000) (disch := omega) only [vqA, tagOf, reduceIte, reduceCtorEq, reduceEqDiff, reduceAdd, reduceSub, reduceMul, reduceLT, reduceLeDiff, reduceToNat, Nat.reduceBEq, tqA, r1, r3, r4, hc, hz, m0]
          exact ⟨k - 1, by omega, i + 1, r.at_ + r.len, by omega, by omega, by omega, hG, rfl, rfl, g2 _ _, by omega⟩
        · have e : goodR d.to x r = false := decide_eq_false fun q => c5 (by have := q.2.2.2.2; rw [hz] at this; simpa using this)
          rw [e] at hG
          simp (maxSteps := 10000000) (disch := omega) only [vqA, tagOf, reduceIte, reduceCtorEq, reduceEqDiff, reduceAdd, reduceSub, reduceMul, reduceLT, reduceLeDiff, reduceToNat, Nat.reduceBEq, tqA, r1, r3, r4, hc, hz, m0]
          exact ⟨g2 _ _, by rw [hG]; rfl⟩
      · by_cases c5 : (r.data.length : Int) = 0
        · have e : goodR d.to x r = true := decide_eq_true ⟨by omega, by omega, by omega, by omega, by rw [hz]; simpa using c5⟩
          rw [e, Bool.true_and] at hG
          simp (maxSteps := 10000000) (disch := omega) only [vqA, tagOf, reduceIte, reduceCtorEq, reduceEqDiff, reduceAdd, reduceSub, reduceMul, reduceLT, reduceLeDiff, reduceToNat, Nat.reduceBEq, tqA, r1, r3, r4, hc, hz, m0]
          exact ⟨k - 1, by omega, i + 1, r.at_ + r.len, by omega, by omega, by omega, hG, rfl, rfl, g2 _ _, by omega⟩
        · have e : goodR d.to x r = false := decide_eq_false fun q => c5 (by have := q.2.2.2.2; rw [hz] at this; simpa using this)
          rw [e] at hG
          simp (maxSteps := 10000000) (disch := omega) only [vqA, tagOf, reduceIte, reduceCtorEq, reduceEqDiff, reduceAdd, reduceSub, reduceMul, reduceLT, reduceLeDiff, reduceToNat, Nat.reduceBEq, tqA, r1, r3, r4, hc, hz, m0]
          exact ⟨g2 _ _, by rw [hG]; rfl⟩
    · rw [List.drop_of_length_le hi, goodL] at hG
      simp (maxSteps := 10000000) (disch := omega) only [vqA, tagOf, reduceIte, reduceCtorEq, reduceEqDiff, reduceAdd, reduceSub, reduceMul, reduceLT, reduceLeDiff, reduceToNat, Nat.reduceBEq, tqA, r1, r3, r4, m0]
      exact ⟨gr, by rw [hG]⟩
  · exact ⟨0, 0, by omega, by omega, by omega, hgd, by simp (maxSteps := 10000000) (disch := omega) only [vqA, tagOf, reduceIte, reduceCtorEq, reduceEqDiff, reduceAdd, reduceSub, reduceMul, reduceLT, reduceLeDiff, reduceToNat, Nat.reduceBEq, tqA], by simp (maxSteps := 10000000) (disch := omega) only [vqA, tagOf, reduceIte, reduceCtorEq, reduceEqDiff, reduceAdd, reduceSub, reduceMul, reduceLT, reduceLeDiff, reduceToNat, Nat.reduceBEq, tqA], by simp (maxSteps := 10000000) (disch := omega) only [vqA, tagOf, reduceIte, reduceCtorEq, reduceEqDiff, reduceAdd, reduceSub, reduceMul, reduceLT, reduceLeDiff, reduceToNat, Nat.reduceBEq, tqA]; rfl, get_new_same _ _, gn _, Nat.lt_succ_self _⟩
structure Fit (d : Dif) : Prop where
  n : d.recs.length ≤ 30
  data : ∀ r ∈ d.recs, r.data.length ≤ 600
end Go.Proofs.Ytdmakachnphddaa.C
