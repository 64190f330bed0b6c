/- X5: which bundles are good, as the document says it. -/
import Derived.Test.YtdmakachnphddaaX4
open Nat (reduceEqDiff reduceAdd reduceSub reduceMul reduceLT reduceLeDiff)
open Int (reduceToNat)
open Go Go.Vi Go.Bm
namespace Go.Proofs.Ytdmakachnphddaa.C
set_option linter.unusedSimpArgs false
set_option maxRecDepth 100000
set_option maxHeartbeats 40000000
theorem cells_sub {x : Option Blk} {o n k m : Nat} {l : List Value} (h : cellsAt x o n = some l) (hk : k + m ≤ n) : cellsAt x (o + k) m = some ((l.drop k).take m) := by
  unfold cellsAt at h ⊢
  split at h
  · split at h
    · rename_i hle
      cases h
      rw [if_pos (by omega), List.drop_take, List.take_take, List.drop_drop, Nat.min_eq_left (by omega)]
    · cases h
  · cases h
theorem refBunGood_ok (b : Bun) (v w : Value) (h : Heap) (hp : PRow h v b.parts) (hd : DRow h w b.last.recs) (hL : b.parts.length ≤ 100000000) (hN : ∀ p ∈ b.parts, PartOk p) (hl : b.last.recs.length ≤ 100000000) :
    Ret E FL_ [.agg ⟨bunC b v w⟩] h (fun u h' => Grow h h' ∧ u = .bool (goodBun b)) := by
  refine ret_fun Ij_ (by simp) ?_
  unfold Gk_
  have hD : ∀ d ∈ b.diffs, d.recs.length ≤ 100000000 := fun d hd => by
    rcases List.mem_append.1 hd with q | q
    · obtain ⟨p, hp, rfl⟩ := List.mem_map.1 q
      exact (hN p hp).diff
    · rw [List.mem_singleton.1 q]; exact hl
  have hgb : goodBun b = (objB b.object && (decide (b.parts.length ≤ 16) && (namesB [] (b.parts.map (·.name)) && chainB 0 b.diffs))) := rfl
  have hbc : bunC b v w = [.int .i64 b.object, v, .int .i64 b.last.fr, .int .i64 b.last.to, w] := rfl
  rw [hbc]
  obtain ⟨av, cv, rfl⟩ := hp.is
  obtain ⟨aw, cw, rfl⟩ := hd.is
  obtain ⟨h0, e0⟩ : ∃ y, y = h.new (.cells [.int .i64 b.object, .slice av b.parts.length cv, .int .i64 b.last.fr, .int .i64 b.last.to, .slice aw b.last.recs.length cw] true none) := ⟨_, rfl⟩
  have g0 : Grow h h0 := by rw [e0]; exact .new h _
  have m0 : h0.get h.next = some (.cells [.int .i64 b.object, .slice av b.parts.length cv, .int .i64 b.last.fr, .int .i64 b.last.to, .slice aw b.last.recs.length cw] true none) := by rw [e0, get_new_same]
  have n0 : h0.next = h.next + 1 := by rw [e0]; rfl
  cases hob : objB b.object with
  | false =>
    rw [hob, Bool.false_and] at hgb
    simp (maxSteps := 10000000) (disch := omega) only [vqA, tagOf, reduceIte, reduceCtorEq, reduceEqDiff, reduceAdd, reduceSub, reduceMul, reduceLT, reduceLeDiff, reduceToNat, Nat.reduceBEq, tqA, refObj_ret, hob]
    exact ⟨.new h _, by rw [hgb]⟩
  | true =>
  rw [hob, Bool.true_and] at hgb
  by_cases h16 : b.parts.length > 16
  · rw [decide_eq_false (show ¬ b.parts.length ≤ 16 by omega), Bool.false_and] at hgb
    simp (maxSteps := 10000000) (disch := omega) only [vqA, tagOf, reduceIte, reduceCtorEq, reduceEqDiff, reduceAdd, reduceSub, reduceMul, reduceLT, reduceLeDiff, reduceToNat, Nat.reduceBEq, tqA, refObj_ret, hob]
    exact ⟨.new h _, by rw [hgb]⟩
  rw [decide_eq_true (show b.parts.length ≤ 16 by omega), Bool.true_and] at hgb
  simp (maxSteps := 10000000) (disch := omega) only [vqA, tagOf, reduceIte, reduceCtorEq, reduceEqDiff, reduceAdd, reduceSub, reduceMul, reduceLT, reduceLeDiff, reduceToNat, Nat.reduceBEq, tqA, refObj_ret, hob]
  rw [← e0]
  obtain ⟨N, eN⟩ : ∃ N, N = b.parts.map (·.name) := ⟨_, rfl⟩
  have lN : N.length = b.parts.length := by rw [eN, List.length_map]
  have hNall : ∀ (m : Nat) (p : Part), b.parts[m]? = some p → N[m]? = some p.name := fun m p hm => by rw [eN, List.getElem?_map, hm]; rfl
  rw [← eN] at hgb
  have hdl : b.diffs.length = b.parts.length + 1 := by unfold Bun.diffs; rw [List.length_append, List.length_map, List.length_singleton]
  refine r_loop (k := b.parts.length + 1) (fun k ρ h' => ∃ (i : Nat) (z : Int), i + k = b.parts.length + 1 ∧ goodBun b = (namesB (N.take i) (N.drop i) && chainB z (b.diffs.drop i)) ∧
    ρ 1 = .pointer (some ⟨h.next, 0, none⟩) ∧ ρ 3 = .int .i64 z ∧ ρ 4 = .int .i64 (i : Int) ∧ Grow h0 h') ?_ ?_
  · rintro k ρ h' ⟨i, z, hk, hgi, r1, r3, r4, gr⟩
    unfold G0_
    have hbn := (gr.get h.next (by omega)).trans m0
    have hnx := gr.next
    rcases Nat.lt_or_ge i (b.parts.length + 1) with hi | hi
    · have hid : i < b.diffs.length := by omega
      have hr : b.diffs[i]? = some b.diffs[i] := List.getElem?_eq_getElem hid
      rw [List.drop_eq_getElem_cons hid, chainB] at hgi
      have hrl := hD _ (List.getElem_mem hid)
      rcases Nat.lt_or_ge i b.parts.length with hip | hip
      · have hpr : b.parts[i]? = some b.parts[i] := List.getElem?_eq_getElem hip
        have hne : b.parts ≠ [] := fun e => by rw [e] at hip; simp at hip
        obtain ⟨bb, o, c', he, hb, hel⟩ := hp.elems hne
        cases he
        obtain ⟨dv, hc, hdr⟩ := hel i _ hpr
        have hnm := (hN _ (List.getElem_mem hip)).name
        have hNi : N[i]? = some b.parts[i].name := by rw [eN, List.getElem?_map, hpr]; rfl
        have hdi : b.diffs[i] = b.parts[i].diff := by
          have : b.diffs[i]? = some b.parts[i].diff := by
            unfold Bun.diffs
            rw [List.getElem?_append_left (by rw [List.length_map]; exact hip), List.getElem?_map, hpr]
            rfl
          rw [hr] at this
          exact Option.some.inj this
        rw [hdi] at hgi hrl
        clear hdi hr
        generalize b.parts[i] = p at hpr hc hdr hnm hNi hgi hrl
        obtain ⟨d, ed⟩ : ∃ d, d = p.diff := ⟨_, rfl⟩
        rw [← ed] at hgi hrl hc hdr
        obtain ⟨ad, cd, rfl⟩ := hdr.is
        have hiN : i < N.length := by omega
        have hdrop : N.drop i = p.name :: N.drop (i + 1) := by
          rw [List.drop_eq_getElem_cons hiN]
          congr 1
          rw [List.getElem?_eq_getElem hiN] at hNi
          exact Option.some.inj hNi
        have htake : N.take (i + 1) = N.take i ++ [p.name] := by rw [List.take_add_one, hNi]; rfl
        rw [hdrop, namesB, ← htake] at hgi
        obtain ⟨hB, eB⟩ : ∃ y, y = ((h'.new (.cells [.int .i64 0, .int .i64 0, .slice none 0 0] true none)).set h'.next (.cells [.int .i64 b.last.fr, .int .i64 b.last.to, .slice aw b.last.recs.length cw] true none)).set h'.next (.cells [.int .i64 d.fr, .int .i64 d.to, .slice ad d.recs.length cd] true none) := ⟨_, rfl⟩
        have gB : Grow h' hB := by rw [eB]; exact ((Grow.new h' _).set (Nat.le_refl _) _).set (Nat.le_refl _) _
        have nB : hB.next = h'.next + 1 := by rw [eB]; rfl
        have m5 : hB.get h'.next = some (.cells [.int .i64 d.fr, .int .i64 d.to, .slice ad d.recs.length cd] true none) := by rw [eB, get_set_same]
        have hg0 := (g0.trans gr).get bb hb
        rw [← hg0] at hc
        have c2 := cells_sub (k := 2) (m := 3) hc (by decide)
        have c0 := cells_one1 (cells_sub (k := 0) (m := 1) hc (by decide))
        rw [Nat.add_zero] at c0
        have hcB : cellAt (hB.get bb) (o + i * 5) = some (.string (strOf p.name)) := by rw [gB.get bb (by have := g0.next; omega)]; exact c0
        have g5 : Grow h0 hB := gr.trans gB
        have hbB := (g5.get h.next (by omega)).trans m0
        simp (maxSteps := 10000000) (disch := omega) only [vqA, tagOf, reduceIte, reduceCtorEq, reduceEqDiff, reduceAdd, reduceSub, reduceMul, reduceLT, reduceLeDiff, reduceToNat, Nat.reduceBEq, tqA, r1, r3, r4, hbn, c2, c0]
        rw [← eB]
        refine (refNamed_ok p.name hnm hB).mono ?_
        rintro u hh ⟨rfl, rfl⟩
        cases hnb : namedB p.name with
        | false =>
          rw [hnb, Bool.false_and, Bool.false_and] at hgi
          simp (maxSteps := 10000000) (disch := omega) only [vqA, tagOf, reduceIte, reduceCtorEq, reduceEqDiff, reduceAdd, reduceSub, reduceMul, reduceLT, reduceLeDiff, reduceToNat, Nat.reduceBEq, tqA, r1, r3, r4]
          exact ⟨g0.trans g5, by rw [hgi]⟩
        | true =>
          rw [hnb, Bool.true_and] at hgi
          simp (maxSteps := 10000000) (disch := omega) only [vqA, tagOf, reduceIte, reduceCtorEq, reduceEqDiff, reduceAdd, reduceSub, reduceMul, reduceLT, reduceLeDiff, reduceToNat, Nat.reduceBEq, tqA, r1, r3, r4]
          refine r_loop (k := i) (fun k2 ρ2 h2 => h2 = hh ∧ ∃ (m : Nat), m + k2 = i ∧ p.name ∉ N.take m ∧ ρ2 1 = .pointer (some ⟨h.next, 0, none⟩) ∧ ρ2 3 = .int .i64 z ∧ ρ2 4 = .int .i64 (i : Int) ∧ ρ2 5 = .pointer (some ⟨h'.next, 0, none⟩) ∧ ρ2 6 = .int .i64 (m : Int)) ?_ ?_
          · rintro k2 ρ2 h2 ⟨rfl, m, hm, hnin, s1, s3, s4, s5, s6⟩
            unfold GU_
            rcases Nat.lt_or_ge m i with hmi | hmi
            · have hmp : b.parts[m]? = some b.parts[m] := List.getElem?_eq_getElem (by omega)
              obtain ⟨dm, hcm, _⟩ := hel m _ hmp
              have hNm := hNall m _ hmp
              generalize b.parts[m] = pm at hmp hcm hNm
              have cm := cells_one1 (cells_sub (k := 0) (m := 1) hcm (by decide))
              rw [Nat.add_zero, ← hg0, ← gB.get bb (by have := g0.next; omega)] at cm
              cases hq : pm.name == p.name with
              | true =>
                have hin : p.name ∈ N.take i := by
                  rw [← beq_iff_eq.1 hq]
                  exact List.mem_of_getElem? (i := m) (by rw [List.getElem?_take_of_lt hmi]; exact hNm)
                rw [List.contains_iff_mem.2 hin, Bool.not_true, Bool.false_and, Bool.false_and] at hgi
                simp (maxSteps := 10000000) (disch := omega) only [vqA, tagOf, reduceIte, reduceCtorEq, reduceEqDiff, reduceAdd, reduceSub, reduceMul, reduceLT, reduceLeDiff, reduceToNat, Nat.reduceBEq, tqA, s1, s3, s4, s5, s6, hbB, hcB, cm, hq]
                exact ⟨g0.trans g5, by rw [hgi]⟩
              | false =>
                have hnot : p.name ∉ N.take (m + 1) := by
                  rw [List.take_add_one, hNm]
                  intro q
                  rcases List.mem_append.1 q with q | q
                  · exact hnin q
                  · have : p.name = pm.name := by simpa using q
                    rw [this, beq_self_eq_true] at hq
                    cases hq
                simp (maxSteps := 10000000) (disch := omega) only [vqA, tagOf, reduceIte, reduceCtorEq, reduceEqDiff, reduceAdd, reduceSub, reduceMul, reduceLT, reduceLeDiff, reduceToNat, Nat.reduceBEq, tqA, s1, s3, s4, s5, s6, hbB, hcB, cm, hq]
                exact ⟨k2 - 1, by omega, m + 1, by omega, hnot, rfl⟩
            · obtain rfl : m = i := by omega
              have hco : (N.take m).contains p.name = false := by rw [← Bool.not_eq_true]; exact fun q => hnin (List.contains_iff_mem.1 q)
              rw [hco, Bool.not_false, Bool.true_and] at hgi
              simp (maxSteps := 10000000) (disch := omega) only [vqA, tagOf, reduceIte, reduceCtorEq, reduceEqDiff, reduceAdd, reduceSub, reduceMul, reduceLT, reduceLeDiff, reduceToNat, Nat.reduceBEq, tqA, s1, s3, s4, s5, s6, m5]
              refine (refGood_ok d _ _ (hdr.grow (g0.trans g5)) hrl).mono ?_
              rintro u h4 ⟨g4, rfl⟩
              have m4 := (g4.get h'.next (by omega)).trans m5
              have g54 := g5.trans g4
              cases hgd : goodD d with
              | false =>
                rw [hgd, Bool.false_and, Bool.and_false] at hgi
                simp (maxSteps := 10000000) (disch := omega) only [vqA, tagOf, reduceIte, reduceCtorEq, reduceEqDiff, reduceAdd, reduceSub, reduceMul, reduceLT, reduceLeDiff, reduceToNat, Nat.reduceBEq, tqA, s1, s3, s4, s5, s6]
                exact ⟨g0.trans g54, by rw [hgi]⟩
              | true =>
                rw [hgd, Bool.true_and] at hgi
                by_cases hz : d.fr = z
                · rw [decide_eq_true hz, Bool.true_and] at hgi
                  simp (maxSteps := 10000000) (disch := omega) only [vqA, tagOf, reduceIte, reduceCtorEq, reduceEqDiff, reduceAdd, reduceSub, reduceMul, reduceLT, reduceLeDiff, reduceToNat, Nat.reduceBEq, tqA, s1, s3, s4, s5, s6, m4]
                  exact ⟨k - 1, by omega, m + 1, d.to, by omega, hgi, rfl, rfl, g54⟩
                · rw [decide_eq_false hz, Bool.false_and, Bool.and_false] at hgi
                  simp (maxSteps := 10000000) (disch := omega) only [vqA, tagOf, reduceIte, reduceCtorEq, reduceEqDiff, reduceAdd, reduceSub, reduceMul, reduceLT, reduceLeDiff, reduceToNat, Nat.reduceBEq, tqA, s1, s3, s4, s5, s6, m4]
                  exact ⟨g0.trans g54, by rw [hgi]⟩
          · exact ⟨rfl, 0, by omega, by simp, by simp (maxSteps := 10000000) (disch := omega) only [vqA, tagOf, reduceIte, reduceCtorEq, reduceEqDiff, reduceAdd, reduceSub, reduceMul, reduceLT, reduceLeDiff, reduceToNat, Nat.reduceBEq, tqA, r1], by simp (maxSteps := 10000000) (disch := omega) only [vqA, tagOf, reduceIte, reduceCtorEq, reduceEqDiff, reduceAdd, reduceSub, reduceMul, reduceLT, reduceLeDiff, reduceToNat, Nat.reduceBEq, tqA, r3], by simp (maxSteps := 10000000) (disch := omega) only [vqA, tagOf, reduceIte, reduceCtorEq, reduceEqDiff, reduceAdd, reduceSub, reduceMul, reduceLT, reduceLeDiff, reduceToNat, Nat.reduceBEq, tqA, r4], by simp (maxSteps := 10000000) (disch := omega) only [vqA, tagOf, reduceIte, reduceCtorEq, reduceEqDiff, reduceAdd, reduceSub, reduceMul, reduceLT, reduceLeDiff, reduceToNat, Nat.reduceBEq, tqA], by simp (maxSteps := 10000000) (disch := omega) only [vqA, tagOf, reduceIte, reduceCtorEq, reduceEqDiff, reduceAdd, reduceSub, reduceMul, reduceLT, reduceLeDiff, reduceToNat, Nat.reduceBEq, tqA]; rfl⟩
      · have hie : i = b.parts.length := by omega
        have hdi : b.diffs[i] = b.last := by
          have : b.diffs[i]? = some b.last := by
            unfold Bun.diffs
            rw [List.getElem?_append_right (by rw [List.length_map]; omega), List.length_map, hie, Nat.sub_self]
            rfl
          rw [hr] at this
          exact Option.some.inj this
        rw [hdi] at hgi hrl
        clear hdi hr
        rw [List.take_of_length_le (by omega), List.drop_of_length_le (show N.length ≤ i by omega), ← List.take_of_length_le (show N.length ≤ i + 1 by omega), ← List.drop_of_length_le (show N.length ≤ i + 1 by omega)] at hgi
        have hdr := hd
        generalize b.last = d at *
        obtain ⟨hB, eB⟩ : ∃ y, y = ((h'.new (.cells [.int .i64 0, .int .i64 0, .slice none 0 0] true none)).set h'.next (.cells [.int .i64 d.fr, .int .i64 d.to, .slice aw d.recs.length cw] true none)) := ⟨_, rfl⟩
        have gB : Grow h' hB := by rw [eB]; exact (Grow.new h' _).set (Nat.le_refl _) _
        have nB : hB.next = h'.next + 1 := by rw [eB]; rfl
        have m5 : hB.get h'.next = some (.cells [.int .i64 d.fr, .int .i64 d.to, .slice aw d.recs.length cw] true none) := by rw [eB, get_set_same]
        have g5 : Grow h0 hB := gr.trans gB
        have hbB := (g5.get h.next (by omega)).trans m0
        simp (maxSteps := 10000000) (disch := omega) only [vqA, tagOf, reduceIte, reduceCtorEq, reduceEqDiff, reduceAdd, reduceSub, reduceMul, reduceLT, reduceLeDiff, reduceToNat, Nat.reduceBEq, tqA, r1, r3, r4, hbn]
        rw [← eB]
        refine (refGood_ok d _ _ (hdr.grow (g0.trans g5)) hrl).mono ?_
        rintro u h4 ⟨g4, rfl⟩
        have m4 := (g4.get h'.next (by omega)).trans m5
        have g54 := g5.trans g4
        cases hgd : goodD d with
        | false =>
          rw [hgd, Bool.false_and, Bool.and_false] at hgi
          simp (maxSteps := 10000000) (disch := omega) only [vqA, tagOf, reduceIte, reduceCtorEq, reduceEqDiff, reduceAdd, reduceSub, reduceMul, reduceLT, reduceLeDiff, reduceToNat, Nat.reduceBEq, tqA, r1, r3, r4]
          exact ⟨g0.trans g54, by rw [hgi]⟩
        | true =>
          rw [hgd, Bool.true_and] at hgi
          by_cases hz : d.fr = z
          · rw [decide_eq_true hz, Bool.true_and] at hgi
            simp (maxSteps := 10000000) (disch := omega) only [vqA, tagOf, reduceIte, reduceCtorEq, reduceEqDiff, reduceAdd, reduceSub, reduceMul, reduceLT, reduceLeDiff, reduceToNat, Nat.reduceBEq, tqA, r1, r3, r4, m4]
            exact ⟨k - 1, by omega, i + 1, d.to, by omega, hgi, rfl, rfl, g54⟩
          · rw [decide_eq_false hz, Bool.false_and, Bool.and_false] at hgi
            simp (maxSteps := 10000000) (disch := omega) only [vqA, tagOf, reduceIte, reduceCtorEq, reduceEqDiff, reduceAdd, reduceSub, reduceMul, reduceLT, reduceLeDiff, reduceToNat, Nat.reduceBEq, tqA, r1, r3, r4, m4]
            exact ⟨g0.trans g54, by rw [hgi]⟩
    · simp (maxSteps := 10000000) (disch := omega) only [vqA, tagOf, reduceIte, reduceCtorEq, reduceEqDiff, reduceAdd, reduceSub, reduceMul, reduceLT, reduceLeDiff, reduceToNat, Nat.reduceBEq, tqA, r1, r3, r4, hbn]
      rw [List.drop_of_length_le (show b.diffs.length ≤ i by omega), List.drop_of_length_le (show N.length ≤ i by omega)] at hgi
      exact ⟨g0.trans gr, by rw [hgi]; rfl⟩
  · exact ⟨0, 0, by omega, hgb, by simp (maxSteps := 10000000) (disch := omega) only [vqA, tagOf, reduceIte, reduceCtorEq, reduceEqDiff, reduceAdd, reduceSub, reduceMul, reduceLT, reduceLeDiff, reduceToNat, Nat.reduceBEq, tqA], by simp (maxSteps := 10000000) (disch := omega) only [vqA, tagOf, reduceIte, reduceCtorEq, reduceEqDiff, reduceAdd, reduceSub, reduceMul, reduceLT, reduceLeDiff, reduceToNat, Nat.reduceBEq, tqA], by simp (maxSteps := 10000000) (disch := omega) only [vqA, tagOf, reduceIte, reduceCtorEq, reduceEqDiff, reduceAdd, reduceSub, reduceMul, reduceLT, reduceLeDiff, reduceToNat, Nat.reduceBEq, tqA]; rfl, .refl _⟩
end Go.Proofs.Ytdmakachnphddaa.C
