/- X4: which bundles are good, as the program says it. -/
import Derived.Test.YtdmakachnphddaaX3
import Derived.Test.YtdmakachnphddaaVgI
open Nat (reduceEqDiff reduceAdd reduceSub reduceMul reduceLT reduceLeDiff)
open Int (reduceToNat)
open Go Go.Vi Go.Bm
namespace Go.Proofs.Ytdmakachnphddaa.C
set_option linter.unusedSimpArgs false
set_option maxRecDepth 100000
set_option maxHeartbeats 40000000
theorem mapi : MapIs E TG_ Tf_ Ta_ := ⟨by kernel_rfl, by kernel_rfl, by kernel_rfl⟩
theorem bunGood_ok (b : Bun) (v w : Value) (h : Heap) (hp : PRow h v b.parts) (hd : DRow h w b.last.recs) (hL : b.parts.length ≤ 100000000) (hN : ∀ p ∈ b.parts, PartOk p) (hl : b.last.recs.length ≤ 100000000) :
    Ret E FZ_ [.agg ⟨bunC b v w⟩] h (fun u h' => Grow h h' ∧ u = .bool (goodBun b)) := by
  refine ret_fun IX_ (by simp) ?_
  unfold GE_
  have hD : ∀ d ∈ b.diffs, d.recs.length ≤ 100000000 := fun d hd => by
    rcases List.mem_append.1 hd with q | q
    · obtain ⟨p, hp, rfl⟩ := List.mem_map.1 q
      exact (hN p hp).diff
    · rw [List.mem_singleton.1 q]; exact hl
  have hgb : goodBun b = (objB b.object && (decide (b.parts.length ≤ 16) && (namesB [] (b.parts.map (·.name)) && chainB 0 b.diffs))) := rfl
  have hbc : bunC b v w = [.int .i64 b.object, v, .int .i64 b.last.fr, .int .i64 b.last.to, w] := rfl
  have diffs := fun k g => diffs_ok b v w k (hp.grow g) (hd.grow g) hL
  rw [hbc] at diffs ⊢
  obtain ⟨av, cv, rfl⟩ := hp.is
  obtain ⟨aw, cw, rfl⟩ := hd.is
  simp (maxSteps := 10000000) (disch := omega) only [vqA, tagOf, reduceIte, reduceCtorEq, reduceEqDiff, reduceAdd, reduceSub, reduceMul, reduceLT, reduceLeDiff, reduceToNat, Nat.reduceBEq, tqA]
  obtain ⟨h0, e0⟩ : ∃ y, y = h.new (.cells [.int .i64 b.object, .slice av b.parts.length cv, .int .i64 b.last.fr, .int .i64 b.last.to, .slice aw b.last.recs.length cw] true none) := ⟨_, rfl⟩
  have g0 : Grow h h0 := by rw [e0]; exact .new h _
  have m0 : h0.get h.next = some (.cells [.int .i64 b.object, .slice av b.parts.length cv, .int .i64 b.last.fr, .int .i64 b.last.to, .slice aw b.last.recs.length cw] true none) := by rw [e0, get_new_same]
  have n0 : h0.next = h.next + 1 := by rw [e0]; rfl
  rw [← e0]
  refine (between0_ok b.object h0).mono ?_
  rintro u h1 ⟨g1, x, rfl, ox, cx⟩
  cases hob : objB b.object with
  | false =>
    rw [hob, Bool.false_and] at hgb
    rw [if_neg (by decide)]
    simp (maxSteps := 10000000) (disch := omega) only [vqA, tagOf, reduceIte, reduceCtorEq, reduceEqDiff, reduceAdd, reduceSub, reduceMul, reduceLT, reduceLeDiff, reduceToNat, Nat.reduceBEq, tqA, ox, cx]
    exact ⟨(g0.trans g1).trans ((Grow.new h1 _).set (Nat.le_refl _) _), by rw [hgb]⟩
  | true =>
  rw [hob, Bool.true_and] at hgb
  rw [if_pos rfl]
  have m1 := (g1.get h.next (by omega)).trans m0
  have n1 := g1.next
  by_cases h16 : b.parts.length > 16
  · rw [decide_eq_false (show ¬ b.parts.length ≤ 16 by omega), Bool.false_and] at hgb
    simp (maxSteps := 10000000) (disch := omega) only [vqA, tagOf, reduceIte, reduceCtorEq, reduceEqDiff, reduceAdd, reduceSub, reduceMul, reduceLT, reduceLeDiff, reduceToNat, Nat.reduceBEq, tqA, ox, cx, m1]
    exact ⟨(g0.trans g1).trans ((Grow.new h1 _).set (Nat.le_refl _) _), by rw [hgb]⟩
  rw [decide_eq_true (show b.parts.length ≤ 16 by omega), Bool.true_and] at hgb
  have hmk : mkmapK E TG_ none = some (.map [] 0, .map) := rfl
  obtain ⟨h2, e2⟩ : ∃ y, y = (((h1.new (.cells [.int .i64 0, .int .i64 0, .slice none 0 0] true none)).set h1.next (.cells [.int .i64 0, .int .i64 0, x] true none)).new (.map [] 0)) := ⟨_, rfl⟩
  have g2 : Grow h1 h2 := by rw [e2]; exact ((Grow.new h1 _).set (Nat.le_refl _) _).more _
  have n2 : h2.next = h1.next + 2 := by rw [e2]; rfl
  have mm : h2.get (h1.next + 1) = some (.map [] 0) := by rw [e2]; exact get_new_same _ _
  have m2 := (g2.get h.next (by omega)).trans m1
  simp (maxSteps := 10000000) (disch := omega) only [vqA, tagOf, reduceIte, reduceCtorEq, reduceEqDiff, reduceAdd, reduceSub, reduceMul, reduceLT, reduceLeDiff, reduceToNat, Nat.reduceBEq, tqA, ox, cx, m1, hmk]
  rw [← e2]
  obtain ⟨N, eN⟩ : ∃ N, N = b.parts.map (·.name) := ⟨_, rfl⟩
  have lN : N.length = b.parts.length := by rw [eN, List.length_map]
  rw [← eN] at hgb
  have g02 : Grow h h2 := (g0.trans g1).trans g2
  refine r_loop (k := b.parts.length) (fun k ρ h' => ∃ (i : Nat) (es : List MapEntry) (c : Nat), i + k = b.parts.length ∧ namesB [] N = namesB (N.take i) (N.drop i) ∧ Ents es (N.take i) (.int .i64 1) ∧
    ρ 1 = .pointer (some ⟨h.next, 0, none⟩) ∧ ρ 5 = .map (some (h1.next + 1)) ∧ ρ 27 = .slice av b.parts.length cv ∧ ρ 28 = .int .i64 b.parts.length ∧ ρ 29 = .int .i64 (i : Int) ∧ h'.get (h1.next + 1) = some (.map es c) ∧ h'.get h.next = some (.cells [.int .i64 b.object, .slice av b.parts.length cv, .int .i64 b.last.fr, .int .i64 b.last.to, .slice aw b.last.recs.length cw] true none) ∧ Grow h h' ∧ h1.next + 1 < h'.next) ?_ ?_
  · rintro k ρ h' ⟨i, es, c, hk, hns, hes, r1, r5, r27, r28, r29, hm, hbn, gr, hnx⟩
    unfold GX_
    rcases Nat.lt_or_ge i b.parts.length with hi | hi
    · have hr : b.parts[i]? = some b.parts[i] := List.getElem?_eq_getElem hi
      have hne : b.parts ≠ [] := fun e => by rw [e] at hi; simp at hi
      obtain ⟨bb, o, c', he, hb, hel⟩ := hp.elems hne
      cases he
      obtain ⟨dv, hc, hdr⟩ := hel i _ hr
      have hnm := (hN _ (List.getElem_mem hi)).name
      have hNi : N[i]? = some b.parts[i].name := by rw [eN, List.getElem?_map, hr]; rfl
      generalize b.parts[i] = p at hr hc hdr hnm hNi
      obtain ⟨ad, cd, rfl⟩ := hdr.is
      have hg := gr.get bb hb
      rw [← hg] at hc
      have hiN : i < N.length := by omega
      have hdrop : N.drop i = p.name :: N.drop (i + 1) := by
        rw [List.drop_eq_getElem_cons hiN]
        congr 1
        rw [List.getElem?_eq_getElem hiN] at hNi
        exact Option.some.inj hNi
      have htake : N.take (i + 1) = N.take i ++ [p.name] := by rw [List.take_add_one, hNi]; rfl
      rw [hdrop, namesB, ← htake] at hns
      obtain ⟨hB, eB⟩ : ∃ y, y = (h'.new (.cells [.string (strOf []), .bool false, .int .i64 0, .int .i64 0, .slice none 0 0] true none)).set h'.next (.cells [.string (strOf p.name), .bool p.prot, .int .i64 p.diff.fr, .int .i64 p.diff.to, .slice ad p.diff.recs.length cd] true none) := ⟨_, rfl⟩
      have gB : Grow h' hB := by rw [eB]; exact (Grow.new h' _).set (Nat.le_refl _) _
      have nB : hB.next = h'.next + 1 := by rw [eB]; rfl
      have pB : hB.get h'.next = some (.cells [.string (strOf p.name), .bool p.prot, .int .i64 p.diff.fr, .int .i64 p.diff.to, .slice ad p.diff.recs.length cd] true none) := by rw [eB, get_set_same]
      have hmB := (gB.get _ hnx).trans hm
      have grB := gr.trans gB
      have z1 : (0 : Int) + 1 = 1 := rfl
      have z2 : (1 : Int) + 1 = 2 := rfl
      by_cases hin : p.name ∈ N.take i
      · obtain ⟨j, q1, q2⟩ := find_in 0 hes hin
        simp only [Nat.zero_add] at q1 q2
        rw [List.contains_iff_mem.2 hin, Bool.not_true, Bool.false_and, Bool.and_false] at hns
        rw [hns, Bool.false_and] at hgb
        have l1 := look_some mapi hmB q1
        have p1 := mput_some mapi hmB (.int .i64 2) q1
        obtain ⟨hC, eC⟩ : ∃ y, y = hB.set (h1.next + 1) (.map (setEntry es j (.string (strOf p.name)) (.int .i64 2)) c) := ⟨_, rfl⟩
        rw [← eC] at p1
        have gC : Grow h hC := by rw [eC]; exact grB.set (by omega) _
        have nC : hC.next = h'.next + 1 := by rw [eC]; exact nB
        have pC : hC.get h'.next = some (.cells [.string (strOf p.name), .bool p.prot, .int .i64 p.diff.fr, .int .i64 p.diff.to, .slice ad p.diff.recs.length cd] true none) := by rw [eC, get_set_ne (by omega)]; exact pB
        have mC : hC.get (h1.next + 1) = some (.map (setEntry es j (.string (strOf p.name)) (.int .i64 2)) c) := by rw [eC, get_set_same]
        simp (maxSteps := 10000000) (disch := omega) only [vqA, tagOf, reduceIte, reduceCtorEq, reduceEqDiff, reduceAdd, reduceSub, reduceMul, reduceLT, reduceLeDiff, reduceToNat, Nat.reduceBEq, tqA, r1, r5, r27, r28, r29, hc]
        rw [← eB]
        simp (maxSteps := 10000000) (disch := omega) only [vqA, tagOf, reduceIte, reduceCtorEq, reduceEqDiff, reduceAdd, reduceSub, reduceMul, reduceLT, reduceLeDiff, reduceToNat, Nat.reduceBEq, tqA, r1, r5, r27, r28, r29, l1, z1, z2, p1, pC]
        refine (named_ok p.name hnm hC).mono ?_
        rintro u hD ⟨rfl, gD⟩
        have pD := (gD.get _ (by omega)).trans pC
        have lD := look_some mapi ((gD.get _ (by have := gr.next; omega)).trans mC) (q2 (.int .i64 2))
        cases hnb : namedB p.name with
        | false =>
          simp (maxSteps := 10000000) (disch := omega) only [vqA, tagOf, reduceIte, reduceCtorEq, reduceEqDiff, reduceAdd, reduceSub, reduceMul, reduceLT, reduceLeDiff, reduceToNat, Nat.reduceBEq, tqA, r1, r5, r27, r28, r29]
          exact ⟨gC.trans gD, by rw [hgb]⟩
        | true =>
          simp (maxSteps := 10000000) (disch := omega) only [vqA, tagOf, reduceIte, reduceCtorEq, reduceEqDiff, reduceAdd, reduceSub, reduceMul, reduceLT, reduceLeDiff, reduceToNat, Nat.reduceBEq, tqA, r1, r5, r27, r28, r29, pD, lD]
          exact ⟨gC.trans gD, by rw [hgb]⟩
      · have q1 := find_not 0 hes hin
        rw [show (N.take i).contains p.name = false from by rw [← Bool.not_eq_true]; exact fun q => hin (List.contains_iff_mem.1 q), Bool.not_false, Bool.true_and] at hns
        have l1 := look_none mapi hmB q1
        have p1 := mput_none mapi hmB (.int .i64 1) q1
        have hes2 := hes.snoc p.name c
        rw [← htake] at hes2
        obtain ⟨j, s1, _⟩ := find_in (n := p.name) 0 hes2 (by rw [htake]; simp)
        obtain ⟨hC, eC⟩ : ∃ y, y = hB.set (h1.next + 1) (.map (es ++ [{ key := .string (strOf p.name), val := .int .i64 1, born := c }]) (c + 1)) := ⟨_, rfl⟩
        rw [← eC] at p1
        have gC : Grow h hC := by rw [eC]; exact grB.set (by omega) _
        have nC : hC.next = h'.next + 1 := by rw [eC]; exact nB
        have pC : hC.get h'.next = some (.cells [.string (strOf p.name), .bool p.prot, .int .i64 p.diff.fr, .int .i64 p.diff.to, .slice ad p.diff.recs.length cd] true none) := by rw [eC, get_set_ne (by omega)]; exact pB
        have mC : hC.get (h1.next + 1) = some (.map (es ++ [{ key := .string (strOf p.name), val := .int .i64 1, born := c }]) (c + 1)) := by rw [eC, get_set_same]
        have bC : hC.get h.next = some (.cells [.int .i64 b.object, .slice (some ⟨bb, o, none⟩) b.parts.length cv, .int .i64 b.last.fr, .int .i64 b.last.to, .slice aw b.last.recs.length cw] true none) := by rw [eC, get_set_ne (by omega)]; exact (gB.get _ (by omega)).trans hbn
        simp (maxSteps := 10000000) (disch := omega) only [vqA, tagOf, reduceIte, reduceCtorEq, reduceEqDiff, reduceAdd, reduceSub, reduceMul, reduceLT, reduceLeDiff, reduceToNat, Nat.reduceBEq, tqA, r1, r5, r27, r28, r29, hc]
        rw [← eB]
        simp (maxSteps := 10000000) (disch := omega) only [vqA, tagOf, reduceIte, reduceCtorEq, reduceEqDiff, reduceAdd, reduceSub, reduceMul, reduceLT, reduceLeDiff, reduceToNat, Nat.reduceBEq, tqA, r1, r5, r27, r28, r29, l1, z1, z2, p1, pC]
        refine (named_ok p.name hnm hC).mono ?_
        rintro u hD ⟨rfl, gD⟩
        have pD := (gD.get _ (by omega)).trans pC
        have mD := (gD.get _ (by have := gr.next; omega)).trans mC
        have bD := (gD.get h.next (by omega)).trans bC
        have lD := look_some mapi mD s1
        have nD := gD.next
        cases hnb : namedB p.name with
        | false =>
          rw [hnb, Bool.false_and] at hns
          rw [hns, Bool.false_and] at hgb
          simp (maxSteps := 10000000) (disch := omega) only [vqA, tagOf, reduceIte, reduceCtorEq, reduceEqDiff, reduceAdd, reduceSub, reduceMul, reduceLT, reduceLeDiff, reduceToNat, Nat.reduceBEq, tqA, r1, r5, r27, r28, r29]
          exact ⟨gC.trans gD, by rw [hgb]⟩
        | true =>
          rw [hnb, Bool.true_and] at hns
          simp (maxSteps := 10000000) (disch := omega) only [vqA, tagOf, reduceIte, reduceCtorEq, reduceEqDiff, reduceAdd, reduceSub, reduceMul, reduceLT, reduceLeDiff, reduceToNat, Nat.reduceBEq, tqA, r1, r5, r27, r28, r29, pD, lD]
          exact ⟨k - 1, by omega, i + 1, _, _, by omega, hns, hes2, rfl, mD, bD, gC.trans gD, by omega⟩
    · rw [List.take_of_length_le (by omega), List.drop_of_length_le (by omega), show namesB N [] = true from rfl] at hns
      rw [hns, Bool.true_and] at hgb
      simp (maxSteps := 10000000) (disch := omega) only [vqA, tagOf, reduceIte, reduceCtorEq, reduceEqDiff, reduceAdd, reduceSub, reduceMul, reduceLT, reduceLeDiff, reduceToNat, Nat.reduceBEq, tqA, r1, r5, r27, r28, r29, hbn]
      refine (diffs h' gr).mono ?_
      rintro u h3 ⟨g3, hds⟩
      obtain ⟨au, cu, rfl⟩ := hds.is
      simp (maxSteps := 10000000) (disch := omega) only [vqA, tagOf, reduceIte, reduceCtorEq, reduceEqDiff, reduceAdd, reduceSub, reduceMul, reduceLT, reduceLeDiff, reduceToNat, Nat.reduceBEq, tqA, r1, r5, r27, r28, r29]
      have hgb2 := hgb
      have hdl : b.diffs.length ≤ 100000001 := by unfold Bun.diffs; rw [List.length_append, List.length_map, List.length_singleton]; omega
      have gr3 := gr.trans g3
      refine r_loop (k := b.diffs.length) (fun k ρ h' => ∃ (i : Nat) (z : Int), i + k = b.diffs.length ∧ chainB 0 b.diffs = chainB z (b.diffs.drop i) ∧
        ρ 8 = .int .i64 z ∧ ρ 51 = .slice au b.diffs.length cu ∧ ρ 52 = .int .i64 b.diffs.length ∧ ρ 53 = .int .i64 (i : Int) ∧ Grow h3 h') ?_ ?_
      · rintro k ρ h' ⟨i, z, hk, hch, r8, r51, r52, r53, gr⟩
        unfold Gy_
        rcases Nat.lt_or_ge i b.diffs.length with hi | hi
        · have hr : b.diffs[i]? = some b.diffs[i] := List.getElem?_eq_getElem hi
          have hne : b.diffs ≠ [] := fun e => by rw [e] at hi; simp at hi
          obtain ⟨bb, o, c', he, hb, hel⟩ := hds.elems hne
          cases he
          obtain ⟨dv, hc, hdr⟩ := hel i _ hr
          rw [List.drop_eq_getElem_cons hi, chainB] at hch
          have hrl := hD _ (List.getElem_mem hi)
          generalize b.diffs[i] = d at hr hc hdr hch hrl
          obtain ⟨ad, cd, rfl⟩ := hdr.is
          have hg := gr.get bb hb
          rw [← hg] at hc
          have gB : ∀ a b, Grow h' ((h'.new a).set h'.next b) := fun a b => (Grow.new h' a).set (Nat.le_refl _) b
          simp (maxSteps := 10000000) (disch := omega) only [vqA, tagOf, reduceIte, reduceCtorEq, reduceEqDiff, reduceAdd, reduceSub, reduceMul, reduceLT, reduceLeDiff, reduceToNat, Nat.reduceBEq, tqA, r8, r51, r52, r53, hc]
          refine (good_ok d _ _ (hdr.grow (gr.trans (gB _ _))) hrl).mono ?_
          rintro u h4 ⟨g4, rfl⟩
          have m4 := (g4.get h'.next (by simp (maxSteps := 10000000) (disch := omega) only [vqA, tagOf, reduceIte, reduceCtorEq, reduceEqDiff, reduceAdd, reduceSub, reduceMul, reduceLT, reduceLeDiff, reduceToNat, Nat.reduceBEq, tqA]; omega)).trans (get_set_same _ _ _)
          have g34 := (gr.trans (gB _ _)).trans g4
          cases hgd : goodD d with
          | false =>
            rw [hgd, Bool.false_and] at hch
            rw [hch] at hgb2
            simp (maxSteps := 10000000) (disch := omega) only [vqA, tagOf, reduceIte, reduceCtorEq, reduceEqDiff, reduceAdd, reduceSub, reduceMul, reduceLT, reduceLeDiff, reduceToNat, Nat.reduceBEq, tqA, r8, r51, r52, r53]
            exact ⟨gr3.trans g34, by rw [hgb2]⟩
          | true =>
            rw [hgd, Bool.true_and] at hch
            by_cases hz : d.fr = z
            · rw [decide_eq_true hz, Bool.true_and] at hch
              simp (maxSteps := 10000000) (disch := omega) only [vqA, tagOf, reduceIte, reduceCtorEq, reduceEqDiff, reduceAdd, reduceSub, reduceMul, reduceLT, reduceLeDiff, reduceToNat, Nat.reduceBEq, tqA, r8, r51, r52, r53, m4]
              exact ⟨k - 1, by omega, i + 1, d.to, by omega, hch, rfl, rfl, g34⟩
            · rw [decide_eq_false hz, Bool.false_and] at hch
              rw [hch] at hgb2
              simp (maxSteps := 10000000) (disch := omega) only [vqA, tagOf, reduceIte, reduceCtorEq, reduceEqDiff, reduceAdd, reduceSub, reduceMul, reduceLT, reduceLeDiff, reduceToNat, Nat.reduceBEq, tqA, r8, r51, r52, r53, m4]
              exact ⟨gr3.trans g34, by rw [hgb2]⟩
        · rw [List.drop_of_length_le hi, show chainB z [] = true from rfl] at hch
          rw [hch] at hgb2
          simp (maxSteps := 10000000) (disch := omega) only [vqA, tagOf, reduceIte, reduceCtorEq, reduceEqDiff, reduceAdd, reduceSub, reduceMul, reduceLT, reduceLeDiff, reduceToNat, Nat.reduceBEq, tqA, r8, r51, r52, r53]
          exact ⟨gr3.trans gr, by rw [hgb2]⟩
      · exact ⟨0, 0, by omega, rfl, by simp (maxSteps := 10000000) (disch := omega) only [vqA, tagOf, reduceIte, reduceCtorEq, reduceEqDiff, reduceAdd, reduceSub, reduceMul, reduceLT, reduceLeDiff, reduceToNat, Nat.reduceBEq, tqA], by simp (maxSteps := 10000000) (disch := omega) only [vqA, tagOf, reduceIte, reduceCtorEq, reduceEqDiff, reduceAdd, reduceSub, reduceMul, reduceLT, reduceLeDiff, reduceToNat, Nat.reduceBEq, tqA], by simp (maxSteps := 10000000) (disch := omega) only [vqA, tagOf, reduceIte, reduceCtorEq, reduceEqDiff, reduceAdd, reduceSub, reduceMul, reduceLT, reduceLeDiff, reduceToNat, Nat.reduceBEq, tqA], by simp (maxSteps := 10000000) (disch := omega) only [vqA, tagOf, reduceIte, reduceCtorEq, reduceEqDiff, reduceAdd, reduceSub, reduceMul, reduceLT, reduceLeDiff, reduceToNat, Nat.reduceBEq, tqA]; rfl, .refl _⟩
  · exact ⟨0, [], 0, by omega, rfl, rfl, by simp (maxSteps := 10000000) (disch := omega) only [vqA, tagOf, reduceIte, reduceCtorEq, reduceEqDiff, reduceAdd, reduceSub, reduceMul, reduceLT, reduceLeDiff, reduceToNat, Nat.reduceBEq, tqA], by simp (maxSteps := 10000000) (disch := omega) only [vqA, tagOf, reduceIte, reduceCtorEq, reduceEqDiff, reduceAdd, reduceSub, reduceMul, reduceLT, reduceLeDiff, reduceToNat, Nat.reduceBEq, tqA], by simp (maxSteps := 10000000) (disch := omega) only [vqA, tagOf, reduceIte, reduceCtorEq, reduceEqDiff, reduceAdd, reduceSub, reduceMul, reduceLT, reduceLeDiff, reduceToNat, Nat.reduceBEq, tqA], by simp (maxSteps := 10000000) (disch := omega) only [vqA, tagOf, reduceIte, reduceCtorEq, reduceEqDiff, reduceAdd, reduceSub, reduceMul, reduceLT, reduceLeDiff, reduceToNat, Nat.reduceBEq, tqA], by simp (maxSteps := 10000000) (disch := omega) only [vqA, tagOf, reduceIte, reduceCtorEq, reduceEqDiff, reduceAdd, reduceSub, reduceMul, reduceLT, reduceLeDiff, reduceToNat, Nat.reduceBEq, tqA]; rfl, mm, m2, g02, by omega⟩
end Go.Proofs.Ytdmakachnphddaa.C
