/- W3: a diff's stream, as the program writes it. -/
import Derived.Test.YtdmakachnphddaaW2
import Derived.Test.YtdmakachnphddaaMa
open Nat (reduceEqDiff reduceAdd reduceSub reduceMul reduceLT reduceLeDiff)
open Int (reduceToNat)
open Go Go.Vi Go.Bm
namespace Go.Proofs.Ytdmakachnphddaa.C
set_option linter.unusedSimpArgs false
set_option maxRecDepth 100000
set_option maxHeartbeats 40000000
theorem BRow.far {h h1 : Heap} {p : Nat} {l : List UInt8} {d : Value} {m : List UInt8} (x : Wt h h1 p l) (r : BRow h d m) : Far h1 p d := by
  rcases r with ⟨rfl | rfl, _⟩ | ⟨b2, o2, n, c2, row, w, q, hb2, rfl, _⟩
  · exact .inr fun b hb => by cases hb
  · exact .inl rfl
  · refine .inr fun b hb => ?_
    obtain rfl : b2 = b := Option.some.inj hb
    have h1 := x.lt
    refine ⟨by omega, fun ⟨v, q1, q2⟩ => ?_⟩
    obtain ⟨v', e1, o, _⟩ := x.ex
    rw [q1] at e1
    cases e1
    have := (o.lt q2).1
    omega
theorem diffPut_ok (d : Dif) (v : Value) (h : Heap) (hd : DRow h v d.recs) (hL : d.recs.length ≤ 100000000) : Ret E Fv_ [.agg ⟨difC d v⟩] h (fun u h' => Grow h h' ∧ if goodD d = true then ∃ w, u = .tuple ⟨[w, .nilIface]⟩ ∧ BRow h' w (putD d) ∧ ∀ b, blkOf w = some b → h.next ≤ b else u = .tuple ⟨[.slice none 0 0, .iface TA_ (.int .i64 2)]⟩) := by
  refine ret_fun IP_ (by simp) ?_
  unfold GL_
  have hda : difC d v = [.int .i64 d.fr, .int .i64 d.to, v] := rfl
  have ov := hd.one
  rw [hda]
  simp (maxSteps := 10000000) (disch := omega) only [vqA, tagOf, reduceIte, reduceCtorEq, reduceEqDiff, reduceAdd, reduceSub, reduceMul, reduceLT, reduceLeDiff, reduceToNat, Nat.reduceBEq, tqA, ov]
  obtain ⟨h0, e0⟩ : ∃ x, x = h.new (.cells [.int .i64 d.fr, .int .i64 d.to, v] true none) := ⟨_, rfl⟩
  have g0 : Grow h h0 := by rw [e0]; exact .new h _
  have n0 : h0.next = h.next + 1 := by rw [e0]; rfl
  have p0 : h0.get h.next = some (.cells [.int .i64 d.fr, .int .i64 d.to, v] true none) := by rw [e0, get_new_same]
  rw [← e0]
  have go := fun Q => (good_ok d v h0 (hd.grow g0) hL).mono (Q' := Q)
  rw [hda] at go
  refine go _ ?_
  rintro u1 h1 ⟨g1, rfl⟩
  have n1 := g1.next
  have G1 := g0.trans g1
  cases hg : goodD d with
  | false =>
    simp (maxSteps := 10000000) (disch := omega) only [vqA, tagOf, reduceIte, reduceCtorEq, reduceEqDiff, reduceAdd, reduceSub, reduceMul, reduceLT, reduceLeDiff, reduceToNat, Nat.reduceBEq, tqA]
    exact G1
  | true =>
    obtain ⟨⟨f0, f1⟩, ⟨t0, t1⟩, hgl⟩ := good_of hg
    have hrl := recs_len hgl
    have p1 : ∀ k : Heap, Grow h1 k → k.get h.next = some (.cells [.int .i64 d.fr, .int .i64 d.to, v] true none) := fun k gk => ((g1.trans gk).get _ (by omega)).trans p0
    obtain ⟨av, cv, rfl⟩ := hd.is
    simp (maxSteps := 10000000) (disch := omega) only [vqA, tagOf, reduceIte, reduceCtorEq, reduceEqDiff, reduceAdd, reduceSub, reduceMul, reduceLT, reduceLeDiff, reduceToNat, Nat.reduceBEq, tqA]
    obtain ⟨hW, eW⟩ : ∃ x, x = h1.new (.cells [.slice none 0 0] true none) := ⟨_, rfl⟩
    have x0 : Wt h1 hW h1.next [] := by
      rw [eW]
      exact ⟨⟨_, get_new_same _ _, .nil _ _ _ _, fun e => by cases e⟩, ⟨Nat.le_refl _, Nat.lt_succ_self _⟩, .new h1 _⟩
    rw [← eW]
    refine (wtext_ok h1 hW h1.next [] titleD x0 (by decide)).mono ?_
    rintro u2 h2 ⟨x2, _⟩
    simp (maxSteps := 10000000) (disch := omega) only [vqA, tagOf, reduceIte, reduceCtorEq, reduceEqDiff, reduceAdd, reduceSub, reduceMul, reduceLT, reduceLeDiff, reduceToNat, Nat.reduceBEq, tqA, p1 h2 x2.g]
    refine (wnum_ok h1 h2 h1.next _ d.fr x2 (by simp [bytesB, numB_len, titleD])).mono ?_
    rintro u3 h3 ⟨x3, _⟩
    simp (maxSteps := 10000000) (disch := omega) only [vqA, tagOf, reduceIte, reduceCtorEq, reduceEqDiff, reduceAdd, reduceSub, reduceMul, reduceLT, reduceLeDiff, reduceToNat, Nat.reduceBEq, tqA, p1 h3 x3.g]
    refine (wnum_ok h1 h3 h1.next _ d.to x3 (by simp [bytesB, numB_len, titleD])).mono ?_
    rintro u4 h4 ⟨x4, _⟩
    simp (maxSteps := 10000000) (disch := omega) only [vqA, tagOf, reduceIte, reduceCtorEq, reduceEqDiff, reduceAdd, reduceSub, reduceMul, reduceLT, reduceLeDiff, reduceToNat, Nat.reduceBEq, tqA, p1 h4 x4.g]
    refine (wnum_ok h1 h4 h1.next _ d.recs.length x4 (by simp [bytesB, numB_len, titleD])).mono ?_
    rintro u5 h5 ⟨x5, _⟩
    have hh : (([] ++ bytesB titleD ++ numB d.fr) ++ numB d.to) ++ numB d.recs.length = headD d := by unfold headD; simp
    rw [hh] at x5
    simp (maxSteps := 10000000) (disch := omega) only [vqA, tagOf, reduceIte, reduceCtorEq, reduceEqDiff, reduceAdd, reduceSub, reduceMul, reduceLT, reduceLeDiff, reduceToNat, Nat.reduceBEq, tqA, p1 h5 x5.g]
    have hd1 := hd.grow G1
    refine r_loop (k := d.recs.length) (fun k ρ h' => ∃ (i : Nat), i + k = d.recs.length ∧ ρ 1 = .pointer (some ⟨h.next, 0, none⟩) ∧ ρ 4 = .pointer (some ⟨h1.next, 0, none⟩) ∧ ρ 29 = .slice av d.recs.length cv ∧ ρ 30 = .int .i64 d.recs.length ∧ ρ 31 = .int .i64 (i : Int) ∧
      Wt h1 h' h1.next (headD d ++ (d.recs.take i).flatMap putR)) ?_ ?_
    · rintro k ρ h' ⟨i, hk, r1, r4, r29, r30, r31, x⟩
      unfold Gx_
      rcases Nat.lt_or_ge i d.recs.length with hi | hi
      · have hr : d.recs[i]? = some d.recs[i] := List.getElem?_eq_getElem hi
        have hne : d.recs ≠ [] := fun e => by rw [e] at hi; simp at hi
        obtain ⟨b, o, c', he, hb, hel⟩ := hd1.elems hne
        cases he
        obtain ⟨dv, hc, hbr⟩ := hel i _ hr
        have o1 := hbr.one
        rw [← x.g.get b hb] at hc
        have htk : (d.recs.take (i + 1)).flatMap putR = (d.recs.take i).flatMap putR ++ putR d.recs[i] := by rw [List.take_add_one, hr, List.flatMap_append]; simp
        have hle : ((d.recs.take (i + 1)).flatMap putR).length ≤ (d.recs.flatMap putR).length := by
          conv => rhs; rw [← List.take_append_drop (i + 1) d.recs, List.flatMap_append, List.length_append]
          omega
        rw [htk, List.length_append] at hle
        have hgr := goodL_at hgl (Int.le_refl 0) _ (List.getElem_mem hi)
        generalize d.recs[i] = r at hr hc hbr htk hle hgr
        obtain ⟨k1, k2, k3, k4⟩ := hgr
        have hlx := x.lt
        have hcap : (headD d ++ (d.recs.take i).flatMap putR).length + (putR r).length ≤ 200000 := by rw [List.length_append, headD_len]; omega
        have hpr : putR r = numB r.at_ ++ (numB r.len ++ (flagB r.zero :: if r.zero then [] else bytesB r.data)) := rfl
        have hpl : (putR r).length = 17 + (if r.zero then [] else bytesB r.data).length := by rw [hpr]; simp [numB_len]; omega
        have htk : headD d ++ (d.recs.take (i + 1)).flatMap putR = (headD d ++ (d.recs.take i).flatMap putR) ++ putR r := by rw [htk, List.append_assoc]
        generalize headD d ++ (d.recs.take i).flatMap putR = A at x hcap htk
        simp (maxSteps := 10000000) (disch := omega) only [vqA, tagOf, reduceIte, reduceCtorEq, reduceEqDiff, reduceAdd, reduceSub, reduceMul, reduceLT, reduceLeDiff, reduceToNat, Nat.reduceBEq, tqA, r1, r4, r29, r30, r31, hc, o1]
        obtain ⟨hR, eR⟩ : ∃ y, y = (h'.new (.cells [.int .i64 0, .int .i64 0, .bool false, .slice none 0 0] true none)).set h'.next (.cells [.int .i64 r.at_, .int .i64 r.len, .bool r.zero, dv] true none) := ⟨_, rfl⟩
        have gR : Grow h' hR := by rw [eR]; exact (Grow.new h' _).set (Nat.le_refl _) _
        have nR : hR.next = h'.next + 1 := by rw [eR]; rfl
        have pR : hR.get h'.next = some (.cells [.int .i64 r.at_, .int .i64 r.len, .bool r.zero, dv] true none) := by rw [eR, get_set_same]
        have xR := x.grow gR
        have fR : ¬ Mine hR h1.next h'.next := fun ⟨u, q1, q2⟩ => by
          obtain ⟨v', e1, ow, _⟩ := x.ex
          rw [gR.get _ hlx.2, e1] at q1
          cases q1
          have := (ow.lt q2).2
          omega
        have kR : ∀ k : Heap, WF h1.next hR k → k.get h'.next = some (.cells [.int .i64 r.at_, .int .i64 r.len, .bool r.zero, dv] true none) := fun k f => (f.keep _ (by omega) (by omega) fR).trans pR
        rw [← eR]
        refine (wnum_ok h1 hR h1.next A r.at_ xR (by omega)).mono ?_
        rintro w6 h6 ⟨x6, f6⟩
        simp (maxSteps := 10000000) (disch := omega) only [vqA, tagOf, reduceIte, reduceCtorEq, reduceEqDiff, reduceAdd, reduceSub, reduceMul, reduceLT, reduceLeDiff, reduceToNat, Nat.reduceBEq, tqA, r1, r4, r29, r30, r31, kR h6 f6]
        refine (wnum_ok h1 h6 h1.next _ r.len x6 (by rw [List.length_append, numB_len]; omega)).mono ?_
        rintro w7 h7 ⟨x7, f7⟩
        have f7 := f6.trans f7
        simp (maxSteps := 10000000) (disch := omega) only [vqA, tagOf, reduceIte, reduceCtorEq, reduceEqDiff, reduceAdd, reduceSub, reduceMul, reduceLT, reduceLeDiff, reduceToNat, Nat.reduceBEq, tqA, r1, r4, r29, r30, r31, kR h7 f7]
        refine (wflag_ok h1 h7 h1.next _ r.zero x7 (by simp only [List.length_append, numB_len]; omega)).mono ?_
        rintro w8 h8 ⟨x8, f8⟩
        have f8 := f7.trans f8
        cases hz : r.zero with
        | true =>
          rw [hz] at kR x8 hpr
          simp (maxSteps := 10000000) (disch := omega) only [vqA, tagOf, reduceIte, reduceCtorEq, reduceEqDiff, reduceAdd, reduceSub, reduceMul, reduceLT, reduceLeDiff, reduceToNat, Nat.reduceBEq, tqA, r1, r4, r29, r30, r31, kR h8 f8]
          have e : A ++ putR r = A ++ numB r.at_ ++ numB r.len ++ [flagB true] := by rw [hpr]; simp
          exact ⟨k - 1, by omega, i + 1, by omega, rfl, by rw [htk, e]; exact x8⟩
        | false =>
          rw [hz] at kR x8 hpr hpl
          have hbl : (bytesB r.data).length = 8 + r.data.length := by unfold bytesB; rw [List.length_append, numB_len]
          rw [if_neg (by decide)] at hpl
          simp (maxSteps := 10000000) (disch := omega) only [vqA, tagOf, reduceIte, reduceCtorEq, reduceEqDiff, reduceAdd, reduceSub, reduceMul, reduceLT, reduceLeDiff, reduceToNat, Nat.reduceBEq, tqA, r1, r4, r29, r30, r31, kR h8 f8]
          refine (wbytes_ok h1 h8 h1.next _ r.data dv x8 (hbr.grow x8.g) (BRow.far x8 hbr) (by simp only [List.length_append, numB_len, List.length_singleton]; omega)).mono ?_
          rintro w9 h9 ⟨x9, f9⟩
          simp (maxSteps := 10000000) (disch := omega) only [vqA, tagOf, reduceIte, reduceCtorEq, reduceEqDiff, reduceAdd, reduceSub, reduceMul, reduceLT, reduceLeDiff, reduceToNat, Nat.reduceBEq, tqA, r1, r4, r29, r30, r31]
          have e : A ++ putR r = A ++ numB r.at_ ++ numB r.len ++ [flagB false] ++ bytesB r.data := by rw [hpr]; simp
          exact ⟨k - 1, by omega, i + 1, by omega, rfl, by rw [htk, e]; exact x9⟩
      · rw [List.take_of_length_le hi] at x
        simp (maxSteps := 10000000) (disch := omega) only [vqA, tagOf, reduceIte, reduceCtorEq, reduceEqDiff, reduceAdd, reduceSub, reduceMul, reduceLT, reduceLeDiff, reduceToNat, Nat.reduceBEq, tqA, r1, r4, r29, r30, r31]
        refine (wbyte_ok h1 h' h1.next _ 69 x (by rw [List.length_append, headD_len]; omega)).mono ?_
        rintro w6 h6 ⟨x6, f6⟩
        simp (maxSteps := 10000000) (disch := omega) only [vqA, tagOf, reduceIte, reduceCtorEq, reduceEqDiff, reduceAdd, reduceSub, reduceMul, reduceLT, reduceLeDiff, reduceToNat, Nat.reduceBEq, tqA, r1, r4, r29, r30, r31]
        refine (out_ok h1 h6 h1.next _ x6 (by rw [List.length_append, List.length_append, headD_len, List.length_singleton]; omega)).mono ?_
        rintro u h7 ⟨g7, q1, q2⟩
        simp (maxSteps := 10000000) (disch := omega) only [vqA, tagOf, reduceIte, reduceCtorEq, reduceEqDiff, reduceAdd, reduceSub, reduceMul, reduceLT, reduceLeDiff, reduceToNat, Nat.reduceBEq, tqA]
        have e : putD d = headD d ++ d.recs.flatMap putR ++ [69] := by unfold putD; rw [List.append_assoc]
        rw [e]
        have := x6.g.next
        have := G1.next
        exact ⟨G1.trans (x6.g.trans g7), u, rfl, q1, fun b hb => by have := q2 b hb; omega⟩
    · exact ⟨0, by omega, by simp (maxSteps := 10000000) (disch := omega) only [vqA, tagOf, reduceIte, reduceCtorEq, reduceEqDiff, reduceAdd, reduceSub, reduceMul, reduceLT, reduceLeDiff, reduceToNat, Nat.reduceBEq, tqA], by simp (maxSteps := 10000000) (disch := omega) only [vqA, tagOf, reduceIte, reduceCtorEq, reduceEqDiff, reduceAdd, reduceSub, reduceMul, reduceLT, reduceLeDiff, reduceToNat, Nat.reduceBEq, tqA], by simp (maxSteps := 10000000) (disch := omega) only [vqA, tagOf, reduceIte, reduceCtorEq, reduceEqDiff, reduceAdd, reduceSub, reduceMul, reduceLT, reduceLeDiff, reduceToNat, Nat.reduceBEq, tqA], by simp (maxSteps := 10000000) (disch := omega) only [vqA, tagOf, reduceIte, reduceCtorEq, reduceEqDiff, reduceAdd, reduceSub, reduceMul, reduceLT, reduceLeDiff, reduceToNat, Nat.reduceBEq, tqA], by simp (maxSteps := 10000000) (disch := omega) only [vqA, tagOf, reduceIte, reduceCtorEq, reduceEqDiff, reduceAdd, reduceSub, reduceMul, reduceLT, reduceLeDiff, reduceToNat, Nat.reduceBEq, tqA]; rfl, by simpa using x5⟩
end Go.Proofs.Ytdmakachnphddaa.C
