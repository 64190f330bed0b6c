/- X6: a bundle's stream, as the program writes it. -/
import Derived.Test.YtdmakachnphddaaX5
open Nat (reduceEqDiff reduceAdd reduceSub reduceMul reduceLT reduceLeDiff)
open Int (reduceToNat)
open Go Go.Vi Go.Bm
namespace Go.Proofs.Ytdmakachnphddaa.C
set_option linter.unusedSimpArgs false
set_option maxRecDepth 100000
set_option maxHeartbeats 40000000
theorem stream_ok (h0 h : Heap) (p : Nat) (l : List UInt8) (d : Dif) (v : Value) (x : Wt h0 h p l) (hd : DRow h v d.recs) (hg : goodD d = true) (hl : l.length ≤ 90000000) :
    Ret E Fr_ [.pointer (some ⟨p, 0, none⟩), .agg ⟨difC d v⟩] h (fun u h' => u = .nilIface ∧ Wt h0 h' p (l ++ bytesB (putD d)) ∧ WF p h h') := by
  refine ret_fun Ir_ (by simp) ?_
  unfold Gap_
  have hda : difC d v = [.int .i64 d.fr, .int .i64 d.to, v] := rfl
  have hrl := (recs_fit hg).1
  have hpl := putD_le hg
  obtain ⟨av, cv, rfl⟩ := hd.is
  have go := fun k g Q => (diffPut_ok d _ k (hd.grow g) (by omega)).mono (Q' := Q)
  rw [hda] at go ⊢
  have gB := Grow.new h (.cells [.int .i64 d.fr, .int .i64 d.to, .slice av d.recs.length cv] true none)
  simp (maxSteps := 10000000) (disch := omega) only [vqA, tagOf, reduceIte, reduceCtorEq, reduceEqDiff, reduceAdd, reduceSub, reduceMul, reduceLT, reduceLeDiff, reduceToNat, Nat.reduceBEq, tqA]
  refine go _ gB _ ?_
  rintro u h2 ⟨g2, hq⟩
  rw [hg, if_pos rfl] at hq
  obtain ⟨wv, rfl, hrow, hfr⟩ := hq
  have g02 := gB.trans g2
  have hlt := x.lt
  have hfar : Far h2 p wv := .inr fun b hb => by
    have h1 := hfr b hb
    have h1 : h.next + 1 ≤ b := h1
    refine ⟨by omega, fun ⟨u, q1, q2⟩ => ?_⟩
    obtain ⟨v', e1, o, _⟩ := x.ex
    rw [g02.get _ hlt.2, e1] at q1
    cases q1
    have := (o.lt q2).2
    omega
  simp (maxSteps := 10000000) (disch := omega) only [vqA, tagOf, reduceIte, reduceCtorEq, reduceEqDiff, reduceAdd, reduceSub, reduceMul, reduceLT, reduceLeDiff, reduceToNat, Nat.reduceBEq, tqA]
  refine (wbytes_ok h0 h2 p l (putD d) wv (x.grow g02) hrow hfar (by omega)).mono ?_
  rintro u h3 ⟨x3, f3⟩
  simp (maxSteps := 10000000) (disch := omega) only [vqA, tagOf, reduceIte, reduceCtorEq, reduceEqDiff, reduceAdd, reduceSub, reduceMul, reduceLT, reduceLeDiff, reduceToNat, Nat.reduceBEq, tqA]
  exact ⟨x3, (WF.of hlt.2 g02).trans f3⟩
theorem bunPut_ok (b : Bun) (v w : Value) (h : Heap) (hp : PRow h v b.parts) (hd : DRow h w b.last.recs) (hL : b.parts.length ≤ 100000000) (hN : ∀ p ∈ b.parts, PartOk p) (hl : b.last.recs.length ≤ 100000000) :
    Ret E F5_ [.agg ⟨bunC b v w⟩] h (fun u h' => Grow h h' ∧ if goodBun b = true then ∃ x, u = .tuple ⟨[x, .nilIface]⟩ ∧ BRow h' x (putBun b) ∧ ∀ c, blkOf x = some c → h.next ≤ c else u = .tuple ⟨[.slice none 0 0, .iface TA_ (.int .i64 2)]⟩) := by
  refine ret_fun IS_ (by simp) ?_
  unfold Gg_
  have hbc : bunC b v w = [.int .i64 b.object, v, .int .i64 b.last.fr, .int .i64 b.last.to, w] := rfl
  have good := fun k g Q => (bunGood_ok b v w k (hp.grow g) (hd.grow g) hL hN hl).mono (Q' := Q)
  rw [hbc] at good ⊢
  obtain ⟨av, cv, rfl⟩ := hp.is
  obtain ⟨aw, cw, rfl⟩ := hd.is
  obtain ⟨h0, e0⟩ : ∃ y, y = h.new (.cells [.int .i64 b.object, .slice av b.parts.length cv, .int .i64 b.last.fr, .int .i64 b.last.to, .slice aw b.last.recs.length cw] true none) := ⟨_, rfl⟩
  have g0 : Grow h h0 := by rw [e0]; exact .new h _
  have m0 : h0.get h.next = some (.cells [.int .i64 b.object, .slice av b.parts.length cv, .int .i64 b.last.fr, .int .i64 b.last.to, .slice aw b.last.recs.length cw] true none) := by rw [e0, get_new_same]
  have n0 : h0.next = h.next + 1 := by rw [e0]; rfl
  simp (maxSteps := 10000000) (disch := omega) only [vqA, tagOf, reduceIte, reduceCtorEq, reduceEqDiff, reduceAdd, reduceSub, reduceMul, reduceLT, reduceLeDiff, reduceToNat, Nat.reduceBEq, tqA]
  rw [← e0]
  refine good h0 g0 _ ?_
  rintro u h1 ⟨g1, rfl⟩
  have G1 := g0.trans g1
  have n1 := g1.next
  cases hg : goodBun b with
  | false =>
    simp (maxSteps := 10000000) (disch := omega) only [vqA, tagOf, reduceIte, reduceCtorEq, reduceEqDiff, reduceAdd, reduceSub, reduceMul, reduceLT, reduceLeDiff, reduceToNat, Nat.reduceBEq, tqA]
    exact G1
  | true =>
  have gp := goodP_of hg
  have p1 : ∀ k : Heap, Grow h1 k → k.get h.next = some (.cells [.int .i64 b.object, .slice av b.parts.length cv, .int .i64 b.last.fr, .int .i64 b.last.to, .slice aw b.last.recs.length cw] true none) := fun k gk => ((g1.trans gk).get _ (by omega)).trans m0
  simp (maxSteps := 10000000) (disch := omega) only [vqA, tagOf, reduceIte, reduceCtorEq, reduceEqDiff, reduceAdd, reduceSub, reduceMul, reduceLT, reduceLeDiff, reduceToNat, Nat.reduceBEq, tqA]
  obtain ⟨hW, eW⟩ : ∃ x, x = h1.new (.cells [.slice none 0 0] true none) := ⟨_, rfl⟩
  have x0 : Wt h1 hW h1.next [] := by
    rw [eW]
    exact ⟨⟨_, get_new_same _ _, .nil _ _ _ _, fun e => by cases e⟩, ⟨Nat.le_refl _, Nat.lt_succ_self _⟩, .new h1 _⟩
  rw [← eW]
  refine (wtext_ok h1 hW h1.next [] titleB x0 (by decide)).mono ?_
  rintro u2 h2 ⟨x2, _⟩
  simp (maxSteps := 10000000) (disch := omega) only [vqA, tagOf, reduceIte, reduceCtorEq, reduceEqDiff, reduceAdd, reduceSub, reduceMul, reduceLT, reduceLeDiff, reduceToNat, Nat.reduceBEq, tqA, p1 h2 x2.g]
  refine (wnum_ok h1 h2 h1.next _ b.object x2 (by simp [bytesB, numB_len, titleB])).mono ?_
  rintro u3 h3 ⟨x3, _⟩
  simp (maxSteps := 10000000) (disch := omega) only [vqA, tagOf, reduceIte, reduceCtorEq, reduceEqDiff, reduceAdd, reduceSub, reduceMul, reduceLT, reduceLeDiff, reduceToNat, Nat.reduceBEq, tqA, p1 h3 x3.g]
  refine (wnum_ok h1 h3 h1.next _ b.parts.length x3 (by simp [bytesB, numB_len, titleB])).mono ?_
  rintro u4 h4 ⟨x4, _⟩
  have hh : ([] ++ bytesB titleB ++ numB b.object) ++ numB b.parts.length = headBun b := by unfold headBun; simp
  rw [hh] at x4
  simp (maxSteps := 10000000) (disch := omega) only [vqA, tagOf, reduceIte, reduceCtorEq, reduceEqDiff, reduceAdd, reduceSub, reduceMul, reduceLT, reduceLeDiff, reduceToNat, Nat.reduceBEq, tqA, p1 h4 x4.g]
  have hp1 := hp.grow G1
  have hd1 := hd.grow G1
  have hpb : putBun b = headBun b ++ (b.parts.flatMap putP ++ (bytesB (putD b.last) ++ [66])) := rfl
  refine r_loop (k := b.parts.length) (fun k ρ h' => ∃ (i : Nat), i + k = b.parts.length ∧ ρ 1 = .pointer (some ⟨h.next, 0, none⟩) ∧ ρ 4 = .pointer (some ⟨h1.next, 0, none⟩) ∧ ρ 27 = .slice av b.parts.length cv ∧ ρ 28 = .int .i64 b.parts.length ∧ ρ 29 = .int .i64 (i : Int) ∧
    Wt h1 h' h1.next (headBun b ++ (b.parts.take i).flatMap putP)) ?_ ?_
  · rintro k ρ h' ⟨i, hk, r1, r4, r27, r28, r29, x⟩
    unfold Gan_
    have hcap := parts_le gp i
    have hlx := x.lt
    rcases Nat.lt_or_ge i b.parts.length with hi | hi
    · have hr : b.parts[i]? = some b.parts[i] := List.getElem?_eq_getElem hi
      have hne : b.parts ≠ [] := fun e => by rw [e] at hi; simp at hi
      obtain ⟨bb, o, c', he, hb, hel⟩ := hp1.elems hne
      cases he
      obtain ⟨dv, hc, hdr⟩ := hel i _ hr
      have hcap2 := parts_le gp (i + 1)
      rw [← x.g.get bb hb] at hc
      have htk : (b.parts.take (i + 1)).flatMap putP = (b.parts.take i).flatMap putP ++ putP b.parts[i] := by rw [List.take_add_one, hr, List.flatMap_append]; simp
      have hgd := gp.diff _ (List.getElem_mem hi)
      have hgn := gp.name _ (List.getElem_mem hi)
      rw [htk, ← List.append_assoc] at hcap2
      have htk : headBun b ++ (b.parts.take (i + 1)).flatMap putP = (headBun b ++ (b.parts.take i).flatMap putP) ++ putP b.parts[i] := by rw [htk, List.append_assoc]
      generalize b.parts[i] = q at hr hc hdr htk hgd hgn hcap2
      obtain ⟨ad, cd, rfl⟩ := hdr.is
      have hpq : putP q = bytesB q.name ++ (flagB q.prot :: bytesB (putD q.diff)) := rfl
      have hpl : (putP q).length = 8 + q.name.length + (1 + (8 + (putD q.diff).length)) := by rw [hpq, List.length_append, List.length_cons, bytesB_len, bytesB_len]; omega
      rw [List.length_append, hpl] at hcap2
      generalize headBun b ++ (b.parts.take i).flatMap putP = A at x hcap htk hcap2
      obtain ⟨hR, eR⟩ : ∃ y, y = (h'.new (.cells [.string (strOf []), .bool false, .int .i64 0, .int .i64 0, .slice none 0 0] true none)).set h'.next (.cells [.string (strOf q.name), .bool q.prot, .int .i64 q.diff.fr, .int .i64 q.diff.to, .slice ad q.diff.recs.length cd] true none) := ⟨_, rfl⟩
      have gR : Grow h' hR := by rw [eR]; exact (Grow.new h' _).set (Nat.le_refl _) _
      have nR : hR.next = h'.next + 1 := by rw [eR]; rfl
      have pR : hR.get h'.next = some (.cells [.string (strOf q.name), .bool q.prot, .int .i64 q.diff.fr, .int .i64 q.diff.to, .slice ad q.diff.recs.length cd] true none) := by rw [eR, get_set_same]
      have xR := x.grow gR
      have fR : ¬ Mine hR h1.next h'.next := fun ⟨u, q1, q2⟩ => by
        obtain ⟨v', e1, ow, _⟩ := x.ex
        rw [gR.get _ hlx.2, e1] at q1
        cases q1
        have := (ow.lt q2).2
        omega
      have kR : ∀ k : Heap, WF h1.next hR k → k.get h'.next = some (.cells [.string (strOf q.name), .bool q.prot, .int .i64 q.diff.fr, .int .i64 q.diff.to, .slice ad q.diff.recs.length cd] true none) := fun k f => (f.keep _ (by omega) (by omega) fR).trans pR
      simp (maxSteps := 10000000) (disch := omega) only [vqA, tagOf, reduceIte, reduceCtorEq, reduceEqDiff, reduceAdd, reduceSub, reduceMul, reduceLT, reduceLeDiff, reduceToNat, Nat.reduceBEq, tqA, r1, r4, r27, r28, r29, hc]
      rw [← eR]
      refine (wtext_ok h1 hR h1.next A q.name xR (by omega)).mono ?_
      rintro w6 h6 ⟨x6, f6⟩
      simp (maxSteps := 10000000) (disch := omega) only [vqA, tagOf, reduceIte, reduceCtorEq, reduceEqDiff, reduceAdd, reduceSub, reduceMul, reduceLT, reduceLeDiff, reduceToNat, Nat.reduceBEq, tqA, r1, r4, r27, r28, r29, kR h6 f6]
      refine (wflag_ok h1 h6 h1.next _ q.prot x6 (by rw [List.length_append, bytesB_len]; omega)).mono ?_
      rintro w7 h7 ⟨x7, f7⟩
      have f7 := f6.trans f7
      simp (maxSteps := 10000000) (disch := omega) only [vqA, tagOf, reduceIte, reduceCtorEq, reduceEqDiff, reduceAdd, reduceSub, reduceMul, reduceLT, reduceLeDiff, reduceToNat, Nat.reduceBEq, tqA, r1, r4, r27, r28, r29, kR h7 f7]
      refine (stream_ok h1 h7 h1.next _ q.diff _ x7 (hdr.grow x7.g) hgd (by rw [List.length_append, List.length_append, bytesB_len, List.length_singleton]; omega)).mono ?_
      rintro w8 h8 ⟨rfl, x8, f8⟩
      simp (maxSteps := 10000000) (disch := omega) only [vqA, tagOf, reduceIte, reduceCtorEq, reduceEqDiff, reduceAdd, reduceSub, reduceMul, reduceLT, reduceLeDiff, reduceToNat, Nat.reduceBEq, tqA, r1, r4, r27, r28, r29]
      have e : A ++ putP q = A ++ bytesB q.name ++ [flagB q.prot] ++ bytesB (putD q.diff) := by rw [hpq]; simp
      exact ⟨k - 1, by omega, i + 1, by omega, rfl, by rw [htk, e]; exact x8⟩
    · rw [List.take_of_length_le hi] at x hcap
      have pl := putD_le gp.last
      simp (maxSteps := 10000000) (disch := omega) only [vqA, tagOf, reduceIte, reduceCtorEq, reduceEqDiff, reduceAdd, reduceSub, reduceMul, reduceLT, reduceLeDiff, reduceToNat, Nat.reduceBEq, tqA, r1, r4, r27, r28, r29, p1 h' x.g]
      refine (stream_ok h1 h' h1.next _ b.last _ x (hd1.grow x.g) gp.last (by omega)).mono ?_
      rintro w6 h6 ⟨rfl, x6, f6⟩
      simp (maxSteps := 10000000) (disch := omega) only [vqA, tagOf, reduceIte, reduceCtorEq, reduceEqDiff, reduceAdd, reduceSub, reduceMul, reduceLT, reduceLeDiff, reduceToNat, Nat.reduceBEq, tqA, r1, r4, r27, r28, r29]
      refine (wbyte_ok h1 h6 h1.next _ 66 x6 (by rw [List.length_append, bytesB_len]; omega)).mono ?_
      rintro w7 h7 ⟨x7, f7⟩
      simp (maxSteps := 10000000) (disch := omega) only [vqA, tagOf, reduceIte, reduceCtorEq, reduceEqDiff, reduceAdd, reduceSub, reduceMul, reduceLT, reduceLeDiff, reduceToNat, Nat.reduceBEq, tqA, r1, r4, r27, r28, r29]
      refine (out_ok h1 h7 h1.next _ x7 (by rw [List.length_append, List.length_append, bytesB_len, List.length_singleton]; omega)).mono ?_
      rintro u h8 ⟨g8, q1, q2⟩
      simp (maxSteps := 10000000) (disch := omega) only [vqA, tagOf, reduceIte, reduceCtorEq, reduceEqDiff, reduceAdd, reduceSub, reduceMul, reduceLT, reduceLeDiff, reduceToNat, Nat.reduceBEq, tqA]
      have e : putBun b = headBun b ++ b.parts.flatMap putP ++ bytesB (putD b.last) ++ [66] := by rw [hpb]; simp
      rw [e]
      have := x7.g.next
      have := G1.next
      exact ⟨G1.trans (x7.g.trans g8), u, rfl, q1, fun b hb => by have := q2 b hb; omega⟩
  · exact ⟨0, by omega, by simp (maxSteps := 10000000) (disch := omega) only [vqA, tagOf, reduceIte, reduceCtorEq, reduceEqDiff, reduceAdd, reduceSub, reduceMul, reduceLT, reduceLeDiff, reduceToNat, Nat.reduceBEq, tqA], by simp (maxSteps := 10000000) (disch := omega) only [vqA, tagOf, reduceIte, reduceCtorEq, reduceEqDiff, reduceAdd, reduceSub, reduceMul, reduceLT, reduceLeDiff, reduceToNat, Nat.reduceBEq, tqA], by simp (maxSteps := 10000000) (disch := omega) only [vqA, tagOf, reduceIte, reduceCtorEq, reduceEqDiff, reduceAdd, reduceSub, reduceMul, reduceLT, reduceLeDiff, reduceToNat, Nat.reduceBEq, tqA], by simp (maxSteps := 10000000) (disch := omega) only [vqA, tagOf, reduceIte, reduceCtorEq, reduceEqDiff, reduceAdd, reduceSub, reduceMul, reduceLT, reduceLeDiff, reduceToNat, Nat.reduceBEq, tqA], by simp (maxSteps := 10000000) (disch := omega) only [vqA, tagOf, reduceIte, reduceCtorEq, reduceEqDiff, reduceAdd, reduceSub, reduceMul, reduceLT, reduceLeDiff, reduceToNat, Nat.reduceBEq, tqA]; rfl, by simpa using x4⟩
end Go.Proofs.Ytdmakachnphddaa.C
