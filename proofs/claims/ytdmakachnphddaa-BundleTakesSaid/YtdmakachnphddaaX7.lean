/- X7: a bundle's stream, as the document writes it. -/
import Derived.Test.YtdmakachnphddaaX6
open Nat (reduceEqDiff reduceAdd reduceSub reduceMul reduceLT reduceLeDiff)
open Int (reduceToNat)
open Go Go.Vi Go.Bm
namespace Go.Proofs.Ytdmakachnphddaa.C
set_option linter.unusedSimpArgs false
set_option maxRecDepth 100000
set_option maxHeartbeats 40000000
theorem refBunPut_ok (b : Bun) (v w : Value) (h : Heap) (hp : PRow h v b.parts) (hd : DRow h w b.last.recs) (hg : goodBun b = true) :
    Ret E FQ_ [.agg ⟨bunC b v w⟩] h (fun u h' => Grow h h' ∧ BRow h' u (putBun b)) := by
  refine ret_fun IC_ (by simp) ?_
  unfold Gp_
  have hbc : bunC b v w = [.int .i64 b.object, v, .int .i64 b.last.fr, .int .i64 b.last.to, w] := rfl
  rw [hbc]
  have gp := goodP_of hg
  have hL := gp.n
  obtain ⟨av, cv, rfl⟩ := hp.is
  obtain ⟨aw, cw, rfl⟩ := hd.is
  obtain ⟨hA, eA⟩ : ∃ y, y = h.new (.cells [.int .i64 b.object, .slice av b.parts.length cv, .int .i64 b.last.fr, .int .i64 b.last.to, .slice aw b.last.recs.length cw] true none) := ⟨_, rfl⟩
  have nA : hA.next = h.next + 1 := by rw [eA]; rfl
  obtain ⟨h0, e0⟩ : ∃ x, x = (hA.new (.cells [.int .u8 108, .int .u8 97, .int .u8 109, .int .u8 105, .int .u8 110, .int .u8 97, .int .u8 32, .int .u8 98, .int .u8 117, .int .u8 110, .int .u8 100, .int .u8 108, .int .u8 101, .int .u8 32, .int .u8 49] true none)).set hA.next (.cells [.int .u8 108, .int .u8 97, .int .u8 109, .int .u8 105, .int .u8 110, .int .u8 97, .int .u8 32, .int .u8 98, .int .u8 117, .int .u8 110, .int .u8 100, .int .u8 108, .int .u8 101, .int .u8 32, .int .u8 49] false none) := ⟨_, rfl⟩
  have hsm := fun cs => same_row (n := 15) (c := 15) (get_new_same hA (.cells cs true none))
  have gA : Grow h hA := by rw [eA]; exact .new h _
  have g0 : Grow h h0 := by rw [e0]; exact (gA.more _).set gA.next _
  have n0 : h0.next = h.next + 2 := by rw [e0]; show hA.next + 1 = _; omega
  have p0 : h0.get h.next = some (.cells [.int .i64 b.object, .slice av b.parts.length cv, .int .i64 b.last.fr, .int .i64 b.last.to, .slice aw b.last.recs.length cw] true none) := by rw [e0, get_set_ne (by omega), get_new_ne (by omega), eA, get_new_same]
  have pt : h0.get hA.next = some (.cells (titleB.map byteV) false none) := by rw [e0, get_set_same]; rfl
  have ht : BRow h0 (.slice (some ⟨hA.next, 0, none⟩) 15 15) titleB := RowV.own (z := 1) (n := 15) (c := 15) (by omega) (Nat.le_refl _) pt (by decide)
  have p1 : ∀ k : Heap, Grow h0 k → k.get h.next = some (.cells [.int .i64 b.object, .slice av b.parts.length cv, .int .i64 b.last.fr, .int .i64 b.last.to, .slice aw b.last.recs.length cw] true none) := fun k gk => (gk.get _ (by omega)).trans p0
  simp (maxSteps := 10000000) (disch := omega) only [vqA, tagOf, reduceIte, reduceCtorEq, reduceEqDiff, reduceAdd, reduceSub, reduceMul, reduceLT, reduceLeDiff, reduceToNat, Nat.reduceBEq, tqA]
  rw [← eA]
  rw [← nA]
  rw [hsm]
  rw [← e0]
  simp (maxSteps := 10000000) (disch := omega) only [vqA, tagOf, reduceIte, reduceCtorEq, reduceEqDiff, reduceAdd, reduceSub, reduceMul, reduceLT, reduceLeDiff, reduceToNat, Nat.reduceBEq, tqA]
  refine (refBytes_ok _ titleB h0 ht (by decide)).mono ?_
  rintro u1 h1 ⟨o1, g1⟩
  simp (maxSteps := 10000000) (disch := omega) only [vqA, tagOf, reduceIte, reduceCtorEq, reduceEqDiff, reduceAdd, reduceSub, reduceMul, reduceLT, reduceLeDiff, reduceToNat, Nat.reduceBEq, tqA, p1 h1 g1]
  refine (refNum_ok b.object h1).mono ?_
  rintro u2 h2 ⟨o2, g2⟩
  obtain ⟨w2, k2, a2, b2, c2, n2, _⟩ := cat_ok (o1.grow g2) (g1.trans g2) o2.row (by simp [bytesB, titleB, numB_len])
  simp (maxSteps := 10000000) (disch := omega) only [vqA, tagOf, reduceIte, reduceCtorEq, reduceEqDiff, reduceAdd, reduceSub, reduceMul, reduceLT, reduceLeDiff, reduceToNat, Nat.reduceBEq, tqA]
  rw [a2]
  simp (maxSteps := 10000000) (disch := omega) only [vqA, tagOf, reduceIte, reduceCtorEq, reduceEqDiff, reduceAdd, reduceSub, reduceMul, reduceLT, reduceLeDiff, reduceToNat, Nat.reduceBEq, tqA, p1 k2 c2]
  refine (refNum_ok b.parts.length k2).mono ?_
  rintro u3 h3 ⟨o3, g3⟩
  obtain ⟨w3, k3, a3, b3, c3, n3, _⟩ := cat_ok (b2.grow g3) (c2.trans g3) o3.row (by simp [bytesB, titleB, numB_len])
  simp (maxSteps := 10000000) (disch := omega) only [vqA, tagOf, reduceIte, reduceCtorEq, reduceEqDiff, reduceAdd, reduceSub, reduceMul, reduceLT, reduceLeDiff, reduceToNat, Nat.reduceBEq, tqA]
  rw [a3]
  have hh : (bytesB titleB ++ numB b.object) ++ numB b.parts.length = headBun b := by unfold headBun; simp
  rw [hh] at b3
  simp (maxSteps := 10000000) (disch := omega) only [vqA, tagOf, reduceIte, reduceCtorEq, reduceEqDiff, reduceAdd, reduceSub, reduceMul, reduceLT, reduceLeDiff, reduceToNat, Nat.reduceBEq, tqA, p1 k3 c3]
  have hp1 := hp.grow g0
  have hd1 := hd.grow g0
  have hpb : putBun b = headBun b ++ (b.parts.flatMap putP ++ (bytesB (putD b.last) ++ [66])) := rfl
  refine r_loop (k := b.parts.length) (fun k ρ h' => ∃ (i : Nat) (w : Value), i + k = b.parts.length ∧ ρ 1 = .pointer (some ⟨h.next, 0, none⟩) ∧ ρ 3 = w ∧ ρ 4 = .int .i64 (i : Int) ∧
    Own h0 h' 1 Te_ w ((headBun b ++ (b.parts.take i).flatMap putP).map byteV) ∧ Grow h0 h') ?_ ?_
  · rintro k ρ h' ⟨i, w, hk, r1, r3, r4, ow, g⟩
    unfold Gac_
    have hcap := parts_le gp i
    rcases Nat.lt_or_ge i b.parts.length with hi | hi
    · have hr : b.parts[i]? = some b.parts[i] := List.getElem?_eq_getElem hi
      have hne : b.parts ≠ [] := fun e => by rw [e] at hi; simp at hi
      obtain ⟨bb, o, c', he, hb, hel⟩ := hp1.elems hne
      cases he
      obtain ⟨dv, hc, hdr⟩ := hel i _ hr
      have hcap2 := parts_le gp (i + 1)
      have htk : (b.parts.take (i + 1)).flatMap putP = (b.parts.take i).flatMap putP ++ putP b.parts[i] := by rw [List.take_add_one, hr, List.flatMap_append]; simp
      have hgd := gp.diff _ (List.getElem_mem hi)
      have hgn := gp.name _ (List.getElem_mem hi)
      rw [htk, ← List.append_assoc] at hcap2
      have htk : headBun b ++ (b.parts.take (i + 1)).flatMap putP = (headBun b ++ (b.parts.take i).flatMap putP) ++ putP b.parts[i] := by rw [htk, List.append_assoc]
      generalize b.parts[i] = q at hr hc hdr htk hgd hgn hcap2
      obtain ⟨ad, cd, rfl⟩ := hdr.is
      have hpq : putP q = bytesB q.name ++ (flagB q.prot :: bytesB (putD q.diff)) := rfl
      have hpl : (putP q).length = 8 + q.name.length + (1 + (8 + (putD q.diff).length)) := by rw [hpq, List.length_append, List.length_cons, bytesB_len, bytesB_len]; omega
      rw [List.length_append, hpl] at hcap2
      generalize headBun b ++ (b.parts.take i).flatMap putP = A at ow hcap htk hcap2
      have at_ : ∀ k : Heap, Grow h0 k → cellAt (k.get bb) (o + i * 5) = some (.string (strOf q.name)) ∧ cellAt (k.get bb) (o + i * 5 + 1) = some (.bool q.prot) ∧ cellsAt (k.get bb) (o + i * 5 + 2) 3 = some [.int .i64 q.diff.fr, .int .i64 q.diff.to, .slice ad q.diff.recs.length cd] := fun k gk => by
        rw [gk.get bb hb]
        have c0 := cells_one1 (cells_sub (k := 0) (m := 1) hc (by decide))
        rw [Nat.add_zero] at c0
        exact ⟨c0, cells_one1 (cells_sub (k := 1) (m := 1) hc (by decide)), cells_sub (k := 2) (m := 3) hc (by decide)⟩
      obtain ⟨t0, _, _⟩ := at_ h' g
      simp (maxSteps := 10000000) (disch := omega) only [vqA, tagOf, reduceIte, reduceCtorEq, reduceEqDiff, reduceAdd, reduceSub, reduceMul, reduceLT, reduceLeDiff, reduceToNat, Nat.reduceBEq, tqA, r1, r3, r4, p1 h' g, t0]
      have hdn : BRow (h'.new (.cells (q.name.map byteV) true (some (1, Te_)))) (.slice (some ⟨h'.next, 0, none⟩) q.name.length q.name.length) q.name := by
        have := RowV.own (z := 1) (n := q.name.length) (c := q.name.length) (Nat.lt_succ_self _) (Nat.le_refl _) (get_new_same h' (.cells (q.name.map byteV) true (some (1, Te_)))) (by rw [List.length_map]; omega)
        rw [List.take_of_length_le (by rw [List.length_map]; omega)] at this
        exact this
      have gN := Grow.new h' (.cells (q.name.map byteV) true (some (1, Te_)))
      refine (refBytes_ok _ q.name _ hdn (by omega)).mono ?_
      rintro u4 h4 ⟨o4, g4⟩
      obtain ⟨w4, k4, a4, b4, c4, n4, _⟩ := cat_ok ((ow.grow gN).grow g4) ((g.trans gN).trans g4) o4.row (by rw [bytesB_len]; omega)
      simp (maxSteps := 10000000) (disch := omega) only [vqA, tagOf, reduceIte, reduceCtorEq, reduceEqDiff, reduceAdd, reduceSub, reduceMul, reduceLT, reduceLeDiff, reduceToNat, Nat.reduceBEq, tqA, r1, r3, r4]
      rw [a4]
      obtain ⟨_, t1, _⟩ := at_ k4 c4
      have l4 : (A ++ bytesB q.name).length = A.length + (8 + q.name.length) := by rw [List.length_append, bytesB_len]
      have fin : ∀ (fb : UInt8) (w5 : Value) (k5 : Heap), flagB q.prot = fb → Own h0 k5 1 Te_ w5 ((A ++ bytesB q.name ++ [fb]).map byteV) → Grow h0 k5 → ∀ (h6 h7 : Heap) (u6 u7 : Value), Grow k5 h6 → BRow h6 u6 (putD q.diff) → Own h6 h7 1 Te_ u7 ((bytesB (putD q.diff)).map byteV) → Grow h6 h7 → ∃ w8 k8, appendV E Tc_ (some Tc_) w5 u7 h7 = some (w8, k8) ∧ Own h0 k8 1 Te_ w8 ((headBun b ++ (b.parts.take (i + 1)).flatMap putP).map byteV) ∧ Grow h0 k8 := by
        intro fb w5 k5 hf o5 g5 h6 h7 u6 u7 g6 r6 o7 g7
        obtain ⟨w8, k8, a8, b8, c8, _, _⟩ := cat_ok ((o5.grow g6).grow g7) ((g5.trans g6).trans g7) o7.row (by rw [List.length_append, l4, bytesB_len, List.length_singleton]; omega)
        refine ⟨w8, k8, a8, ?_, c8⟩
        have e : A ++ putP q = A ++ bytesB q.name ++ [fb] ++ bytesB (putD q.diff) := by rw [hpq, hf]; simp
        rw [htk, e]
        exact b8
      cases hpv : q.prot with
      | true =>
        rw [hpv] at t1
        simp (maxSteps := 10000000) (disch := omega) only [vqA, tagOf, reduceIte, reduceCtorEq, reduceEqDiff, reduceAdd, reduceSub, reduceMul, reduceLT, reduceLeDiff, reduceToNat, Nat.reduceBEq, tqA, r1, r3, r4, p1 k4 c4, t1]
        obtain ⟨w5, k5, a5, b5, c5⟩ := push1 b4 c4 1 (by rw [l4]; omega)
        rw [show ((1 : UInt8).toNat : Int) = 1 from rfl] at a5
        rw [a5]
        obtain ⟨_, _, t2⟩ := at_ k5 c5
        simp (maxSteps := 10000000) (disch := omega) only [vqA, tagOf, reduceIte, reduceCtorEq, reduceEqDiff, reduceAdd, reduceSub, reduceMul, reduceLT, reduceLeDiff, reduceToNat, Nat.reduceBEq, tqA, r1, r3, r4, p1 k5 c5, t2]
        refine (refPut_ok q.diff _ k5 (hdr.grow c5) (by have := (recs_fit hgd).1; omega) hgd).mono ?_
        rintro u6 h6 ⟨g6, o6⟩
        simp (maxSteps := 10000000) (disch := omega) only [vqA, tagOf, reduceIte, reduceCtorEq, reduceEqDiff, reduceAdd, reduceSub, reduceMul, reduceLT, reduceLeDiff, reduceToNat, Nat.reduceBEq, tqA, r1, r3, r4]
        refine (refBytes_ok _ (putD q.diff) h6 o6.row (by have := putD_le hgd; omega)).mono ?_
        rintro u7 h7 ⟨o7, g7⟩
        obtain ⟨w8, k8, a8, b8, c8⟩ := fin 1 w5 k5 (by rw [hpv]; rfl) b5 c5 h6 h7 u6 u7 g6 o6.row o7 g7
        simp (maxSteps := 10000000) (disch := omega) only [vqA, tagOf, reduceIte, reduceCtorEq, reduceEqDiff, reduceAdd, reduceSub, reduceMul, reduceLT, reduceLeDiff, reduceToNat, Nat.reduceBEq, tqA, r1, r3, r4]
        rw [a8]
        simp (maxSteps := 10000000) (disch := omega) only [vqA, tagOf, reduceIte, reduceCtorEq, reduceEqDiff, reduceAdd, reduceSub, reduceMul, reduceLT, reduceLeDiff, reduceToNat, Nat.reduceBEq, tqA, r1, r3, r4]
        exact ⟨k - 1, by omega, i + 1, w8, by omega, rfl, rfl, b8, c8⟩
      | false =>
        rw [hpv] at t1
        simp (maxSteps := 10000000) (disch := omega) only [vqA, tagOf, reduceIte, reduceCtorEq, reduceEqDiff, reduceAdd, reduceSub, reduceMul, reduceLT, reduceLeDiff, reduceToNat, Nat.reduceBEq, tqA, r1, r3, r4, p1 k4 c4, t1]
        obtain ⟨w5, k5, a5, b5, c5⟩ := push1 b4 c4 0 (by rw [l4]; omega)
        rw [show ((0 : UInt8).toNat : Int) = 0 from rfl] at a5
        rw [a5]
        obtain ⟨_, _, t2⟩ := at_ k5 c5
        simp (maxSteps := 10000000) (disch := omega) only [vqA, tagOf, reduceIte, reduceCtorEq, reduceEqDiff, reduceAdd, reduceSub, reduceMul, reduceLT, reduceLeDiff, reduceToNat, Nat.reduceBEq, tqA, r1, r3, r4, p1 k5 c5, t2]
        refine (refPut_ok q.diff _ k5 (hdr.grow c5) (by have := (recs_fit hgd).1; omega) hgd).mono ?_
        rintro u6 h6 ⟨g6, o6⟩
        simp (maxSteps := 10000000) (disch := omega) only [vqA, tagOf, reduceIte, reduceCtorEq, reduceEqDiff, reduceAdd, reduceSub, reduceMul, reduceLT, reduceLeDiff, reduceToNat, Nat.reduceBEq, tqA, r1, r3, r4]
        refine (refBytes_ok _ (putD q.diff) h6 o6.row (by have := putD_le hgd; omega)).mono ?_
        rintro u7 h7 ⟨o7, g7⟩
        obtain ⟨w8, k8, a8, b8, c8⟩ := fin 0 w5 k5 (by rw [hpv]; rfl) b5 c5 h6 h7 u6 u7 g6 o6.row o7 g7
        simp (maxSteps := 10000000) (disch := omega) only [vqA, tagOf, reduceIte, reduceCtorEq, reduceEqDiff, reduceAdd, reduceSub, reduceMul, reduceLT, reduceLeDiff, reduceToNat, Nat.reduceBEq, tqA, r1, r3, r4]
        rw [a8]
        simp (maxSteps := 10000000) (disch := omega) only [vqA, tagOf, reduceIte, reduceCtorEq, reduceEqDiff, reduceAdd, reduceSub, reduceMul, reduceLT, reduceLeDiff, reduceToNat, Nat.reduceBEq, tqA, r1, r3, r4]
        exact ⟨k - 1, by omega, i + 1, w8, by omega, rfl, rfl, b8, c8⟩
    · rw [List.take_of_length_le hi] at ow hcap
      have pl := putD_le gp.last
      simp (maxSteps := 10000000) (disch := omega) only [vqA, tagOf, reduceIte, reduceCtorEq, reduceEqDiff, reduceAdd, reduceSub, reduceMul, reduceLT, reduceLeDiff, reduceToNat, Nat.reduceBEq, tqA, r1, r3, r4, p1 h' g]
      refine (refPut_ok b.last _ h' (hd1.grow g) (by have := (recs_fit gp.last).1; omega) gp.last).mono ?_
      rintro u6 h6 ⟨g6, o6⟩
      simp (maxSteps := 10000000) (disch := omega) only [vqA, tagOf, reduceIte, reduceCtorEq, reduceEqDiff, reduceAdd, reduceSub, reduceMul, reduceLT, reduceLeDiff, reduceToNat, Nat.reduceBEq, tqA, r1, r3, r4]
      refine (refBytes_ok _ (putD b.last) h6 o6.row (by omega)).mono ?_
      rintro u7 h7 ⟨o7, g7⟩
      obtain ⟨w8, k8, a8, b8, c8, _, _⟩ := cat_ok ((ow.grow g6).grow g7) ((g.trans g6).trans g7) o7.row (by rw [bytesB_len]; omega)
      simp (maxSteps := 10000000) (disch := omega) only [vqA, tagOf, reduceIte, reduceCtorEq, reduceEqDiff, reduceAdd, reduceSub, reduceMul, reduceLT, reduceLeDiff, reduceToNat, Nat.reduceBEq, tqA, r1, r3, r4]
      rw [a8]
      simp (maxSteps := 10000000) (disch := omega) only [vqA, tagOf, reduceIte, reduceCtorEq, reduceEqDiff, reduceAdd, reduceSub, reduceMul, reduceLT, reduceLeDiff, reduceToNat, Nat.reduceBEq, tqA]
      obtain ⟨w9, k9, a9, b9, c9⟩ := push1 b8 c8 66 (by rw [List.length_append, bytesB_len]; omega)
      rw [show ((66 : UInt8).toNat : Int) = 66 from rfl] at a9
      rw [a9]
      simp (maxSteps := 10000000) (disch := omega) only [vqA, tagOf, reduceIte, reduceCtorEq, reduceEqDiff, reduceAdd, reduceSub, reduceMul, reduceLT, reduceLeDiff, reduceToNat, Nat.reduceBEq, tqA]
      have e : putBun b = headBun b ++ b.parts.flatMap putP ++ bytesB (putD b.last) ++ [66] := by rw [hpb]; simp
      rw [e]
      exact ⟨g0.trans c9, b9.row⟩
  · exact ⟨0, w3, by omega, by simp (maxSteps := 10000000) (disch := omega) only [vqA, tagOf, reduceIte, reduceCtorEq, reduceEqDiff, reduceAdd, reduceSub, reduceMul, reduceLT, reduceLeDiff, reduceToNat, Nat.reduceBEq, tqA], by simp (maxSteps := 10000000) (disch := omega) only [vqA, tagOf, reduceIte, reduceCtorEq, reduceEqDiff, reduceAdd, reduceSub, reduceMul, reduceLT, reduceLeDiff, reduceToNat, Nat.reduceBEq, tqA], by simp (maxSteps := 10000000) (disch := omega) only [vqA, tagOf, reduceIte, reduceCtorEq, reduceEqDiff, reduceAdd, reduceSub, reduceMul, reduceLT, reduceLeDiff, reduceToNat, Nat.reduceBEq, tqA]; rfl, by simpa using b3, c3⟩
end Go.Proofs.Ytdmakachnphddaa.C
