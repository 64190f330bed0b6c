/- W4: a diff's stream, as the document writes it. -/
import Derived.Test.YtdmakachnphddaaW3
open Nat (reduceEqDiff reduceAdd reduceSub reduceMul reduceLT reduceLeDiff)
open Int (reduceToNat)
open Go Go.Vi Go.Bm
namespace Go.Proofs.Ytdmakachnphddaa.C
set_option linter.unusedSimpArgs false
set_option maxRecDepth 100000
set_option maxHeartbeats 40000000
theorem cat_ok {h0 h : Heap} {w x : Value} {l m : List UInt8} (o : Own h0 h 1 Te_ w (l.map byteV)) (g : Grow h0 h) (r : BRow h x m) (hl : l.length + m.length ≤ 100000000) :
    ∃ w' h', appendV E Tc_ (some Tc_) w x h = some (w', h') ∧ Own h0 h' 1 Te_ w' ((l ++ m).map byteV) ∧ Grow h0 h' ∧ h.next ≤ h'.next ∧ ∀ c, c < h.next → blkOf w ≠ some c → h'.get c = h.get c ∧ blkOf w' ≠ some c := by
  obtain ⟨w', h', q1, q2, q3, q4, q5, q6⟩ := own_add Sa_ okSrc_bytes o g r (bytes_one m) (by simp only [List.length_map]; omega) (by decide)
  refine ⟨w', h', q1, by rw [List.map_append]; exact q2, q3, q4, fun c hc hne => ⟨q6 c hc hne, ?_⟩⟩
  rcases q5 with e | e
  · rw [e]; exact hne
  · rw [e]; intro q; have := Option.some.inj q; omega
theorem same_row {h : Heap} {b n c : Nat} {cs : List Value} (hg : h.get b = some (.cells cs true none)) : sameV E Tc_ (.slice (some ⟨b, 0, none⟩) n c) h = some (.slice (some ⟨b, 0, none⟩) n c, h.set b (.cells cs false none)) := by
  unfold sameV
  rw [show E.ty Tc_ = some ((E.ty Tc_).getD dTy) from by kernel_rfl]
  simp only [Option.bind_eq_bind, Option.bind_some]
  rw [show ((E.ty Tc_).getD dTy).under = .slice Te_ from by kernel_rfl]
  simp only []
  rw [show E.ty Te_ = some ((E.ty Te_).getD dTy) from by kernel_rfl]
  simp only [Option.bind_some]
  rw [show ((E.ty Te_).getD dTy).under = .int .u8 from by kernel_rfl, hg]
  rfl
theorem refPut_ok (d : Dif) (v : Value) (h : Heap) (hd : DRow h v d.recs) (hL : d.recs.length ≤ 100000000) (hg : goodD d = true) : Ret E Fi_ [.agg ⟨difC d v⟩] h (fun u h' => Grow h h' ∧ Own h h' 1 Te_ u ((putD d).map byteV)) := by
  refine ret_fun I7_ (by simp) ?_
  unfold GD_
  have hda : difC d v = [.int .i64 d.fr, .int .i64 d.to, v] := rfl
  have ov := hd.one
  obtain ⟨⟨f0, f1⟩, ⟨t0, t1⟩, hgl⟩ := good_of hg
  have hrl := recs_len hgl
  rw [hda]
  obtain ⟨av, cv, rfl⟩ := hd.is
  have hsm := fun cs => same_row (n := 13) (c := 13) (get_new_same (h.new (.cells [.int .i64 d.fr, .int .i64 d.to, .slice av d.recs.length cv] true none)) (.cells cs true none))
  simp only [show ∀ b, (h.new b).next = h.next + 1 from fun _ => rfl] at hsm
  simp (maxSteps := 10000000) (disch := omega) only [vqA, tagOf, reduceIte, reduceCtorEq, reduceEqDiff, reduceAdd, reduceSub, reduceMul, reduceLT, reduceLeDiff, reduceToNat, Nat.reduceBEq, tqA, ov, hsm]
  obtain ⟨h0, e0⟩ : ∃ x, x = ((h.new (.cells [.int .i64 d.fr, .int .i64 d.to, .slice av d.recs.length cv] true none)).new (.cells [.int .u8 108, .int .u8 97, .int .u8 109, .int .u8 105, .int .u8 110, .int .u8 97, .int .u8 32, .int .u8 100, .int .u8 105, .int .u8 102, .int .u8 102, .int .u8 32, .int .u8 49] true none)).set (h.next + 1) (.cells [.int .u8 108, .int .u8 97, .int .u8 109, .int .u8 105, .int .u8 110, .int .u8 97, .int .u8 32, .int .u8 100, .int .u8 105, .int .u8 102, .int .u8 102, .int .u8 32, .int .u8 49] false none) := ⟨_, rfl⟩
  have g0 : Grow h h0 := by rw [e0]; exact ((Grow.new h _).more _).set (Nat.le_succ _) _
  have n0 : h0.next = h.next + 2 := by rw [e0]; rfl
  have p0 : h0.get h.next = some (.cells [.int .i64 d.fr, .int .i64 d.to, .slice av d.recs.length cv] true none) := by rw [e0]; simp (maxSteps := 10000000) (disch := omega) only [vqA, tagOf, reduceIte, reduceCtorEq, reduceEqDiff, reduceAdd, reduceSub, reduceMul, reduceLT, reduceLeDiff, reduceToNat, Nat.reduceBEq, tqA]
  have pt : h0.get (h.next + 1) = some (.cells (titleD.map byteV) false none) := by rw [e0]; simp (maxSteps := 10000000) (disch := omega) only [vqA, tagOf, reduceIte, reduceCtorEq, reduceEqDiff, reduceAdd, reduceSub, reduceMul, reduceLT, reduceLeDiff, reduceToNat, Nat.reduceBEq, tqA]; rfl
  have ht : BRow h0 (.slice (some ⟨h.next + 1, 0, none⟩) 13 13) titleD := RowV.own (z := 1) (n := 13) (c := 13) (by omega) (Nat.le_refl _) pt (by decide)
  have p1 : ∀ k : Heap, Grow h0 k → k.get h.next = some (.cells [.int .i64 d.fr, .int .i64 d.to, .slice av d.recs.length cv] true none) := fun k gk => (gk.get _ (by omega)).trans p0
  rw [← e0]
  refine (refBytes_ok _ titleD h0 ht (by decide)).mono ?_
  rintro u1 h1 ⟨o1, g1⟩
  simp (maxSteps := 10000000) (disch := omega) only [vqA, tagOf, reduceIte, reduceCtorEq, reduceEqDiff, reduceAdd, reduceSub, reduceMul, reduceLT, reduceLeDiff, reduceToNat, Nat.reduceBEq, tqA, p1 h1 g1]
  refine (refNum_ok d.fr h1).mono ?_
  rintro u2 h2 ⟨o2, g2⟩
  obtain ⟨w2, k2, a2, b2, c2, n2, _⟩ := cat_ok (o1.grow g2) (g1.trans g2) o2.row (by simp [bytesB, titleD, numB_len])
  simp (maxSteps := 10000000) (disch := omega) only [vqA, tagOf, reduceIte, reduceCtorEq, reduceEqDiff, reduceAdd, reduceSub, reduceMul, reduceLT, reduceLeDiff, reduceToNat, Nat.reduceBEq, tqA]
  rw [a2]
  simp (maxSteps := 10000000) (disch := omega) only [vqA, tagOf, reduceIte, reduceCtorEq, reduceEqDiff, reduceAdd, reduceSub, reduceMul, reduceLT, reduceLeDiff, reduceToNat, Nat.reduceBEq, tqA, p1 k2 c2]
  refine (refNum_ok d.to k2).mono ?_
  rintro u3 h3 ⟨o3, g3⟩
  obtain ⟨w3, k3, a3, b3, c3, n3, _⟩ := cat_ok (b2.grow g3) (c2.trans g3) o3.row (by simp [bytesB, titleD, numB_len])
  simp (maxSteps := 10000000) (disch := omega) only [vqA, tagOf, reduceIte, reduceCtorEq, reduceEqDiff, reduceAdd, reduceSub, reduceMul, reduceLT, reduceLeDiff, reduceToNat, Nat.reduceBEq, tqA]
  rw [a3]
  simp (maxSteps := 10000000) (disch := omega) only [vqA, tagOf, reduceIte, reduceCtorEq, reduceEqDiff, reduceAdd, reduceSub, reduceMul, reduceLT, reduceLeDiff, reduceToNat, Nat.reduceBEq, tqA, p1 k3 c3]
  refine (refNum_ok d.recs.length k3).mono ?_
  rintro u4 h4 ⟨o4, g4⟩
  obtain ⟨w4, k4, a4, b4, c4, n4, _⟩ := cat_ok (b3.grow g4) (c3.trans g4) o4.row (by simp [bytesB, titleD, numB_len])
  simp (maxSteps := 10000000) (disch := omega) only [vqA, tagOf, reduceIte, reduceCtorEq, reduceEqDiff, reduceAdd, reduceSub, reduceMul, reduceLT, reduceLeDiff, reduceToNat, Nat.reduceBEq, tqA]
  rw [a4]
  have hh : ((bytesB titleD ++ numB d.fr) ++ numB d.to) ++ numB d.recs.length = headD d := by unfold headD; simp
  rw [hh] at b4
  simp (maxSteps := 10000000) (disch := omega) only [vqA, tagOf, reduceIte, reduceCtorEq, reduceEqDiff, reduceAdd, reduceSub, reduceMul, reduceLT, reduceLeDiff, reduceToNat, Nat.reduceBEq, tqA, p1 k4 c4]
  have hd1 := hd.grow g0
  refine r_loop (k := d.recs.length) (fun k ρ h' => ∃ (i : Nat) (w : Value), i + k = d.recs.length ∧ ρ 1 = .pointer (some ⟨h.next, 0, none⟩) ∧ ρ 3 = w ∧ ρ 4 = .int .i64 (i : Int) ∧
    Own h0 h' 1 Te_ w ((headD d ++ (d.recs.take i).flatMap putR).map byteV) ∧ Grow h0 h') ?_ ?_
  · rintro k ρ h' ⟨i, w, hk, r1, r3, r4, ow, g⟩
    unfold GS_
    rcases Nat.lt_or_ge i d.recs.length with hi | hi
    · have hr : d.recs[i]? = some d.recs[i] := List.getElem?_eq_getElem hi
      have hne : d.recs ≠ [] := fun e => by rw [e] at hi; simp at hi
      obtain ⟨b, o, c', he, hb, hel⟩ := hd1.elems hne
      cases he
      obtain ⟨dv, hc, hbr⟩ := hel i _ hr
      have o1 := hbr.one
      rw [← g.get b hb] at hc
      have htk : (d.recs.take (i + 1)).flatMap putR = (d.recs.take i).flatMap putR ++ putR d.recs[i] := by rw [List.take_add_one, hr, List.flatMap_append]; simp
      have hle : ((d.recs.take (i + 1)).flatMap putR).length ≤ (d.recs.flatMap putR).length := by
        conv => rhs; rw [← List.take_append_drop (i + 1) d.recs, List.flatMap_append, List.length_append]
        omega
      rw [htk, List.length_append] at hle
      have hgr := goodL_at hgl (Int.le_refl 0) _ (List.getElem_mem hi)
      generalize d.recs[i] = r at hr hc hbr htk hle hgr
      obtain ⟨q1, q2, q3, q4⟩ := hgr
      have hcap : (headD d ++ (d.recs.take i).flatMap putR).length + (putR r).length ≤ 200000 := by rw [List.length_append, headD_len]; omega
      have hpr : putR r = numB r.at_ ++ (numB r.len ++ (flagB r.zero :: if r.zero then [] else bytesB r.data)) := rfl
      have hpl : (putR r).length = 17 + (if r.zero then [] else bytesB r.data).length := by rw [hpr]; simp [numB_len]; omega
      have htk : headD d ++ (d.recs.take (i + 1)).flatMap putR = (headD d ++ (d.recs.take i).flatMap putR) ++ putR r := by rw [htk, List.append_assoc]
      generalize headD d ++ (d.recs.take i).flatMap putR = A at ow hcap htk
      have hob : blkOf w ≠ some h'.next := fun e => by have := (ow.lt e).2; omega
      simp (maxSteps := 10000000) (disch := omega) only [vqA, tagOf, reduceIte, reduceCtorEq, reduceEqDiff, reduceAdd, reduceSub, reduceMul, reduceLT, reduceLeDiff, reduceToNat, Nat.reduceBEq, tqA, r1, r3, r4, hc, o1, p1 h' g]
      obtain ⟨hR, eR⟩ : ∃ y, y = (h'.new (.cells [.int .i64 0, .int .i64 0, .bool false, .slice none 0 0] true none)).set h'.next (.cells [.int .i64 r.at_, .int .i64 r.len, .bool r.zero, dv] true none) := ⟨_, rfl⟩
      have gR : Grow h' hR := by rw [eR]; exact (Grow.new h' _).set (Nat.le_refl _) _
      have nR : hR.next = h'.next + 1 := by rw [eR]; rfl
      have pR : hR.get h'.next = some (.cells [.int .i64 r.at_, .int .i64 r.len, .bool r.zero, dv] true none) := by rw [eR, get_set_same]
      rw [← eR]
      refine (refNum_ok r.at_ hR).mono ?_
      rintro u2 h2 ⟨o2, g2⟩
      have gn2 := g2.next
      obtain ⟨w2, k2, a2, b2, c2, n2, f2⟩ := cat_ok ((ow.grow gR).grow g2) ((g.trans gR).trans g2) o2.row (by rw [numB_len]; omega)
      obtain ⟨f2, f2'⟩ := f2 h'.next (by omega) hob
      have s2 : k2.get h'.next = _ := f2.trans ((g2.get _ (by omega)).trans pR)
      simp (maxSteps := 10000000) (disch := omega) only [vqA, tagOf, reduceIte, reduceCtorEq, reduceEqDiff, reduceAdd, reduceSub, reduceMul, reduceLT, reduceLeDiff, reduceToNat, Nat.reduceBEq, tqA, r1, r3, r4]
      rw [a2]
      simp (maxSteps := 10000000) (disch := omega) only [vqA, tagOf, reduceIte, reduceCtorEq, reduceEqDiff, reduceAdd, reduceSub, reduceMul, reduceLT, reduceLeDiff, reduceToNat, Nat.reduceBEq, tqA, r1, r3, r4, s2]
      refine (refNum_ok r.len k2).mono ?_
      rintro u3 h3 ⟨o3, g3⟩
      have gn3 := g3.next
      obtain ⟨w3, k3, a3, b3, c3, n3, f3⟩ := cat_ok (b2.grow g3) (c2.trans g3) o3.row (by simp only [List.length_append, numB_len]; omega)
      obtain ⟨f3, f3'⟩ := f3 h'.next (by omega) f2'
      have s3 : k3.get h'.next = _ := f3.trans ((g3.get _ (by omega)).trans s2)
      simp (maxSteps := 10000000) (disch := omega) only [vqA, tagOf, reduceIte, reduceCtorEq, reduceEqDiff, reduceAdd, reduceSub, reduceMul, reduceLT, reduceLeDiff, reduceToNat, Nat.reduceBEq, tqA, r1, r3, r4]
      rw [a3]
      cases hz : r.zero with
      | true =>
        rw [hz] at s3 hpr
        have hd : BRow (k3.new (.cells [.int .u8 1] true none)) (.slice (some ⟨k3.next, 0, none⟩) 1 1) [1] := RowV.own (z := 1) (n := 1) (c := 1) (row := [byteV 1]) (w := true) (p := none) (Nat.lt_succ_self _) (Nat.le_refl _) (get_new_same _ _) (Nat.le_refl _)
        obtain ⟨w4, k4, a4, b4, c4, n4, f4⟩ := cat_ok (b3.grow (.new k3 _)) (c3.trans (.new k3 _)) hd (by simp only [List.length_append, numB_len, List.length_singleton]; omega)
        simp (maxSteps := 10000000) (disch := omega) only [vqA, tagOf, reduceIte, reduceCtorEq, reduceEqDiff, reduceAdd, reduceSub, reduceMul, reduceLT, reduceLeDiff, reduceToNat, Nat.reduceBEq, tqA, r1, r3, r4, s3]
        rw [a4]
        simp (maxSteps := 10000000) (disch := omega) only [vqA, tagOf, reduceIte, reduceCtorEq, reduceEqDiff, reduceAdd, reduceSub, reduceMul, reduceLT, reduceLeDiff, reduceToNat, Nat.reduceBEq, tqA, r1, r3, r4]
        have e : A ++ putR r = A ++ numB r.at_ ++ numB r.len ++ [1] := by rw [hpr]; simp [flagB]
        exact ⟨k - 1, by omega, i + 1, w4, by omega, rfl, rfl, by rw [htk, e]; exact b4, c4⟩
      | false =>
        rw [hz] at s3 hpr hpl
        have hbl : (bytesB r.data).length = 8 + r.data.length := by unfold bytesB; rw [List.length_append, numB_len]
        rw [if_neg (by decide)] at hpl
        have hd : BRow (k3.new (.cells [.int .u8 0] true none)) (.slice (some ⟨k3.next, 0, none⟩) 1 1) [0] := RowV.own (z := 1) (n := 1) (c := 1) (row := [byteV 0]) (w := true) (p := none) (Nat.lt_succ_self _) (Nat.le_refl _) (get_new_same _ _) (Nat.le_refl _)
        obtain ⟨w4, k4, a4, b4, c4, n4, f4⟩ := cat_ok (b3.grow (.new k3 (.cells [.int .u8 0] true none))) (c3.trans (.new k3 _)) hd (by simp only [List.length_append, numB_len, List.length_singleton]; omega)
        have n4 : k3.next + 1 ≤ k4.next := n4
        obtain ⟨f4, f4'⟩ := f4 h'.next (by show h'.next < k3.next + 1; omega) f3'
        have s4 : k4.get h'.next = _ := f4.trans ((get_new_ne (by omega)).trans s3)
        simp (maxSteps := 10000000) (disch := omega) only [vqA, tagOf, reduceIte, reduceCtorEq, reduceEqDiff, reduceAdd, reduceSub, reduceMul, reduceLT, reduceLeDiff, reduceToNat, Nat.reduceBEq, tqA, r1, r3, r4, s3]
        rw [a4]
        simp (maxSteps := 10000000) (disch := omega) only [vqA, tagOf, reduceIte, reduceCtorEq, reduceEqDiff, reduceAdd, reduceSub, reduceMul, reduceLT, reduceLeDiff, reduceToNat, Nat.reduceBEq, tqA, r1, r3, r4, s4]
        refine (refBytes_ok dv r.data k4 (hbr.grow c4) (by omega)).mono ?_
        rintro u5 h5 ⟨o5, g5⟩
        obtain ⟨w5, k5, a5, b5, c5, n5, f5⟩ := cat_ok (b4.grow g5) (c4.trans g5) o5.row (by simp only [List.length_append, numB_len, List.length_singleton]; omega)
        simp (maxSteps := 10000000) (disch := omega) only [vqA, tagOf, reduceIte, reduceCtorEq, reduceEqDiff, reduceAdd, reduceSub, reduceMul, reduceLT, reduceLeDiff, reduceToNat, Nat.reduceBEq, tqA, r1, r3, r4]
        rw [a5]
        simp (maxSteps := 10000000) (disch := omega) only [vqA, tagOf, reduceIte, reduceCtorEq, reduceEqDiff, reduceAdd, reduceSub, reduceMul, reduceLT, reduceLeDiff, reduceToNat, Nat.reduceBEq, tqA, r1, r3, r4]
        have e : A ++ putR r = A ++ numB r.at_ ++ numB r.len ++ [0] ++ bytesB r.data := by rw [hpr]; simp [flagB]
        exact ⟨k - 1, by omega, i + 1, w5, by omega, rfl, rfl, by rw [htk, e]; exact b5, c5⟩
    · rw [List.take_of_length_le hi] at ow
      have hd : BRow (h'.new (.cells [.int .u8 69] true none)) (.slice (some ⟨h'.next, 0, none⟩) 1 1) [69] := RowV.own (z := 1) (n := 1) (c := 1) (row := [byteV 69]) (w := true) (p := none) (Nat.lt_succ_self _) (Nat.le_refl _) (get_new_same _ _) (Nat.le_refl _)
      obtain ⟨w4, k4, a4, b4, c4, n4, f4⟩ := cat_ok (ow.grow (.new h' _)) (g.trans (.new h' _)) hd (by rw [List.length_append, headD_len, List.length_singleton]; omega)
      simp (maxSteps := 10000000) (disch := omega) only [vqA, tagOf, reduceIte, reduceCtorEq, reduceEqDiff, reduceAdd, reduceSub, reduceMul, reduceLT, reduceLeDiff, reduceToNat, Nat.reduceBEq, tqA, r1, r3, r4, p1 h' g]
      rw [a4]
      simp (maxSteps := 10000000) (disch := omega) only [vqA, tagOf, reduceIte, reduceCtorEq, reduceEqDiff, reduceAdd, reduceSub, reduceMul, reduceLT, reduceLeDiff, reduceToNat, Nat.reduceBEq, tqA]
      have e : putD d = headD d ++ d.recs.flatMap putR ++ [69] := by unfold putD; rw [List.append_assoc]
      rw [e]
      exact ⟨g0.trans c4, b4.since g0.next⟩
  · exact ⟨0, w4, by omega, by simp (maxSteps := 10000000) (disch := omega) only [vqA, tagOf, reduceIte, reduceCtorEq, reduceEqDiff, reduceAdd, reduceSub, reduceMul, reduceLT, reduceLeDiff, reduceToNat, Nat.reduceBEq, tqA], by simp (maxSteps := 10000000) (disch := omega) only [vqA, tagOf, reduceIte, reduceCtorEq, reduceEqDiff, reduceAdd, reduceSub, reduceMul, reduceLT, reduceLeDiff, reduceToNat, Nat.reduceBEq, tqA], by simp (maxSteps := 10000000) (disch := omega) only [vqA, tagOf, reduceIte, reduceCtorEq, reduceEqDiff, reduceAdd, reduceSub, reduceMul, reduceLT, reduceLeDiff, reduceToNat, Nat.reduceBEq, tqA]; rfl, by simpa using b4, c4⟩
end Go.Proofs.Ytdmakachnphddaa.C
