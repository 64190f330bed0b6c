/- D13: parts are written, and what says that they count. -/
import Derived.Test.YtjhaokhgiagkaaaGreatDoorD12
open Go Go.Vi Go.Bm
namespace Go.Proofs.YtjhaokhgiagkaaaGreatDoor.C
set_option linter.unusedSimpArgs false
set_option maxRecDepth 100000
set_option maxHeartbeats 40000000
def partW (k g fr at_ : Int) (F : Nat → List UInt8) (i : Nat) : List (Int × List UInt8) := (List.range i).map fun j : Nat => (at_ + (j : Int), sealS k g (fr + (j : Int)) (F j))
theorem rows_ok (hb h : Heap) (p m N M : Nat) (size : Int) (f : Int → List UInt8) (v v2 : Value) (k g fr at_ k2 g2 n2 la : Int) (F : Nat → List UInt8) (d2 : List UInt8)
    (x : DW h.next (M + N + 3) h p m size [] f) (hp : p < hb.next) (hm : m < hb.next) (bx : BoxesAt hb h v k g fr F N) (hF : ∀ j, j < N → (F j).length ≤ 106) (hN : N ≤ 9000)
    (hk : 1 ≤ k ∧ k ≤ 255) (hgg : 0 ≤ g ∧ g ≤ 4611686018427387904) (hfr : 0 ≤ fr ∧ fr + (N : Int) ≤ 2147483647) (hat : 0 ≤ at_ ∧ at_ + (N : Int) ≤ size) (hsz : size ≤ 1000000)
    (hk2 : 1 ≤ k2 ∧ k2 ≤ 255) (hg2 : 0 ≤ g2 ∧ g2 ≤ 4611686018427387904) (hn2 : 0 ≤ n2 ∧ n2 ≤ 2147483647) (hla : 0 ≤ la ∧ la < size) (hd2 : d2.length ≤ 106) (hv2 : BRow h v2 d2) (hv2a : ∀ b, blkOf v2 = some b → b ≠ p ∧ b ≠ m) :
    Ret E f_journal_rows [.pointer (some ⟨p, 0, none⟩), v, .int .i64 at_, .agg ⟨[.int .i64 k2, .int .i64 g2, .int .i64 n2, v2]⟩, .int .i64 la] h fun u h' => u = .nilIface ∧
      DW h.next M h' p m size [] (upd ((partW k g fr at_ F N).foldl upd f) (la, sealS k2 g2 n2 d2)) ∧ Frm h.next p m h h' := by
  refine ret_fun is_journal_rows (by simp) ?_
  unfold g_journal_rows
  obtain ⟨xs, ow, hxs, hxr⟩ := bx
  have hxn : xs.length = N := by have := congrArg List.length hxs; rw [List.length_map, List.length_map, List.length_range] at this; exact this
  have fl : (xs.flatMap (bxC k g)).length = xs.length * 4 := flat_len fun _ _ => rfl
  obtain ⟨av, nv, cv, ev, hvn, hvc⟩ := ow.row.is
  have hvn2 : nv = N := by omega
  subst hvn2
  have hlen : lenP E t_s_box_Box v = some (.int .i64 (nv : Int)) := by rw [ev]; simp (maxSteps := 10000000) (disch := omega) only [vq0, vq1, vq2, vq3, vq4, vq5, tagOf, reduceIte, reduceCtorEq, Nat.reduceEqDiff, Nat.reduceAdd, Nat.reduceSub, Nat.reduceMul, Nat.reduceLT, Nat.reduceLeDiff, Int.reduceToNat, Nat.reduceBEq, tq1, tq2, tq3, tq4, tq5]
  obtain ⟨a2, c2, e2⟩ := hv2.is
  have hc2 : cellsOf v2 = [v2] := by rw [e2]; rfl
  have ho2 := hv2.one
  simp (maxSteps := 10000000) (disch := omega) only [vq0, vq1, vq2, vq3, vq4, vq5, tagOf, reduceIte, reduceCtorEq, Nat.reduceEqDiff, Nat.reduceAdd, Nat.reduceSub, Nat.reduceMul, Nat.reduceLT, Nat.reduceLeDiff, Int.reduceToNat, Nat.reduceBEq, tq1, tq2, tq3, tq4, tq5, hlen, hc2, ho2]
  obtain ⟨n1, en1⟩ : ∃ n1, n1 = h.next := ⟨_, rfl⟩
  obtain ⟨hA, eA⟩ : ∃ y, y = h.new (.cells [.int .i64 k2, .int .i64 g2, .int .i64 n2, v2] true none) := ⟨_, rfl⟩
  have gA : Grow h hA := by rw [eA]; exact .new _ _
  have bA : hA.get h.next = some (.cells [.int .i64 k2, .int .i64 g2, .int .i64 n2, v2] true none) := by rw [eA]; exact get_new_same _ _
  have nA : hA.next = h.next + 1 := by rw [eA]; rfl
  rw [← eA]
  clear eA
  have pb : p < h.next ∧ m < h.next := by obtain ⟨d, _, _, _, _, _, h6, h7, _⟩ := x; exact ⟨h6, h7⟩
  have xA := (x.grow gA).base (n1 := hA.next) (Nat.le_refl _) (by omega) (by omega)
  refine r_loop (k := nv) (fun kk ρ h' => ∃ i : Nat, i + kk = nv ∧ DW hA.next (M + kk + 3) h' p m size (partW k g fr at_ F i) f ∧ Frm hA.next p m hA h' ∧
    ρ 0 = .pointer (some ⟨p, 0, none⟩) ∧ ρ 2 = .int .i64 at_ ∧ ρ 4 = .int .i64 la ∧ ρ 8 = .pointer (some ⟨h.next, 0, none⟩) ∧ ρ 16 = v ∧ ρ 17 = .int .i64 nv ∧ ρ 18 = .int .i64 (i : Int)) ?_ ?_
  · rintro kk ρ h' ⟨i, hkk, dw, fr1, r0, r2, r4, r8, r16, r17, r18⟩
    unfold g_journal_rows_L0
    have nA' := fr1.next
    rcases Nat.lt_or_ge i nv with hi | hi
    · have hqi : xs[i]? = some xs[i] := List.getElem?_eq_getElem (by omega)
      have hq2 := congrArg (·[i]?) hxs
      simp only [List.getElem?_map, hqi, List.getElem?_range hi, Option.map_some] at hq2
      have hq3 := Option.some.inj hq2
      obtain ⟨hxb, hxa⟩ := hxr xs[i] (List.getElem_mem (by omega))
      have hel := flat_elem (f := bxC k g) (z := 4) (fun y hy => rfl) hqi
      generalize xs[i] = y at hqi hq3 hxb hxa hel
      obtain ⟨yn, yv, yd⟩ := y
      simp only [Prod.mk.injEq] at hq3
      obtain ⟨rfl, rfl⟩ := hq3
      simp only at hxb hxa
      rcases ow with ⟨_, e⟩ | ⟨b, n, e, hn0, hnl, hb0, hb1, hg⟩
      · rw [e] at fl; simp at fl; omega
      · have e0 := e
        rw [ev] at e
        cases e
        have hgb : h'.get b = _ := (fr1.get b (by omega) (by omega) (by omega)).trans ((gA.get b hb1).trans hg)
        have hxb2 := fr1.row (Nat.le_refl _) (RowV.grow hxb gA) (fun b hb => by have := hxa b hb; omega)
        obtain ⟨ay, cy, ey⟩ := BRow.is hxb
        have hyc : cellsOf yv = [yv] := by rw [ey]; rfl
        have hyo := BRow.one hxb
        subst e0
        rw [bxC] at hel
        simp (maxSteps := 10000000) (disch := omega) only [vq0, vq1, vq2, vq3, vq4, vq5, tagOf, reduceIte, reduceCtorEq, Nat.reduceEqDiff, Nat.reduceAdd, Nat.reduceSub, Nat.reduceMul, Nat.reduceLT, Nat.reduceLeDiff, Int.reduceToNat, Nat.reduceBEq, tq1, tq2, tq3, tq4, tq5, r0, r2, r4, r8, r16, r17, r18, hgb, hel, hyc, hyo]
        obtain ⟨hB, eB⟩ : ∃ y, y = (h'.new (.cells [.int .i64 0, .int .i64 0, .int .i64 0, .slice none 0 0] true none)).set h'.next (.cells [.int .i64 k, .int .i64 g, .int .i64 (fr + (i : Int)), yv] true none) := ⟨_, rfl⟩
        have gB : Grow h' hB := by rw [eB]; exact (Grow.new h' _).set (Nat.le_refl _) _
        rw [← eB]
        clear eB
        rw [show M + kk + 3 = M + (kk - 1) + 3 + 1 by omega] at dw
        refine (put_w (dw.grow gB) (at_ + (i : Int)) k g (fr + (i : Int)) yv (F i) (by omega) (by unfold partW; rw [List.length_map, List.length_range]; omega) (RowV.grow hxb2 gB) hk hgg (by omega) (hF i hi)).mono ?_
        rintro u h2 ⟨rfl, dw2, fr2⟩
        simp (maxSteps := 10000000) (disch := omega) only [vq0, vq1, vq2, vq3, vq4, vq5, tagOf, reduceIte, reduceCtorEq, Nat.reduceEqDiff, Nat.reduceAdd, Nat.reduceSub, Nat.reduceMul, Nat.reduceLT, Nat.reduceLeDiff, Int.reduceToNat, Nat.reduceBEq, tq1, tq2, tq3, tq4, tq5, r0, r2, r4, r8, r16, r17, r18]
        refine ⟨kk - 1, by omega, i + 1, by omega, ?_, (fr1.trans (.of gB (by omega))).trans fr2, by rfl⟩
        unfold partW at dw2 ⊢
        rw [List.range_succ, List.map_append]
        exact dw2
    · have hi2 : i = nv := by omega
      subst hi2
      have hk0 : kk = 0 := by omega
      subst hk0
      have b1 := (fr1.get h.next (by omega) (by omega) (by omega)).trans bA
      simp (maxSteps := 10000000) (disch := omega) only [vq0, vq1, vq2, vq3, vq4, vq5, tagOf, reduceIte, reduceCtorEq, Nat.reduceEqDiff, Nat.reduceAdd, Nat.reduceSub, Nat.reduceMul, Nat.reduceLT, Nat.reduceLeDiff, Int.reduceToNat, Nat.reduceBEq, tq1, tq2, tq3, tq4, tq5, r0, r2, r4, r8, r16, r17, r18]
      refine (flush_w (N := M + 2) dw (by unfold partW; rw [List.length_map, List.length_range]; omega)).mono ?_
      rintro u h2 ⟨rfl, dw2, fr2⟩
      have b2 := (fr2.get h.next (by omega) (by omega) (by omega)).trans b1
      simp (maxSteps := 10000000) (disch := omega) only [vq0, vq1, vq2, vq3, vq4, vq5, tagOf, reduceIte, reduceCtorEq, Nat.reduceEqDiff, Nat.reduceAdd, Nat.reduceSub, Nat.reduceMul, Nat.reduceLT, Nat.reduceLeDiff, Int.reduceToNat, Nat.reduceBEq, tq1, tq2, tq3, tq4, tq5, r0, r2, r4, r8, r16, r17, r18, b2]
      have fr12 := fr1.trans fr2
      have hv3 := fr12.row (Nat.le_refl _) (RowV.grow hv2 gA) hv2a
      refine (put_w dw2 la k2 g2 n2 v2 d2 hla (by simp) hv3 hk2 hg2 hn2 hd2).mono ?_
      rintro u h3 ⟨rfl, dw3, fr3⟩
      simp (maxSteps := 10000000) (disch := omega) only [vq0, vq1, vq2, vq3, vq4, vq5, tagOf, reduceIte, reduceCtorEq, Nat.reduceEqDiff, Nat.reduceAdd, Nat.reduceSub, Nat.reduceMul, Nat.reduceLT, Nat.reduceLeDiff, Int.reduceToNat, Nat.reduceBEq, tq1, tq2, tq3, tq4, tq5, r0, r2, r4, r8, r16, r17, r18]
      refine (flush_w dw3 (by simp)).mono ?_
      rintro u h4 ⟨rfl, dw4, fr4⟩
      simp (maxSteps := 10000000) (disch := omega) only [vq0, vq1, vq2, vq3, vq4, vq5, tagOf, reduceIte, reduceCtorEq, Nat.reduceEqDiff, Nat.reduceAdd, Nat.reduceSub, Nat.reduceMul, Nat.reduceLT, Nat.reduceLeDiff, Int.reduceToNat, Nat.reduceBEq, tq1, tq2, tq3, tq4, tq5, r0, r2, r4, r8, r16, r17, r18]
      have fr14 := (fr12.trans fr3).trans fr4
      refine ⟨dw4.base (by have := fr14.next; omega) pb.1 pb.2, (Frm.of gA (Nat.le_refl _)).trans (fr14.down (by omega))⟩
  · refine ⟨0, by omega, xA, ⟨Nat.le_refl _, fun _ _ _ _ => rfl⟩, ?_⟩
    simp (maxSteps := 10000000) (disch := omega) only [vq0, vq1, vq2, vq3, vq4, vq5, tagOf, reduceIte, reduceCtorEq, Nat.reduceEqDiff, Nat.reduceAdd, Nat.reduceSub, Nat.reduceMul, Nat.reduceLT, Nat.reduceLeDiff, Int.reduceToNat, Nat.reduceBEq, tq1, tq2, tq3, tq4, tq5]
    rfl
end Go.Proofs.YtjhaokhgiagkaaaGreatDoor.C
