/- B6: what a diff makes of bytes. -/
import Derived.Test.YthkpbhdljbdliaaB5
open Go Go.Vi Go.Bm
namespace Go.Proofs.Ythkpbhdljbdliaa.C
set_option linter.unusedSimpArgs false
set_option maxRecDepth 100000
set_option maxHeartbeats 40000000
theorem copyG {h : Heap} {b n c : Nat} {x : Value} {l : List UInt8} {F : Nat → UInt8} (hx : BRow h x l) (hg : h.get b = some (.cells (tab n fun j => byteV (F j)) true none)) :
    ∃ h', copyV E t_s_uint8 (.slice (some ⟨b, 0, none⟩) n c) x h = some (.int .i64 (min l.length n : Nat), h') ∧ h'.next = h.next ∧ (∀ y, y ≠ b → h'.get y = h.get y) ∧ h'.get b = some (.cells (tab n fun j => byteV (if j < l.length then l.getD j 0 else F j)) true none) := by
  have hc := copy_row (E := E) (b := b) (o := 0) (dlen := n) (dcap := c) (n := l.length) sl_s_uint8 hx (by simp) (one_byte _) hg (by rw [tab_len]; omega)
  refine ⟨_, hc, ?_, fun y hy => ?_, ?_⟩
  · split <;> rfl
  · split
    · rfl
    · exact get_set_ne hy
  · split
    · rename_i h0
      rw [hg]
      congr 2
      refine tab_congr fun j hj => ?_
      rw [if_neg (by omega)]
    · rename_i h0
      rw [get_set_same, tab_splice _ _ _ _ (by rw [List.length_take, List.length_map]; omega)]
      congr 2
      refine tab_congr fun j hj => ?_
      rw [List.length_take, List.length_map]
      by_cases hjl : j < l.length
      · rw [if_pos (by omega), if_pos hjl, List.getD_eq_getElem?_getD, List.getElem?_take, if_pos (by omega), List.getElem?_map, Nat.sub_zero, List.getElem?_eq_getElem hjl]
        simp [List.getD_eq_getElem?_getD, hjl]
      · rw [if_neg (by omega), if_neg hjl]
theorem resized_ok (x : Value) (l : List UInt8) (n : Nat) (h : Heap) (hx : BRow h x l) (hn : n ≤ 4096) (hl : l.length ≤ 1000000) :
    Ret E f_diff_resized [x, .int .i64 n] h (fun v h' => Grow h h' ∧ v = .slice (some ⟨h.next, 0, none⟩) n n ∧ h'.next = h.next + 1 ∧ h'.get h.next = some (.cells (tab n fun j => byteV (sizedF l j)) true none)) := by
  refine ret_fun is_diff_resized (by simp) ?_
  unfold g_diff_resized
  have g1 : Grow h (h.new (.cells (List.replicate n (.int .u8 0)) true none)) := .new h _
  obtain ⟨h2, hc, hn2, hk, hb⟩ := copyG (b := h.next) (n := n) (c := n) (F := fun _ => 0) (hx.grow g1) (by rw [get_new_same, tab_rep]; rfl)
  have hn2 : h2.next = h.next + 1 := hn2
  simp (maxSteps := 10000000) (disch := omega) only [vq0, vq1, vq2, vq3, vq4, vq5, tagOf, reduceIte, reduceCtorEq, Nat.reduceEqDiff, Nat.reduceAdd, Nat.reduceSub, Nat.reduceMul, Nat.reduceLT, Nat.reduceLeDiff, Int.reduceToNat, Nat.reduceBEq, tq1, tq2, tq3, hc]
  refine ⟨⟨by omega, fun c hc => by rw [hk c (by omega), get_new_ne (by omega)]⟩, hn2, ?_⟩
  rw [hb]
  congr 2
  refine tab_congr fun j _ => ?_
  unfold sizedF
  by_cases hj : j < l.length
  · rw [if_pos hj]
  · rw [if_neg hj, List.getD_eq_getElem?_getD, List.getElem?_eq_none (by omega)]; rfl
theorem zs_u8 : ∀ e, E.ty t_uint8 = some e → e.zero.map cellsOf = some [.int .u8 0] := fun e he => by
  have h : (E.ty t_uint8).bind (fun e => e.zero.map cellsOf) = some [.int .u8 0] := by kernel_rfl
  rw [he] at h
  exact h
theorem apply_ok (d : Dif) (v x : Value) (l : List UInt8) (h : Heap) (hd : DRow h v d.recs) (hx : BRow h x l) (hg : goodD d = true) (hl : (l.length : Int) = d.fr) (hL : d.recs.length ≤ 1000000) :
    Ret E f_diff_Apply [.agg ⟨difC d v⟩, x] h (fun u h' => Grow h h' ∧ ∃ w, u = .tuple ⟨[w, .nilIface]⟩ ∧ BRow h' w (applyL d l)) := by
  refine ret_fun is_diff_Apply (by simp) ?_
  unfold g_diff_Apply
  have hda : difC d v = [.int .i64 d.fr, .int .i64 d.to, v] := rfl
  have ov := hd.one
  rw [hda]
  have hA := hg
  unfold goodD sizedB at hA
  simp only [Bool.and_eq_true, decide_eq_true_eq] at hA
  obtain ⟨⟨a0, a1⟩, ⟨a2, a3⟩, a4⟩ := hA
  have gl := goodL_at a4 (Int.le_refl 0)
  obtain ⟨N, hN⟩ : ∃ N : Nat, d.to = (N : Int) := ⟨d.to.toNat, by omega⟩
  have hap : applyL d l = (List.range N).map (d.recs.foldl applyF (sizedF l)) := by unfold applyL; rw [hN]; rfl
  rw [hap]
  have gn : ∀ b1, Grow h (h.new b1) := fun b1 => .new h b1
  obtain ⟨ax, cx, rfl⟩ := hx.is
  simp (maxSteps := 10000000) (disch := omega) only [vq0, vq1, vq2, vq3, vq4, vq5, tagOf, reduceIte, reduceCtorEq, Nat.reduceEqDiff, Nat.reduceAdd, Nat.reduceSub, Nat.reduceMul, Nat.reduceLT, Nat.reduceLeDiff, Int.reduceToNat, Nat.reduceBEq, tq1, tq2, tq3, ov]
  refine (good_ok d v _ (hd.grow (gn _)) hL).mono ?_
  rintro v1 h1 ⟨g1, rfl⟩
  have g01 := (gn (.cells [.int .i64 d.fr, .int .i64 d.to, v] true none)).trans g1
  have hn1 := g1.next
  have eN : (h.new (.cells [.int .i64 d.fr, .int .i64 d.to, v] true none)).next = h.next + 1 := rfl
  rw [eN] at hn1
  have p0 := g1.get h.next (Nat.lt_succ_self _)
  rw [get_new_same, hN] at p0
  simp (maxSteps := 10000000) (disch := omega) only [vq0, vq1, vq2, vq3, vq4, vq5, tagOf, reduceIte, reduceCtorEq, Nat.reduceEqDiff, Nat.reduceAdd, Nat.reduceSub, Nat.reduceMul, Nat.reduceLT, Nat.reduceLeDiff, Int.reduceToNat, Nat.reduceBEq, tq1, tq2, tq3, p0, hg, hl]
  refine (resized_ok _ l N h1 (hx.grow g01) (by omega) (by omega)).mono ?_
  rintro v2 h2 ⟨g2, rfl, hn2, hb2⟩
  have p0 : h2.get h.next = _ := (g2.get _ (by omega)).trans p0
  obtain ⟨a, c, rfl⟩ := hd.is
  simp (maxSteps := 10000000) (disch := omega) only [vq0, vq1, vq2, vq3, vq4, vq5, tagOf, reduceIte, reduceCtorEq, Nat.reduceEqDiff, Nat.reduceAdd, Nat.reduceSub, Nat.reduceMul, Nat.reduceLT, Nat.reduceLeDiff, Int.reduceToNat, Nat.reduceBEq, tq1, tq2, tq3, p0]
  refine r_loop (k := d.recs.length) (fun k ρ h' => ∃ (i : Nat), i + k = d.recs.length ∧ ρ 6 = .slice (some ⟨h1.next, 0, none⟩) N N ∧ ρ 26 = .slice a d.recs.length c ∧ ρ 27 = .int .i64 d.recs.length ∧ ρ 28 = .int .i64 (i : Int) ∧ But h1.next h1.next h1 h' ∧ h1.next < h'.next ∧
    h'.get h1.next = some (.cells (tab N fun j => byteV ((d.recs.take i).foldl applyF (sizedF l) j)) true none)) ?_ ?_
  · rintro k ρ h' ⟨i, hk, r6, r26, r27, r28, bt, hlt, hc1⟩
    unfold g_diff_Apply_L0
    have g1' : Grow h1 h' := bt.grow (Nat.le_refl _) (Nat.le_refl _)
    have gh := g01.trans g1'
    rcases Nat.lt_or_ge i d.recs.length with hi | hi
    · have hr : d.recs[i]? = some d.recs[i] := List.getElem?_eq_getElem hi
      have htk : d.recs.take (i + 1) = d.recs.take i ++ [d.recs[i]] := by rw [List.take_add_one, hr]; rfl
      have hgi := gl _ (List.getElem_mem hi)
      have hne : d.recs ≠ [] := fun e => by rw [e] at hi; simp at hi
      obtain ⟨b0, o, c', he, hb, hel⟩ := hd.elems hne
      cases he
      obtain ⟨dv, hc, hbr⟩ := hel i _ hr
      rw [← gh.get b0 hb] at hc
      have o1 := hbr.one
      generalize d.recs[i] = r at hr hc hbr htk hgi
      obtain ⟨q1, q2, q3, q4⟩ := hgi
      rw [hN] at q3
      obtain ⟨A, hA⟩ : ∃ A : Nat, r.at_ = (A : Int) := ⟨r.at_.toNat, by omega⟩
      obtain ⟨M, hM⟩ : ∃ M : Nat, r.len = (M : Int) := ⟨r.len.toNat, by omega⟩
      rw [hA, hM] at hc q3
      rw [hM] at q2 q4
      have gA : ∀ b x, Grow h' ((h'.new b).set h'.next x) := fun b x => (Grow.new h' b).set (Nat.le_refl _) x
      have hc2 : ∀ b x, ((h'.new b).set h'.next x).get h1.next = _ := fun b x => ((gA b x).get _ hlt).trans hc1
      have hrec : ∀ j : Nat, recAt r j = if A ≤ j ∧ j < A + M then some (if r.zero then 0 else r.data.getD (j - A) 0) else none := fun j => by
        unfold recAt
        rw [hA, hM, Int.toNat_natCast]
        by_cases c1 : A ≤ j ∧ j < A + M
        · rw [if_pos (by omega), if_pos c1]
        · rw [if_neg (by omega), if_neg c1]
      cases hz : r.zero
      · rw [hz] at q4 hc
        have q4 : (r.data.length : Int) = M := q4
        have hcp := fun b x => copy_bytes (o := A) (n := N - A) (c := N - A) (hbr.grow (gh.trans (gA b x))) (hc2 b x) (by omega) (by rw [tab_len]; omega)
        obtain ⟨X, hX⟩ : ∃ X, splice (tab N fun j => byteV ((d.recs.take i).foldl applyF (sizedF l) j)) A ((r.data.map byteV).take (min r.data.length (N - A))) = X := ⟨_, rfl⟩
        simp only [hX] at hcp
        have hdv : ∀ n, veq (n + 1) dv dv = true := by obtain ⟨_, _, e⟩ := hbr.is; rw [e]; intro n; simp (maxSteps := 10000000) (disch := omega) only [vq0, vq1, vq2, vq3, vq4, vq5, tagOf, reduceIte, reduceCtorEq, Nat.reduceEqDiff, Nat.reduceAdd, Nat.reduceSub, Nat.reduceMul, Nat.reduceLT, Nat.reduceLeDiff, Int.reduceToNat, Nat.reduceBEq, tq1, tq2, tq3]
        have hNA : ¬ N = A := by omega
        simp (maxSteps := 10000000) (disch := omega) only [vq0, vq1, vq2, vq3, vq4, vq5, tagOf, reduceIte, reduceCtorEq, Nat.reduceEqDiff, Nat.reduceAdd, Nat.reduceSub, Nat.reduceMul, Nat.reduceLT, Nat.reduceLeDiff, Int.reduceToNat, Nat.reduceBEq, tq1, tq2, tq3, r6, r26, r27, r28, hc, o1, hc1, hcp, hdv, tab_len]
        refine ⟨k - 1, by omega, i + 1, by omega, rfl, (bt.trans (.of (gA _ _))).setx _, by omega, ?_⟩
        have hlt : ((r.data.map byteV).take (min r.data.length (N - A))).length = M := by rw [List.length_take, List.length_map]; omega
        rw [htk, List.foldl_append, ← hX, tab_splice _ _ _ _ (by rw [hlt]; omega), hlt]
        congr 2
        refine tab_congr fun j hj => ?_
        show _ = byteV (applyF _ r j)
        unfold applyF
        rw [hrec]
        by_cases c1 : A ≤ j ∧ j < A + M
        · have : r.data[j - A]? = some r.data[j - A] := List.getElem?_eq_getElem (by omega)
          rw [if_pos c1, if_pos c1, hz, List.getD_eq_getElem?_getD, List.getElem?_take, if_pos (by omega), List.getElem?_map, this]
          simp [List.getD_eq_getElem?_getD, this]
        · rw [if_neg c1, if_neg c1]
          rfl
      · rw [hz] at q4 hc
        have hcl := fun b x => clear_row (E := E) (c := N - A) (n := M) sl_s_uint8 zs_u8 rfl (o := A) (hc2 b x) (by omega) (by rw [tab_len]; omega)
        rw [rep_one] at hcl
        obtain ⟨X, hX⟩ : ∃ X, splice (tab N fun j => byteV ((d.recs.take i).foldl applyF (sizedF l) j)) A (List.replicate M (.int .u8 0)) = X := ⟨_, rfl⟩
        simp only [hX] at hcl
        have eM : ((A : Int) + (M : Int)).toNat - A = M := by omega
        have hNA : ¬ N = A := by omega
        simp (maxSteps := 10000000) (disch := omega) only [vq0, vq1, vq2, vq3, vq4, vq5, tagOf, reduceIte, reduceCtorEq, Nat.reduceEqDiff, Nat.reduceAdd, Nat.reduceSub, Nat.reduceMul, Nat.reduceLT, Nat.reduceLeDiff, Int.reduceToNat, Nat.reduceBEq, tq1, tq2, tq3, r6, r26, r27, r28, hc, o1, hc1, hcl, tab_len, eM]
        refine ⟨k - 1, by omega, i + 1, by omega, rfl, (bt.trans (.of (gA _ _))).setx _, by omega, ?_⟩
        rw [htk, List.foldl_append, ← hX, tab_splice _ _ _ _ (by rw [List.length_replicate]; omega), List.length_replicate]
        congr 2
        refine tab_congr fun j hj => ?_
        show _ = byteV (applyF _ r j)
        unfold applyF
        rw [hrec]
        by_cases c1 : A ≤ j ∧ j < A + M
        · rw [if_pos c1, if_pos c1, hz, List.getD_eq_getElem?_getD, List.getElem?_replicate, if_pos (by omega)]
          rfl
        · rw [if_neg c1, if_neg c1]
          rfl
    · rw [List.take_of_length_le hi] at hc1
      simp (maxSteps := 10000000) (disch := omega) only [vq0, vq1, vq2, vq3, vq4, vq5, tagOf, reduceIte, reduceCtorEq, Nat.reduceEqDiff, Nat.reduceAdd, Nat.reduceSub, Nat.reduceMul, Nat.reduceLT, Nat.reduceLeDiff, Int.reduceToNat, Nat.reduceBEq, tq1, tq2, tq3, r6, r26, r27, r28]
      refine ⟨gh, _, rfl, .inr ⟨h1.next, 0, N, N, _, true, none, hlt, rfl, Nat.le_refl _, by simp, hc1, by rw [tab_len]; simp, ?_⟩⟩
      rw [List.drop_zero, List.length_map, List.length_map, List.length_range, List.take_of_length_le (by rw [tab_len]; omega), range_tab]
  · exact ⟨0, by omega, by simp (maxSteps := 10000000) (disch := omega) only [vq0, vq1, vq2, vq3, vq4, vq5, tagOf, reduceIte, reduceCtorEq, Nat.reduceEqDiff, Nat.reduceAdd, Nat.reduceSub, Nat.reduceMul, Nat.reduceLT, Nat.reduceLeDiff, Int.reduceToNat, Nat.reduceBEq, tq1, tq2, tq3], by simp (maxSteps := 10000000) (disch := omega) only [vq0, vq1, vq2, vq3, vq4, vq5, tagOf, reduceIte, reduceCtorEq, Nat.reduceEqDiff, Nat.reduceAdd, Nat.reduceSub, Nat.reduceMul, Nat.reduceLT, Nat.reduceLeDiff, Int.reduceToNat, Nat.reduceBEq, tq1, tq2, tq3], by simp (maxSteps := 10000000) (disch := omega) only [vq0, vq1, vq2, vq3, vq4, vq5, tagOf, reduceIte, reduceCtorEq, Nat.reduceEqDiff, Nat.reduceAdd, Nat.reduceSub, Nat.reduceMul, Nat.reduceLT, Nat.reduceLeDiff, Int.reduceToNat, Nat.reduceBEq, tq1, tq2, tq3], by simp (maxSteps := 10000000) (disch := omega) only [vq0, vq1, vq2, vq3, vq4, vq5, tagOf, reduceIte, reduceCtorEq, Nat.reduceEqDiff, Nat.reduceAdd, Nat.reduceSub, Nat.reduceMul, Nat.reduceLT, Nat.reduceLeDiff, Int.reduceToNat, Nat.reduceBEq, tq1, tq2, tq3]; rfl, .of g2, by omega, hb2⟩
end Go.Proofs.Ythkpbhdljbdliaa.C
