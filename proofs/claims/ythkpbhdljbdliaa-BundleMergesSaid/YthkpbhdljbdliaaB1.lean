/- B1: errors' numbers; the same bytes, the same diff; a diff as the program's, and as the document's. -/
import Derived.Test.YthkpbhdljbdliaaB0
open Go Go.Vi Go.Bm
namespace Go.Proofs.Ythkpbhdljbdliaa.C
set_option linter.unusedSimpArgs false
set_option maxRecDepth 100000
set_option maxHeartbeats 40000000
theorem num_err (n : Int) (hn : n ≠ 0) (h : Heap) (Q : Value → Heap → Prop) : Ret E f_laminanum_Num [.iface t_api_Errno (.int .i64 n)] h Q = Q (.int .i64 n) h := by
  refine Ret.eq ?_ Q
  refine ret_fun is_laminanum_Num (by simp) ?_
  unfold g_laminanum_Num
  simp (maxSteps := 10000000) (disch := omega) only [vq0, vq1, vq2, vq3, vq4, vq5, tagOf, reduceIte, reduceCtorEq, Nat.reduceEqDiff, Nat.reduceAdd, Nat.reduceSub, Nat.reduceMul, Nat.reduceLT, Nat.reduceLeDiff, Int.reduceToNat, Nat.reduceBEq, tq1, tq2, tq3]
theorem is_err (n : Int) (hn : n ≠ 0) (h : Heap) (Q : Value → Heap → Prop) : Ret E f_laminanum_Is [.iface t_api_Errno (.int .i64 n), .int .i64 n] h Q = Q (.bool true) h := by
  refine Ret.eq ?_ Q
  refine ret_fun is_laminanum_Is (by simp) ?_
  unfold g_laminanum_Is
  simp (maxSteps := 10000000) (disch := omega) only [vq0, vq1, vq2, vq3, vq4, vq5, tagOf, reduceIte, reduceCtorEq, Nat.reduceEqDiff, Nat.reduceAdd, Nat.reduceSub, Nat.reduceMul, Nat.reduceLT, Nat.reduceLeDiff, Int.reduceToNat, Nat.reduceBEq, tq1, tq2, tq3, num_err n hn]
theorem bt_bytes : BtIs E t_s_uint8 t_string t_uint8 := ⟨by kernel_rfl, by kernel_rfl, by kernel_rfl⟩
theorem text_bytes {h : Heap} {x : Value} {l : List UInt8} (r : BRow h x l) : orK (atH h (orK (convV E t_s_uint8 t_string x) (convR E t_s_uint8 t_string x h))) (newK h (convN E t_s_uint8 t_string x)) = some (.string (strOf l), h) := brow_text bt_bytes r
theorem sameB_ret {h : Heap} {x y : Value} {l : List UInt8} (rx : BRow h x l) (ry : BRow h y l) (Q : Value → Heap → Prop) : Ret E f_laminanum_Same [x, y] h Q = Q (.bool true) h := by
  refine Ret.eq ?_ Q
  refine ret_fun is_laminanum_Same (by simp) ?_
  unfold g_laminanum_Same
  have e : (l == l) = true := beq_self_eq_true _
  simp (maxSteps := 10000000) (disch := omega) only [vq0, vq1, vq2, vq3, vq4, vq5, tagOf, reduceIte, reduceCtorEq, Nat.reduceEqDiff, Nat.reduceAdd, Nat.reduceSub, Nat.reduceMul, Nat.reduceLT, Nat.reduceLeDiff, Int.reduceToNat, Nat.reduceBEq, tq1, tq2, tq3, text_bytes rx, text_bytes ry, e]
theorem refSame_ok (d : Dif) (v w : Value) (h : Heap) (hv : DRow h v d.recs) (hw : DRow h w d.recs) (hL : d.recs.length ≤ 1000000) :
    Ret E f_laminaref17_Same [.agg ⟨difC d v⟩, .agg ⟨difC d w⟩] h (fun u h' => Grow h h' ∧ u = .bool true) := by
  refine ret_fun is_laminaref17_Same (by simp) ?_
  unfold g_laminaref17_Same difC
  have gn : ∀ b1 b2 : Blk, Grow h ((h.new b1).new b2) := fun b1 b2 => (Grow.new h b1).more b2
  obtain ⟨a, c, rfl⟩ := hv.is
  obtain ⟨a2, c2, rfl⟩ := hw.is
  have e0 : ((d.recs.length : Int) == (d.recs.length : Int)) = true := beq_self_eq_true _
  simp (maxSteps := 10000000) (disch := omega) only [vq0, vq1, vq2, vq3, vq4, vq5, tagOf, reduceIte, reduceCtorEq, Nat.reduceEqDiff, Nat.reduceAdd, Nat.reduceSub, Nat.reduceMul, Nat.reduceLT, Nat.reduceLeDiff, Int.reduceToNat, Nat.reduceBEq, tq1, tq2, tq3, e0]
  refine r_loop (k := d.recs.length) (fun k ρ h' => ∃ (i : Nat), i + k = d.recs.length ∧ ρ 2 = .pointer (some ⟨h.next, 0, none⟩) ∧ ρ 3 = .pointer (some ⟨h.next + 1, 0, none⟩) ∧ ρ 5 = .int .i64 (i : Int) ∧
    h'.get h.next = some (.cells [.int .i64 d.fr, .int .i64 d.to, .slice a d.recs.length c] true none) ∧ h'.get (h.next + 1) = some (.cells [.int .i64 d.fr, .int .i64 d.to, .slice a2 d.recs.length c2] true none) ∧ Grow h h' ∧ h.next + 1 < h'.next) ?_ ?_
  · rintro k ρ h' ⟨i, hk, r2, r3, r5, m0, m1, gr, hn⟩
    unfold g_laminaref17_Same_L0
    rcases Nat.lt_or_ge i d.recs.length with hi | hi
    · have hr : d.recs[i]? = some d.recs[i] := List.getElem?_eq_getElem hi
      have hne : d.recs ≠ [] := fun e => by rw [e] at hi; simp at hi
      obtain ⟨b, o, c', he, hb, hel⟩ := hv.elems hne
      cases he
      obtain ⟨b2, o2, c2', he2, hb2, hel2⟩ := hw.elems hne
      cases he2
      obtain ⟨dv, hc, hbr⟩ := hel i _ hr
      obtain ⟨dw, hc2, hbr2⟩ := hel2 i _ hr
      have o1 := hbr.one
      have o2' := hbr2.one
      rw [← gr.get b hb] at hc
      rw [← gr.get b2 hb2] at hc2
      generalize d.recs[i] = r at hr hc hbr hc2 hbr2
      have g2 : ∀ b x b2 x2, Grow h' ((((h'.new b).set h'.next x).new b2).set (h'.next + 1) x2) := fun b x b2 x2 => (((Grow.new h' b).set (Nat.le_refl _) x).more b2).set (by omega) x2
      have t1 := fun b x b2 x2 => text_bytes (hbr.grow (gr.trans (g2 b x b2 x2)))
      have t2 := fun b x b2 x2 => text_bytes (hbr2.grow (gr.trans (g2 b x b2 x2)))
      have eb : (r.data == r.data) = true := beq_self_eq_true _
      have ez : (r.zero == r.zero) = true := beq_self_eq_true _
      simp (maxSteps := 10000000) (disch := omega) only [vq0, vq1, vq2, vq3, vq4, vq5, tagOf, reduceIte, reduceCtorEq, Nat.reduceEqDiff, Nat.reduceAdd, Nat.reduceSub, Nat.reduceMul, Nat.reduceLT, Nat.reduceLeDiff, Int.reduceToNat, Nat.reduceBEq, tq1, tq2, tq3, r2, r3, r5, m0, m1, hc, hc2, o1, o2', t1, t2, eb, ez]
      exact ⟨k - 1, by omega, i + 1, by omega, rfl, gr.trans (g2 _ _ _ _), by omega⟩
    · simp (maxSteps := 10000000) (disch := omega) only [vq0, vq1, vq2, vq3, vq4, vq5, tagOf, reduceIte, reduceCtorEq, Nat.reduceEqDiff, Nat.reduceAdd, Nat.reduceSub, Nat.reduceMul, Nat.reduceLT, Nat.reduceLeDiff, Int.reduceToNat, Nat.reduceBEq, tq1, tq2, tq3, r2, r3, r5, m0, m1]
      exact gr
  · exact ⟨0, by omega, by simp (maxSteps := 10000000) (disch := omega) only [vq0, vq1, vq2, vq3, vq4, vq5, tagOf, reduceIte, reduceCtorEq, Nat.reduceEqDiff, Nat.reduceAdd, Nat.reduceSub, Nat.reduceMul, Nat.reduceLT, Nat.reduceLeDiff, Int.reduceToNat, Nat.reduceBEq, tq1, tq2, tq3], by simp (maxSteps := 10000000) (disch := omega) only [vq0, vq1, vq2, vq3, vq4, vq5, tagOf, reduceIte, reduceCtorEq, Nat.reduceEqDiff, Nat.reduceAdd, Nat.reduceSub, Nat.reduceMul, Nat.reduceLT, Nat.reduceLeDiff, Int.reduceToNat, Nat.reduceBEq, tq1, tq2, tq3], by simp (maxSteps := 10000000) (disch := omega) only [vq0, vq1, vq2, vq3, vq4, vq5, tagOf, reduceIte, reduceCtorEq, Nat.reduceEqDiff, Nat.reduceAdd, Nat.reduceSub, Nat.reduceMul, Nat.reduceLT, Nat.reduceLeDiff, Int.reduceToNat, Nat.reduceBEq, tq1, tq2, tq3]; rfl, by simp (maxSteps := 10000000) (disch := omega) only [vq0, vq1, vq2, vq3, vq4, vq5, tagOf, reduceIte, reduceCtorEq, Nat.reduceEqDiff, Nat.reduceAdd, Nat.reduceSub, Nat.reduceMul, Nat.reduceLT, Nat.reduceLeDiff, Int.reduceToNat, Nat.reduceBEq, tq1, tq2, tq3], by simp (maxSteps := 10000000) (disch := omega) only [vq0, vq1, vq2, vq3, vq4, vq5, tagOf, reduceIte, reduceCtorEq, Nat.reduceEqDiff, Nat.reduceAdd, Nat.reduceSub, Nat.reduceMul, Nat.reduceLT, Nat.reduceLeDiff, Int.reduceToNat, Nat.reduceBEq, tq1, tq2, tq3], gn _ _, by simp (maxSteps := 10000000) (disch := omega) only [vq0, vq1, vq2, vq3, vq4, vq5, tagOf, reduceIte, reduceCtorEq, Nat.reduceEqDiff, Nat.reduceAdd, Nat.reduceSub, Nat.reduceMul, Nat.reduceLT, Nat.reduceLeDiff, Int.reduceToNat, Nat.reduceBEq, tq1, tq2, tq3]; omega⟩
theorem okSrc_plain : okSrc E (some t_s_laminaref17_Record) = some true := by kernel_rfl
theorem okSrc_prog : okSrc E (some t_s_diff_Record) = some true := by kernel_rfl
theorem okSrc_bytes : okSrc E (some t_s_uint8) = some true := by kernel_rfl
theorem drow_of {h : Heap} {w : Value} {items : List (Rec × Value)} {recs : List Rec} (hi : items.map (·.1) = recs) (hr : RowV h 4 w (items.flatMap recC)) (hd : ∀ p ∈ items, BRow h p.2 p.1.data) : DRow h w recs := ⟨items, hi, hr, hd⟩
theorem plainDiff_ok (d : Dif) (v : Value) (h : Heap) (hv : DRow h v d.recs) (hL : d.recs.length ≤ 1000000) :
    Ret E f_laminalaw23_plainDiff [.agg ⟨difC d v⟩] h (fun u h' => Grow h h' ∧ ∃ w, u = .agg ⟨difC d w⟩ ∧ DRow h' w d.recs) := by
  refine ret_fun is_laminalaw23_plainDiff (by simp) ?_
  unfold g_laminalaw23_plainDiff difC
  have gn : ∀ b1 b2 b3 x : Blk, Grow h ((((h.new b1).new b2).new b3).set (h.next + 2) x) := fun b1 b2 b3 x => (((Grow.new h b1).more b2).more b3).set (by omega) x
  obtain ⟨a, c, rfl⟩ := hv.is
  simp (maxSteps := 10000000) (disch := omega) only [vq0, vq1, vq2, vq3, vq4, vq5, tagOf, reduceIte, reduceCtorEq, Nat.reduceEqDiff, Nat.reduceAdd, Nat.reduceSub, Nat.reduceMul, Nat.reduceLT, Nat.reduceLeDiff, Int.reduceToNat, Nat.reduceBEq, tq1, tq2, tq3]
  refine r_loop (k := d.recs.length) (fun k ρ h' => ∃ (i : Nat) (w : Value) (items : List (Rec × Value)), i + k = d.recs.length ∧ items.map (·.1) = d.recs.take i ∧ (∀ p ∈ items, BRow h p.2 p.1.data) ∧ Own h h' 4 t_laminaref17_Record w (items.flatMap recC) ∧ blkOf w ≠ some (h.next + 2) ∧ blkOf w ≠ some (h.next + 1) ∧
    ρ 2 = .pointer (some ⟨h.next + 1, 0, none⟩) ∧ ρ 3 = .pointer (some ⟨h.next + 2, 0, none⟩) ∧ ρ 12 = .slice a d.recs.length c ∧ ρ 13 = .int .i64 d.recs.length ∧ ρ 14 = .int .i64 (i : Int) ∧
    h'.get (h.next + 2) = some (.cells [.int .i64 d.fr, .int .i64 d.to, w] true none) ∧ h'.get (h.next + 1) = some (.cells [.int .i64 0, .int .i64 0, .slice none 0 0] true none) ∧ Grow h h' ∧ h.next + 2 < h'.next) ?_ ?_
  · rintro k ρ h' ⟨i, w, items, hk, hit, hib, how, hbw, hbw2, r2, r3, r12, r13, r14, m2, m1, gr, hn⟩
    unfold g_laminalaw23_plainDiff_L0
    have ow := how.row.one
    rcases Nat.lt_or_ge i d.recs.length with hi | hi
    · have hr : d.recs[i]? = some d.recs[i] := List.getElem?_eq_getElem hi
      have htk : d.recs.take (i + 1) = d.recs.take i ++ [d.recs[i]] := by rw [List.take_add_one, hr]; rfl
      have hil : items.length = i := by
        have := congrArg List.length hit
        rw [List.length_map, List.length_take] at this
        omega
      have hne : d.recs ≠ [] := fun e => by rw [e] at hi; simp at hi
      obtain ⟨b, o, c', he, hb, hel⟩ := hv.elems hne
      cases he
      obtain ⟨dv, hc, hbr⟩ := hel i _ hr
      have o1 := hbr.one
      have cdv : cellsOf dv = [dv] := by obtain ⟨_, _, e⟩ := hbr.is; rw [e]; rfl
      rw [← gr.get b hb] at hc
      generalize d.recs[i] = r at hr hc hbr htk
      simp (maxSteps := 10000000) (disch := omega) only [vq0, vq1, vq2, vq3, vq4, vq5, tagOf, reduceIte, reduceCtorEq, Nat.reduceEqDiff, Nat.reduceAdd, Nat.reduceSub, Nat.reduceMul, Nat.reduceLT, Nat.reduceLeDiff, Int.reduceToNat, Nat.reduceBEq, tq1, tq2, tq3, r2, r3, r12, r13, r14, m2, hc, o1, ow, cdv]
      have g1 : Grow h' ((h'.new (.cells [.int .i64 0, .int .i64 0, .bool false, .slice none 0 0] true none)).set h'.next (.cells [.int .i64 r.at_, .int .i64 r.len, .bool r.zero, dv] true none)) := (Grow.new h' _).set (Nat.le_refl _) _
      obtain ⟨w2, h2, happ, ow2, g2, hn2, hbk, hkeep⟩ := own_app sl_s_laminaref17_Record okSrc_plain (h := (((h'.new (.cells [.int .i64 0, .int .i64 0, .bool false, .slice none 0 0] true none)).set h'.next (.cells [.int .i64 r.at_, .int .i64 r.len, .bool r.zero, dv] true none)).new (.cells [.int .i64 r.at_, .int .i64 r.len, .bool r.zero, dv] true none)))
        (how.grow (g1.trans (.new _ _))) ((gr.trans g1).more _) (b2 := h'.next + 1) (o2 := 0) (n := 1) (c2 := 1) (new := [.int .i64 r.at_, .int .i64 r.len, .bool r.zero, dv]) (by simp (maxSteps := 10000000) (disch := omega) only [vq0, vq1, vq2, vq3, vq4, vq5, tagOf, reduceIte, reduceCtorEq, Nat.reduceEqDiff, Nat.reduceAdd, Nat.reduceSub, Nat.reduceMul, Nat.reduceLT, Nat.reduceLeDiff, Int.reduceToNat, Nat.reduceBEq, tq1, tq2, tq3]) (by omega) (by simp (maxSteps := 10000000) (disch := omega) only [vq0, vq1, vq2, vq3, vq4, vq5, tagOf, reduceIte, reduceCtorEq, Nat.reduceEqDiff, Nat.reduceAdd, Nat.reduceSub, Nat.reduceMul, Nat.reduceLT, Nat.reduceLeDiff, Int.reduceToNat, Nat.reduceBEq, tq1, tq2, tq3, o1]) (by rw [flat_len (fun p _ => recC_len p)]; simp; omega) (by decide)
      rw [happ]
      have hx : ((((h'.new (.cells [.int .i64 0, .int .i64 0, .bool false, .slice none 0 0] true none)).set h'.next (.cells [.int .i64 r.at_, .int .i64 r.len, .bool r.zero, dv] true none)).new (.cells [.int .i64 r.at_, .int .i64 r.len, .bool r.zero, dv] true none))).next = h'.next + 2 := rfl
      rw [hx] at hn2 hbk hkeep
      have k2 := hkeep (h.next + 2) (by omega) hbw
      have k1 := hkeep (h.next + 1) (by omega) hbw2
      rw [get_new_ne (by simp (maxSteps := 10000000) (disch := omega) only [vq0, vq1, vq2, vq3, vq4, vq5, tagOf, reduceIte, reduceCtorEq, Nat.reduceEqDiff, Nat.reduceAdd, Nat.reduceSub, Nat.reduceMul, Nat.reduceLT, Nat.reduceLeDiff, Int.reduceToNat, Nat.reduceBEq, tq1, tq2, tq3]; omega), get_set_ne (by omega), get_new_ne (by omega)] at k2 k1
      rw [m2] at k2
      rw [m1] at k1
      obtain ⟨aw, nw, cw, rfl, _⟩ := ow2.row.is
      simp (maxSteps := 10000000) (disch := omega) only [vq0, vq1, vq2, vq3, vq4, vq5, tagOf, reduceIte, reduceCtorEq, Nat.reduceEqDiff, Nat.reduceAdd, Nat.reduceSub, Nat.reduceMul, Nat.reduceLT, Nat.reduceLeDiff, Int.reduceToNat, Nat.reduceBEq, tq1, tq2, tq3, r2, r3, r12, r13, r14, k2]
      refine ⟨k - 1, by omega, i + 1, _, items ++ [(r, dv)], by omega, by rw [List.map_append, hit, htk]; rfl, fun p hp => ?_, ?_, by rw [hbk]; simp; omega, by rw [hbk]; simp; omega, rfl, rfl, k1, g2.set (by omega) _, by omega⟩
      · rcases List.mem_append.1 hp with hp | hp
        · exact hib p hp
        · rw [List.mem_singleton] at hp
          subst hp
          exact hbr
      · rw [List.flatMap_append]
        refine Own.keep ow2 (Nat.le_refl _) fun b hb => get_set_ne fun e => ?_
        subst e
        rw [hbk] at hb
        have := Option.some.inj hb
        omega
    · have hd0 : d.recs.take i = d.recs := List.take_of_length_le hi
      rw [hd0] at hit
      simp (maxSteps := 10000000) (disch := omega) only [vq0, vq1, vq2, vq3, vq4, vq5, tagOf, reduceIte, reduceCtorEq, Nat.reduceEqDiff, Nat.reduceAdd, Nat.reduceSub, Nat.reduceMul, Nat.reduceLT, Nat.reduceLeDiff, Int.reduceToNat, Nat.reduceBEq, tq1, tq2, tq3, r2, r3, r12, r13, r14, m2, m1, ow]
      refine ⟨gr.set (by omega) _, w, rfl, drow_of hit (RowV.keep how.row (Nat.le_refl _) fun b hb hlt => get_set_ne fun e => ?_) fun p hp => (hib p hp).grow (gr.set (by omega) _)⟩
      subst e
      exact hbw2 hb
  · refine ⟨0, .slice none 0 0, [], by omega, rfl, (fun _ h => nomatch h), .nil _ _ _ _, by simp [blkOf], by simp [blkOf], by simp (maxSteps := 10000000) (disch := omega) only [vq0, vq1, vq2, vq3, vq4, vq5, tagOf, reduceIte, reduceCtorEq, Nat.reduceEqDiff, Nat.reduceAdd, Nat.reduceSub, Nat.reduceMul, Nat.reduceLT, Nat.reduceLeDiff, Int.reduceToNat, Nat.reduceBEq, tq1, tq2, tq3], by simp (maxSteps := 10000000) (disch := omega) only [vq0, vq1, vq2, vq3, vq4, vq5, tagOf, reduceIte, reduceCtorEq, Nat.reduceEqDiff, Nat.reduceAdd, Nat.reduceSub, Nat.reduceMul, Nat.reduceLT, Nat.reduceLeDiff, Int.reduceToNat, Nat.reduceBEq, tq1, tq2, tq3], by simp (maxSteps := 10000000) (disch := omega) only [vq0, vq1, vq2, vq3, vq4, vq5, tagOf, reduceIte, reduceCtorEq, Nat.reduceEqDiff, Nat.reduceAdd, Nat.reduceSub, Nat.reduceMul, Nat.reduceLT, Nat.reduceLeDiff, Int.reduceToNat, Nat.reduceBEq, tq1, tq2, tq3], by simp (maxSteps := 10000000) (disch := omega) only [vq0, vq1, vq2, vq3, vq4, vq5, tagOf, reduceIte, reduceCtorEq, Nat.reduceEqDiff, Nat.reduceAdd, Nat.reduceSub, Nat.reduceMul, Nat.reduceLT, Nat.reduceLeDiff, Int.reduceToNat, Nat.reduceBEq, tq1, tq2, tq3], by simp (maxSteps := 10000000) (disch := omega) only [vq0, vq1, vq2, vq3, vq4, vq5, tagOf, reduceIte, reduceCtorEq, Nat.reduceEqDiff, Nat.reduceAdd, Nat.reduceSub, Nat.reduceMul, Nat.reduceLT, Nat.reduceLeDiff, Int.reduceToNat, Nat.reduceBEq, tq1, tq2, tq3]; rfl, by simp (maxSteps := 10000000) (disch := omega) only [vq0, vq1, vq2, vq3, vq4, vq5, tagOf, reduceIte, reduceCtorEq, Nat.reduceEqDiff, Nat.reduceAdd, Nat.reduceSub, Nat.reduceMul, Nat.reduceLT, Nat.reduceLeDiff, Int.reduceToNat, Nat.reduceBEq, tq1, tq2, tq3], by simp (maxSteps := 10000000) (disch := omega) only [vq0, vq1, vq2, vq3, vq4, vq5, tagOf, reduceIte, reduceCtorEq, Nat.reduceEqDiff, Nat.reduceAdd, Nat.reduceSub, Nat.reduceMul, Nat.reduceLT, Nat.reduceLeDiff, Int.reduceToNat, Nat.reduceBEq, tq1, tq2, tq3], gn _ _ _ _, by simp (maxSteps := 10000000) (disch := omega) only [vq0, vq1, vq2, vq3, vq4, vq5, tagOf, reduceIte, reduceCtorEq, Nat.reduceEqDiff, Nat.reduceAdd, Nat.reduceSub, Nat.reduceMul, Nat.reduceLT, Nat.reduceLeDiff, Int.reduceToNat, Nat.reduceBEq, tq1, tq2, tq3]; omega⟩
end Go.Proofs.Ythkpbhdljbdliaa.C
