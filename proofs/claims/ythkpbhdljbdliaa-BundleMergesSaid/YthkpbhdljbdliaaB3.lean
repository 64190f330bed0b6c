/- B3: a sheet: made; noughts told; a diff told. -/
import Derived.Test.YthkpbhdljbdliaaB2
import Derived.Test.YthkpbhdljbdliaaSh
open Go Go.Vi Go.Bm
namespace Go.Proofs.Ythkpbhdljbdliaa.C
set_option linter.unusedSimpArgs false
set_option maxRecDepth 100000
set_option maxHeartbeats 40000000
theorem newSheet_ok (n : Nat) (hn : n ≤ 4096) (h : Heap) : Ret E f_bundle_newSheet [.int .i64 n] h (fun u h' => Grow h h' ∧ u = .pointer (some ⟨h.next + 2, 0, none⟩) ∧ Sheet h' (h.next + 2) h.next (h.next + 1) n fun _ => none) := by
  refine ret_fun is_bundle_newSheet (by simp) ?_
  unfold g_bundle_newSheet
  simp (maxSteps := 10000000) (disch := omega) only [vq0, vq1, vq2, vq3, vq4, vq5, tagOf, reduceIte, reduceCtorEq, Nat.reduceEqDiff, Nat.reduceAdd, Nat.reduceSub, Nat.reduceMul, Nat.reduceLT, Nat.reduceLeDiff, Int.reduceToNat, Nat.reduceBEq, tq1, tq2, tq3]
  have hx : (((h.new (.cells (List.replicate n (.bool false)) true none)).new (.cells (List.replicate n (.int .u8 0)) true none)).new (.cells [.slice (some ⟨h.next, 0, none⟩) n n, .slice (some ⟨h.next + 1, 0, none⟩) n n] true none)).next = h.next + 3 := rfl
  refine ⟨((Grow.new h _).more _).more _, by simp (maxSteps := 10000000) (disch := omega) only [vq0, vq1, vq2, vq3, vq4, vq5, tagOf, reduceIte, reduceCtorEq, Nat.reduceEqDiff, Nat.reduceAdd, Nat.reduceSub, Nat.reduceMul, Nat.reduceLT, Nat.reduceLeDiff, Int.reduceToNat, Nat.reduceBEq, tq1, tq2, tq3], by simp (maxSteps := 10000000) (disch := omega) only [vq0, vq1, vq2, vq3, vq4, vq5, tagOf, reduceIte, reduceCtorEq, Nat.reduceEqDiff, Nat.reduceAdd, Nat.reduceSub, Nat.reduceMul, Nat.reduceLT, Nat.reduceLeDiff, Int.reduceToNat, Nat.reduceBEq, tq1, tq2, tq3]; rw [tab_rep]; rfl, by simp (maxSteps := 10000000) (disch := omega) only [vq0, vq1, vq2, vq3, vq4, vq5, tagOf, reduceIte, reduceCtorEq, Nat.reduceEqDiff, Nat.reduceAdd, Nat.reduceSub, Nat.reduceMul, Nat.reduceLT, Nat.reduceLeDiff, Int.reduceToNat, Nat.reduceBEq, tq1, tq2, tq3]; rw [tab_rep]; rfl, by omega, by rw [hx]; omega⟩
theorem zero_ok (b t s n : Nat) (S : Nat → Option UInt8) (f g : Int) (h : Heap) (hx : Sheet h b t s n S) (hn : n ≤ 4096) (hf : 0 ≤ f) (hf1 : f ≤ 10000) (hg : in64 g) :
    Ret E f_p_bundle_sheet_zero [.pointer (some ⟨b, 0, none⟩), .int .i64 f, .int .i64 g] h (fun _ h' => But t s h h' ∧ Sheet h' b t s n fun j => if f ≤ (j : Int) ∧ (j : Int) < g then some 0 else S j) := by
  refine ret_fun is_p_bundle_sheet_zero (by simp) ?_
  unfold g_p_bundle_sheet_zero
  obtain ⟨g0, g1⟩ := hg
  simp (maxSteps := 10000000) (disch := omega) only [vq0, vq1, vq2, vq3, vq4, vq5, tagOf, reduceIte, reduceCtorEq, Nat.reduceEqDiff, Nat.reduceAdd, Nat.reduceSub, Nat.reduceMul, Nat.reduceLT, Nat.reduceLeDiff, Int.reduceToNat, Nat.reduceBEq, tq1, tq2, tq3]
  refine r_loop (k := n) (fun k ρ h' => ∃ (i : Nat), f ≤ i ∧ n + f.toNat ≤ i + k ∧ (i : Int) ≤ 20000 ∧ ρ 0 = .pointer (some ⟨b, 0, none⟩) ∧ ρ 2 = .int .i64 g ∧ ρ 6 = .int .i64 (i : Int) ∧ But t s h h' ∧ Sheet h' b t s n fun j => if f ≤ (j : Int) ∧ j < i ∧ (j : Int) < g then some 0 else S j) ?_ ?_
  · rintro k ρ h' ⟨i, hfi, hk, hi2, r0, r2, r6, bt, x⟩
    unfold g_p_bundle_sheet_zero_L0
    have x1 := x.hs
    have x2 := x.ht
    have x3 := x.hb
    obtain ⟨n1, n2, n3⟩ := x.ne
    rcases Nat.lt_or_ge i n with hi | hi
    · by_cases hg : (i : Int) < g
      · have nx : ∀ j : Nat, (if j = i then some (0 : UInt8) else if f ≤ (j : Int) ∧ j < i ∧ (j : Int) < g then some 0 else S j) = if f ≤ (j : Int) ∧ j < i + 1 ∧ (j : Int) < g then some 0 else S j := fun j => by
          by_cases e : j = i
          · rw [if_pos e, if_pos ⟨by omega, by omega, by omega⟩]
          · rw [if_neg e]
            by_cases c1 : f ≤ (j : Int) ∧ j < i ∧ (j : Int) < g
            · rw [if_pos c1, if_pos ⟨c1.1, by omega, c1.2.2⟩]
            · rw [if_neg c1, if_neg fun q => c1 ⟨q.1, by omega, q.2.2⟩]
        by_cases hng : (n : Int) < g
        · simp (maxSteps := 10000000) (disch := omega) only [vq0, vq1, vq2, vq3, vq4, vq5, tagOf, reduceIte, reduceCtorEq, Nat.reduceEqDiff, Nat.reduceAdd, Nat.reduceSub, Nat.reduceMul, Nat.reduceLT, Nat.reduceLeDiff, Int.reduceToNat, Nat.reduceBEq, tq1, tq2, tq3, r0, r2, r6, x1, mn_r, x2, x3, tab_len]
          exact ⟨k - 1, by omega, i + 1, by omega, by omega, by omega, rfl, (bt.setx _).sety _, (x.tell i 0).congr fun j hj => nx j⟩
        · simp (maxSteps := 10000000) (disch := omega) only [vq0, vq1, vq2, vq3, vq4, vq5, tagOf, reduceIte, reduceCtorEq, Nat.reduceEqDiff, Nat.reduceAdd, Nat.reduceSub, Nat.reduceMul, Nat.reduceLT, Nat.reduceLeDiff, Int.reduceToNat, Nat.reduceBEq, tq1, tq2, tq3, r0, r2, r6, x1, mn_l, x2, x3, tab_len]
          exact ⟨k - 1, by omega, i + 1, by omega, by omega, by omega, rfl, (bt.setx _).sety _, (x.tell i 0).congr fun j hj => nx j⟩
      · by_cases hng : (n : Int) < g
        · omega
        · simp (maxSteps := 10000000) (disch := omega) only [vq0, vq1, vq2, vq3, vq4, vq5, tagOf, reduceIte, reduceCtorEq, Nat.reduceEqDiff, Nat.reduceAdd, Nat.reduceSub, Nat.reduceMul, Nat.reduceLT, Nat.reduceLeDiff, Int.reduceToNat, Nat.reduceBEq, tq1, tq2, tq3, r0, r2, r6, x1, mn_l]
          exact ⟨bt, x.congr fun j hj => by
            by_cases c1 : f ≤ (j : Int) ∧ (j : Int) < g
            · rw [if_pos c1, if_pos ⟨c1.1, by omega, c1.2⟩]
            · rw [if_neg c1, if_neg fun q => c1 ⟨q.1, q.2.2⟩]⟩
    · by_cases hng : (n : Int) < g
      · simp (maxSteps := 10000000) (disch := omega) only [vq0, vq1, vq2, vq3, vq4, vq5, tagOf, reduceIte, reduceCtorEq, Nat.reduceEqDiff, Nat.reduceAdd, Nat.reduceSub, Nat.reduceMul, Nat.reduceLT, Nat.reduceLeDiff, Int.reduceToNat, Nat.reduceBEq, tq1, tq2, tq3, r0, r2, r6, x1, mn_r]
        exact ⟨bt, x.congr fun j hj => by
          by_cases c1 : f ≤ (j : Int) ∧ (j : Int) < g
          · rw [if_pos c1, if_pos ⟨c1.1, by omega, c1.2⟩]
          · rw [if_neg c1, if_neg fun q => c1 ⟨q.1, q.2.2⟩]⟩
      · simp (maxSteps := 10000000) (disch := omega) only [vq0, vq1, vq2, vq3, vq4, vq5, tagOf, reduceIte, reduceCtorEq, Nat.reduceEqDiff, Nat.reduceAdd, Nat.reduceSub, Nat.reduceMul, Nat.reduceLT, Nat.reduceLeDiff, Int.reduceToNat, Nat.reduceBEq, tq1, tq2, tq3, r0, r2, r6, x1, mn_l]
        exact ⟨bt, x.congr fun j hj => by
          by_cases c1 : f ≤ (j : Int) ∧ (j : Int) < g
          · rw [if_pos c1, if_pos ⟨c1.1, by omega, c1.2⟩]
          · rw [if_neg c1, if_neg fun q => c1 ⟨q.1, q.2.2⟩]⟩
  · refine ⟨f.toNat, by omega, by omega, by omega, by simp (maxSteps := 10000000) (disch := omega) only [vq0, vq1, vq2, vq3, vq4, vq5, tagOf, reduceIte, reduceCtorEq, Nat.reduceEqDiff, Nat.reduceAdd, Nat.reduceSub, Nat.reduceMul, Nat.reduceLT, Nat.reduceLeDiff, Int.reduceToNat, Nat.reduceBEq, tq1, tq2, tq3], by simp (maxSteps := 10000000) (disch := omega) only [vq0, vq1, vq2, vq3, vq4, vq5, tagOf, reduceIte, reduceCtorEq, Nat.reduceEqDiff, Nat.reduceAdd, Nat.reduceSub, Nat.reduceMul, Nat.reduceLT, Nat.reduceLeDiff, Int.reduceToNat, Nat.reduceBEq, tq1, tq2, tq3], by simp (maxSteps := 10000000) (disch := omega) only [vq0, vq1, vq2, vq3, vq4, vq5, tagOf, reduceIte, reduceCtorEq, Nat.reduceEqDiff, Nat.reduceAdd, Nat.reduceSub, Nat.reduceMul, Nat.reduceLT, Nat.reduceLeDiff, Int.reduceToNat, Nat.reduceBEq, tq1, tq2, tq3]; rw [Int.toNat_of_nonneg hf], .refl _ _ _, hx.congr fun j hj => ?_⟩
    rw [if_neg (by omega)]
theorem copy_bytes {h : Heap} {b o n c : Nat} {x : Value} {l : List UInt8} {cs : List Value} (hx : BRow h x l) (hg : h.get b = some (.cells cs true none)) (hp : 0 < min l.length n) (hf : o + min l.length n ≤ cs.length) :
    copyV E t_s_uint8 (.slice (some ⟨b, o, none⟩) n c) x h = some (.int .i64 (min l.length n : Nat), h.set b (.cells (splice cs o ((l.map byteV).take (min l.length n))) true none)) := by
  have := copy_row (E := E) (b := b) (o := o) (dlen := n) (dcap := c) (n := l.length) sl_s_uint8 hx (by simp) (one_byte _) hg (by omega)
  rw [if_neg (by omega), Nat.mul_one] at this
  exact this
theorem copy_empty {h : Heap} {b o n c : Nat} {x : Value} {cs : List Value} (hx : BRow h x []) (hg : h.get b = some (.cells cs true none)) (hf : o ≤ cs.length) :
    copyV E t_s_uint8 (.slice (some ⟨b, o, none⟩) n c) x h = some (.int .i64 0, h) := by
  have := copy_row (E := E) (b := b) (o := o) (dlen := n) (dcap := c) (n := 0) sl_s_uint8 hx (by simp) rfl hg (by simp; omega)
  rw [if_pos (by simp)] at this
  simpa using this
theorem tell_ok (b t s n : Nat) (S : Nat → Option UInt8) (d : Dif) (v : Value) (h0 h : Heap) (hx : Sheet h b t s n S) (hn : n ≤ 4096) (hd : DRow h0 v d.recs) (g0 : Grow h0 h) (h0t : h0.next ≤ t) (h0s : h0.next ≤ s) (hL : d.recs.length ≤ 1000000)
    (hgood : ∀ r ∈ d.recs, 0 ≤ r.at_ ∧ 1 ≤ r.len ∧ r.at_ + r.len ≤ 4096 ∧ (r.data.length : Int) = if r.zero then 0 else r.len) :
    Ret E f_p_bundle_sheet_tell [.pointer (some ⟨b, 0, none⟩), .agg ⟨difC d v⟩] h (fun _ h' => But t s h h' ∧ Sheet h' b t s n (d.recs.foldl tellR S)) := by
  refine ret_fun is_p_bundle_sheet_tell (by simp) ?_
  unfold g_p_bundle_sheet_tell difC
  obtain ⟨a, c, rfl⟩ := hd.is
  simp (maxSteps := 10000000) (disch := omega) only [vq0, vq1, vq2, vq3, vq4, vq5, tagOf, reduceIte, reduceCtorEq, Nat.reduceEqDiff, Nat.reduceAdd, Nat.reduceSub, Nat.reduceMul, Nat.reduceLT, Nat.reduceLeDiff, Int.reduceToNat, Nat.reduceBEq, tq1, tq2, tq3]
  refine r_loop (k := d.recs.length) (fun k ρ h' => ∃ (i : Nat), i + k = d.recs.length ∧ ρ 0 = .pointer (some ⟨b, 0, none⟩) ∧ ρ 7 = .slice a d.recs.length c ∧ ρ 8 = .int .i64 d.recs.length ∧ ρ 9 = .int .i64 (i : Int) ∧ But t s h h' ∧ Sheet h' b t s n ((d.recs.take i).foldl tellR S)) ?_ ?_
  · rintro k ρ h' ⟨i, hk, r0, r7, r8, r9, bt, x⟩
    unfold g_p_bundle_sheet_tell_L0
    rcases Nat.lt_or_ge i d.recs.length with hi | hi
    · have hr : d.recs[i]? = some d.recs[i] := List.getElem?_eq_getElem hi
      have htk : d.recs.take (i + 1) = d.recs.take i ++ [d.recs[i]] := by rw [List.take_add_one, hr]; rfl
      have hgi := hgood _ (List.getElem_mem hi)
      have hne : d.recs ≠ [] := fun e => by rw [e] at hi; simp at hi
      obtain ⟨b0, o, c', he, hb, hel⟩ := hd.elems hne
      cases he
      obtain ⟨dv, hc, hbr⟩ := hel i _ hr
      have gh : Grow h0 h' := ⟨Nat.le_trans g0.next bt.next, fun c hc => by rw [bt.get c (Nat.lt_of_lt_of_le hc g0.next) (by omega) (by omega), g0.get c hc]⟩
      rw [← gh.get b0 hb] at hc
      have o1 := hbr.one
      generalize d.recs[i] = r at hr hc hbr htk hgi
      obtain ⟨q1, q2, q3, q4⟩ := hgi
      obtain ⟨A, hA⟩ : ∃ A : Nat, r.at_ = (A : Int) := ⟨r.at_.toNat, by omega⟩
      rw [hA] at hc q1 q3
      have gA : Grow h' ((h'.new (.cells [.int .i64 0, .int .i64 0, .bool false, .slice none 0 0] true none)).set h'.next (.cells [.int .i64 (A : Int), .int .i64 r.len, .bool r.zero, dv] true none)) := (Grow.new h' _).set (Nat.le_refl _) _
      obtain ⟨l1, l2, l3⟩ := x.lt
      simp (maxSteps := 10000000) (disch := omega) only [vq0, vq1, vq2, vq3, vq4, vq5, tagOf, reduceIte, reduceCtorEq, Nat.reduceEqDiff, Nat.reduceAdd, Nat.reduceSub, Nat.reduceMul, Nat.reduceLT, Nat.reduceLeDiff, Int.reduceToNat, Nat.reduceBEq, tq1, tq2, tq3, r0, r7, r8, r9, hc, o1]
      refine (zero_ok b t s n _ A (A + r.len) _ (x.grow gA) hn (by omega) (by omega) ⟨by omega, by omega⟩).mono ?_
      rintro u h2 ⟨bt2, x2⟩
      have p2 := bt2.get h'.next (Nat.lt_succ_self _) (by omega) (by omega)
      rw [get_set_same] at p2
      have xs := x2.hs
      have xb := x2.hb
      have bt3 : But t s h h2 := (bt.trans (.of gA)).trans bt2
      have gh2 : Grow h0 h2 := ⟨Nat.le_trans g0.next bt3.next, fun c hc => by rw [bt3.get c (Nat.lt_of_lt_of_le hc g0.next) (by omega) (by omega), g0.get c hc]⟩
      have hbr2 := hbr.grow gh2
      have hdv : ∀ n, veq (n + 1) dv dv = true := by obtain ⟨_, _, e⟩ := hbr.is; rw [e]; intro n; simp (maxSteps := 10000000) (disch := omega) only [vq0, vq1, vq2, vq3, vq4, vq5, tagOf, reduceIte, reduceCtorEq, Nat.reduceEqDiff, Nat.reduceAdd, Nat.reduceSub, Nat.reduceMul, Nat.reduceLT, Nat.reduceLeDiff, Int.reduceToNat, Nat.reduceBEq, tq1, tq2, tq3]
      by_cases hAn : A < n
      · cases hz : r.zero
        · rw [hz] at q4
          have q4 : (r.data.length : Int) = r.len := q4
          have hcp := copy_bytes (o := A) (n := n - A) (c := n - A) hbr2 xb (by omega) (by rw [tab_len]; omega)
          obtain ⟨X, hX⟩ : ∃ X, splice (tab n fun j => byteV ((if (A : Int) ≤ (j : Int) ∧ (j : Int) < (A : Int) + r.len then some 0 else (d.recs.take i).foldl tellR S j).getD 0)) A ((r.data.map byteV).take (min r.data.length (n - A))) = X := ⟨_, rfl⟩
          rw [hX] at hcp
          simp (maxSteps := 10000000) (disch := omega) only [vq0, vq1, vq2, vq3, vq4, vq5, tagOf, reduceIte, reduceCtorEq, Nat.reduceEqDiff, Nat.reduceAdd, Nat.reduceSub, Nat.reduceMul, Nat.reduceLT, Nat.reduceLeDiff, Int.reduceToNat, Nat.reduceBEq, tq1, tq2, tq3, r0, r7, r8, r9, p2, xs, xb, hcp, tab_len, hdv]
          refine ⟨k - 1, by omega, i + 1, by omega, rfl, bt3.sety _, ?_⟩
          rw [htk, List.foldl_append]
          obtain ⟨n1, n2, n3⟩ := x2.ne
          refine ⟨by rw [get_set_ne n2]; exact x2.hs, ?_, ?_, x2.ne, x2.lt⟩
          · rw [get_set_ne n3, x2.ht]
            congr 2
            refine tab_congr fun j hj => ?_
            show Value.bool _ = Value.bool (tellR _ r j).isSome
            unfold tellR recAt
            rw [hA]
            by_cases c1 : (A : Int) ≤ (j : Int) ∧ (j : Int) < (A : Int) + r.len
            · rw [if_pos c1, if_pos c1]; rfl
            · rw [if_neg c1, if_neg c1]
          · have hlt : ((r.data.map byteV).take (min r.data.length (n - A))).length = min r.data.length (n - A) := by rw [List.length_take, List.length_map]; omega
            rw [get_set_same, ← hX, tab_splice _ _ _ _ (by rw [hlt]; omega), hlt]
            congr 2
            refine tab_congr fun j hj => ?_
            show _ = byteV ((tellR _ r j).getD 0)
            unfold tellR recAt
            rw [hA, hz]
            by_cases c1 : (A : Int) ≤ (j : Int) ∧ (j : Int) < (A : Int) + r.len
            · rw [if_pos (by omega), if_pos c1, List.getD_eq_getElem?_getD, List.getElem?_take, if_pos (by omega), List.getElem?_map, Int.toNat_natCast]
              have : r.data[j - A]? = some r.data[j - A] := List.getElem?_eq_getElem (by omega)
              rw [this]
              simp [List.getD_eq_getElem?_getD, this]
            · rw [if_neg (by omega), if_neg c1, if_neg c1]
        · rw [hz] at q4
          have q4 : (r.data.length : Int) = 0 := q4
          have hnil : r.data = [] := List.length_eq_zero_iff.1 (by omega)
          rw [hnil] at hbr2
          have hcp := copy_empty (o := A) (n := n - A) (c := n - A) hbr2 xb (by rw [tab_len]; omega)
          simp (maxSteps := 10000000) (disch := omega) only [vq0, vq1, vq2, vq3, vq4, vq5, tagOf, reduceIte, reduceCtorEq, Nat.reduceEqDiff, Nat.reduceAdd, Nat.reduceSub, Nat.reduceMul, Nat.reduceLT, Nat.reduceLeDiff, Int.reduceToNat, Nat.reduceBEq, tq1, tq2, tq3, r0, r7, r8, r9, p2, xs, xb, hcp, tab_len, hdv]
          refine ⟨k - 1, by omega, i + 1, by omega, rfl, bt3, ?_⟩
          rw [htk, List.foldl_append]
          refine x2.congr fun j hj => ?_
          show _ = tellR _ r j
          unfold tellR recAt
          rw [hA, hz]
          by_cases c1 : (A : Int) ≤ (j : Int) ∧ (j : Int) < (A : Int) + r.len
          · rw [if_pos c1, if_pos c1]; rfl
          · rw [if_neg c1, if_neg c1]
      · simp (maxSteps := 10000000) (disch := omega) only [vq0, vq1, vq2, vq3, vq4, vq5, tagOf, reduceIte, reduceCtorEq, Nat.reduceEqDiff, Nat.reduceAdd, Nat.reduceSub, Nat.reduceMul, Nat.reduceLT, Nat.reduceLeDiff, Int.reduceToNat, Nat.reduceBEq, tq1, tq2, tq3, r0, r7, r8, r9, p2, xs]
        refine ⟨k - 1, by omega, i + 1, by omega, rfl, bt3, ?_⟩
        rw [htk, List.foldl_append]
        refine x2.congr fun j hj => ?_
        show _ = tellR _ r j
        unfold tellR recAt
        rw [hA, if_neg (by omega), if_neg (by omega)]
    · rw [List.take_of_length_le hi] at x
      simp (maxSteps := 10000000) (disch := omega) only [vq0, vq1, vq2, vq3, vq4, vq5, tagOf, reduceIte, reduceCtorEq, Nat.reduceEqDiff, Nat.reduceAdd, Nat.reduceSub, Nat.reduceMul, Nat.reduceLT, Nat.reduceLeDiff, Int.reduceToNat, Nat.reduceBEq, tq1, tq2, tq3, r0, r7, r8, r9]
      exact ⟨bt, x⟩
  · exact ⟨0, by omega, by simp (maxSteps := 10000000) (disch := omega) only [vq0, vq1, vq2, vq3, vq4, vq5, tagOf, reduceIte, reduceCtorEq, Nat.reduceEqDiff, Nat.reduceAdd, Nat.reduceSub, Nat.reduceMul, Nat.reduceLT, Nat.reduceLeDiff, Int.reduceToNat, Nat.reduceBEq, tq1, tq2, tq3], by simp (maxSteps := 10000000) (disch := omega) only [vq0, vq1, vq2, vq3, vq4, vq5, tagOf, reduceIte, reduceCtorEq, Nat.reduceEqDiff, Nat.reduceAdd, Nat.reduceSub, Nat.reduceMul, Nat.reduceLT, Nat.reduceLeDiff, Int.reduceToNat, Nat.reduceBEq, tq1, tq2, tq3], by simp (maxSteps := 10000000) (disch := omega) only [vq0, vq1, vq2, vq3, vq4, vq5, tagOf, reduceIte, reduceCtorEq, Nat.reduceEqDiff, Nat.reduceAdd, Nat.reduceSub, Nat.reduceMul, Nat.reduceLT, Nat.reduceLeDiff, Int.reduceToNat, Nat.reduceBEq, tq1, tq2, tq3], by simp (maxSteps := 10000000) (disch := omega) only [vq0, vq1, vq2, vq3, vq4, vq5, tagOf, reduceIte, reduceCtorEq, Nat.reduceEqDiff, Nat.reduceAdd, Nat.reduceSub, Nat.reduceMul, Nat.reduceLT, Nat.reduceLeDiff, Int.reduceToNat, Nat.reduceBEq, tq1, tq2, tq3]; rfl, .of (.new h _), hx.grow (.new h _)⟩
end Go.Proofs.Ythkpbhdljbdliaa.C
