/- B4: a sheet's records. -/
import Derived.Test.YthkpbhdljbdliaaB3
open Go Go.Vi Go.Bm
namespace Go.Proofs.Ythkpbhdljbdliaa.C
set_option linter.unusedSimpArgs false
set_option maxRecDepth 100000
set_option maxHeartbeats 40000000
theorem row_ok (b t s n : Nat) (S : Nat → Option UInt8) (f : Nat) (h : Heap) (hx : Sheet h b t s n S) (hn : n ≤ 4096) (hf : f ≤ n) (Q : Value → Heap → Prop) :
    Ret E f_p_bundle_sheet_row [.pointer (some ⟨b, 0, none⟩), .int .i64 f] h Q = Q (.int .i64 (runEnd S (n - f) f : Nat)) h := by
  refine Ret.eq ?_ Q
  refine ret_fun is_p_bundle_sheet_row (by simp) ?_
  unfold g_p_bundle_sheet_row
  simp (maxSteps := 10000000) (disch := omega) only [vq0, vq1, vq2, vq3, vq4, vq5, tagOf, reduceIte, reduceCtorEq, Nat.reduceEqDiff, Nat.reduceAdd, Nat.reduceSub, Nat.reduceMul, Nat.reduceLT, Nat.reduceLeDiff, Int.reduceToNat, Nat.reduceBEq, tq1, tq2, tq3]
  refine r_loop (k := n - f) (fun k ρ h' => ∃ (i : Nat), i + k = n ∧ runEnd S k i = runEnd S (n - f) f ∧ ρ 0 = .pointer (some ⟨b, 0, none⟩) ∧ ρ 1 = .int .i64 (i : Int) ∧ h' = h) ?_ ?_
  · rintro k ρ h' ⟨i, hk, he, r0, r1, rfl⟩
    unfold g_p_bundle_sheet_row_L0
    have x1 := hx.hs
    have x2 := hx.ht
    rcases Nat.lt_or_ge i n with hi | hi
    · obtain ⟨k, rfl⟩ : ∃ m, k = m + 1 := ⟨k - 1, by omega⟩
      rw [runEnd] at he
      have hg := tab_get n (fun j => Value.bool (S j).isSome) hi
      cases hS : (S i).isSome with
      | true =>
        rw [hS, if_pos rfl] at he
        simp only [hS] at hg
        simp (maxSteps := 10000000) (disch := omega) only [vq0, vq1, vq2, vq3, vq4, vq5, tagOf, reduceIte, reduceCtorEq, Nat.reduceEqDiff, Nat.reduceAdd, Nat.reduceSub, Nat.reduceMul, Nat.reduceLT, Nat.reduceLeDiff, Int.reduceToNat, Nat.reduceBEq, tq1, tq2, tq3, r0, r1, x1, x2, hg, tab_len]
        exact ⟨k, by omega, i + 1, by omega, he, rfl⟩
      | false =>
        rw [hS, if_neg (by simp)] at he
        simp only [hS] at hg
        simp (maxSteps := 10000000) (disch := omega) only [vq0, vq1, vq2, vq3, vq4, vq5, tagOf, reduceIte, reduceCtorEq, Nat.reduceEqDiff, Nat.reduceAdd, Nat.reduceSub, Nat.reduceMul, Nat.reduceLT, Nat.reduceLeDiff, Int.reduceToNat, Nat.reduceBEq, tq1, tq2, tq3, r0, r1, x1, x2, hg, tab_len]
        rw [he]
    · have : k = 0 := by omega
      subst this
      rw [runEnd] at he
      simp (maxSteps := 10000000) (disch := omega) only [vq0, vq1, vq2, vq3, vq4, vq5, tagOf, reduceIte, reduceCtorEq, Nat.reduceEqDiff, Nat.reduceAdd, Nat.reduceSub, Nat.reduceMul, Nat.reduceLT, Nat.reduceLeDiff, Int.reduceToNat, Nat.reduceBEq, tq1, tq2, tq3, r0, r1, x1, x2]
      rw [he]
  · exact ⟨f, by omega, rfl, by simp (maxSteps := 10000000) (disch := omega) only [vq0, vq1, vq2, vq3, vq4, vq5, tagOf, reduceIte, reduceCtorEq, Nat.reduceEqDiff, Nat.reduceAdd, Nat.reduceSub, Nat.reduceMul, Nat.reduceLT, Nat.reduceLeDiff, Int.reduceToNat, Nat.reduceBEq, tq1, tq2, tq3], by simp (maxSteps := 10000000) (disch := omega) only [vq0, vq1, vq2, vq3, vq4, vq5, tagOf, reduceIte, reduceCtorEq, Nat.reduceEqDiff, Nat.reduceAdd, Nat.reduceSub, Nat.reduceMul, Nat.reduceLT, Nat.reduceLeDiff, Int.reduceToNat, Nat.reduceBEq, tq1, tq2, tq3], rfl⟩
theorem nz_ret (c : UInt8) (h : Heap) (Q : Value → Heap → Prop) : Ret E f_p_bundle_sheet_record_1 [.int .u8 c.toNat] h Q = Q (.bool (c != 0)) h := by
  refine Ret.eq ?_ Q
  refine ret_fun is_p_bundle_sheet_record_1 (by simp) ?_
  unfold g_p_bundle_sheet_record_1
  have := c.toNat_lt
  by_cases e : c = 0
  · subst e
    have h0 : ((0 : UInt8).toNat : Int) = 0 := rfl
    have h1 : ((0 : UInt8) != 0) = false := rfl
    simp (maxSteps := 10000000) (disch := omega) only [vq0, vq1, vq2, vq3, vq4, vq5, tagOf, reduceIte, reduceCtorEq, Nat.reduceEqDiff, Nat.reduceAdd, Nat.reduceSub, Nat.reduceMul, Nat.reduceLT, Nat.reduceLeDiff, Int.reduceToNat, Nat.reduceBEq, tq1, tq2, tq3, h0, h1]
  · have h0 : c.toNat ≠ 0 := fun q => e (UInt8.toNat_inj.1 q)
    have h1 : (c != 0) = true := by rw [bne_iff_ne]; exact e
    simp (maxSteps := 10000000) (disch := omega) only [vq0, vq1, vq2, vq3, vq4, vq5, tagOf, reduceIte, reduceCtorEq, Nat.reduceEqDiff, Nat.reduceAdd, Nat.reduceSub, Nat.reduceMul, Nat.reduceLT, Nat.reduceLeDiff, Int.reduceToNat, Nat.reduceBEq, tq1, tq2, tq3, h1]
theorem index_ok (d : Value) (l : List UInt8) (h : Heap) (hd : BRow h d l) (hl : l.length ≤ 1000000) :
    Ret E f_slices_IndexFunc_s_byte_byte [d, .func (.func f_p_bundle_sheet_record_1) #[] #[]] h (fun v h' => h' = h ∧ ∃ k : Int, v = .int .i64 k ∧ decide (0 ≤ k) = anyB l) := by
  refine ret_fun is_slices_IndexFunc_s_byte_byte (by simp) ?_
  unfold g_slices_IndexFunc_s_byte_byte
  obtain ⟨a, c, rfl⟩ := hd.is
  simp (maxSteps := 10000000) (disch := omega) only [vq0, vq1, vq2, vq3, vq4, vq5, tagOf, reduceIte, reduceCtorEq, Nat.reduceEqDiff, Nat.reduceAdd, Nat.reduceSub, Nat.reduceMul, Nat.reduceLT, Nat.reduceLeDiff, Int.reduceToNat, Nat.reduceBEq, tq1, tq2, tq3]
  refine r_loop (k := l.length) (fun k ρ h' => ∃ (i : Nat), i + k = l.length ∧ anyB (l.drop i) = anyB l ∧ ρ 0 = .slice a l.length c ∧ ρ 1 = .func (.func f_p_bundle_sheet_record_1) #[] #[] ∧ ρ 7 = .int .i64 l.length ∧ ρ 8 = .int .i64 (i : Int) ∧ h' = h) ?_ ?_
  · rintro k ρ h' ⟨i, hk, he, r0, r1, r7, r8, rfl⟩
    unfold g_slices_IndexFunc_s_byte_byte_L0
    rcases Nat.lt_or_ge i l.length with hi | hi
    · have hc : l[i]? = some l[i] := List.getElem?_eq_getElem hi
      rw [List.drop_eq_getElem_cons hi] at he
      obtain ⟨b, o, c', hq, hb, hel⟩ := hd.elems (fun e => by rw [e] at hi; simp at hi)
      cases hq
      have hce := hel i _ hc
      generalize l[i] = x at hc he hce
      cases hx : (x != 0) with
      | true =>
        rw [show anyB (x :: l.drop (i + 1)) = true by unfold anyB; rw [List.any_cons, hx]; rfl] at he
        simp (maxSteps := 10000000) (disch := omega) only [vq0, vq1, vq2, vq3, vq4, vq5, tagOf, reduceIte, reduceCtorEq, Nat.reduceEqDiff, Nat.reduceAdd, Nat.reduceSub, Nat.reduceMul, Nat.reduceLT, Nat.reduceLeDiff, Int.reduceToNat, Nat.reduceBEq, tq1, tq2, tq3, r0, r1, r7, r8, hce, nz_ret, hx]
        exact ⟨i, rfl, by rw [← he]; exact decide_eq_true (by omega)⟩
      | false =>
        rw [show anyB (x :: l.drop (i + 1)) = anyB (l.drop (i + 1)) by unfold anyB; rw [List.any_cons, hx]; rfl] at he
        simp (maxSteps := 10000000) (disch := omega) only [vq0, vq1, vq2, vq3, vq4, vq5, tagOf, reduceIte, reduceCtorEq, Nat.reduceEqDiff, Nat.reduceAdd, Nat.reduceSub, Nat.reduceMul, Nat.reduceLT, Nat.reduceLeDiff, Int.reduceToNat, Nat.reduceBEq, tq1, tq2, tq3, r0, r1, r7, r8, hce, nz_ret, hx]
        exact ⟨k - 1, by omega, i + 1, by omega, he, rfl⟩
    · rw [List.drop_of_length_le hi] at he
      simp (maxSteps := 10000000) (disch := omega) only [vq0, vq1, vq2, vq3, vq4, vq5, tagOf, reduceIte, reduceCtorEq, Nat.reduceEqDiff, Nat.reduceAdd, Nat.reduceSub, Nat.reduceMul, Nat.reduceLT, Nat.reduceLeDiff, Int.reduceToNat, Nat.reduceBEq, tq1, tq2, tq3, r0, r1, r7, r8]
      exact ⟨-1, rfl, he⟩
  · exact ⟨0, by omega, rfl, by simp (maxSteps := 10000000) (disch := omega) only [vq0, vq1, vq2, vq3, vq4, vq5, tagOf, reduceIte, reduceCtorEq, Nat.reduceEqDiff, Nat.reduceAdd, Nat.reduceSub, Nat.reduceMul, Nat.reduceLT, Nat.reduceLeDiff, Int.reduceToNat, Nat.reduceBEq, tq1, tq2, tq3], by simp (maxSteps := 10000000) (disch := omega) only [vq0, vq1, vq2, vq3, vq4, vq5, tagOf, reduceIte, reduceCtorEq, Nat.reduceEqDiff, Nat.reduceAdd, Nat.reduceSub, Nat.reduceMul, Nat.reduceLT, Nat.reduceLeDiff, Int.reduceToNat, Nat.reduceBEq, tq1, tq2, tq3], by simp (maxSteps := 10000000) (disch := omega) only [vq0, vq1, vq2, vq3, vq4, vq5, tagOf, reduceIte, reduceCtorEq, Nat.reduceEqDiff, Nat.reduceAdd, Nat.reduceSub, Nat.reduceMul, Nat.reduceLT, Nat.reduceLeDiff, Int.reduceToNat, Nat.reduceBEq, tq1, tq2, tq3], by simp (maxSteps := 10000000) (disch := omega) only [vq0, vq1, vq2, vq3, vq4, vq5, tagOf, reduceIte, reduceCtorEq, Nat.reduceEqDiff, Nat.reduceAdd, Nat.reduceSub, Nat.reduceMul, Nat.reduceLT, Nat.reduceLeDiff, Int.reduceToNat, Nat.reduceBEq, tq1, tq2, tq3]; rfl, rfl⟩
theorem contains_ret (d : Value) (l : List UInt8) (h : Heap) (hd : BRow h d l) (hl : l.length ≤ 1000000) (Q : Value → Heap → Prop) :
    Ret E f_slices_ContainsFunc_s_byte_byte [d, .func (.func f_p_bundle_sheet_record_1) #[] #[]] h Q = Q (.bool (anyB l)) h := by
  refine Ret.eq ?_ Q
  refine ret_fun is_slices_ContainsFunc_s_byte_byte (by simp) ?_
  unfold g_slices_ContainsFunc_s_byte_byte
  simp (maxSteps := 10000000) (disch := omega) only [vq0, vq1, vq2, vq3, vq4, vq5, tagOf, reduceIte, reduceCtorEq, Nat.reduceEqDiff, Nat.reduceAdd, Nat.reduceSub, Nat.reduceMul, Nat.reduceLT, Nat.reduceLeDiff, Int.reduceToNat, Nat.reduceBEq, tq1, tq2, tq3]
  refine (index_ok d l h hd hl).mono ?_
  rintro v h' ⟨rfl, k, rfl, hk⟩
  by_cases h0 : 0 ≤ k
  · rw [decide_eq_true h0] at hk
    simp (maxSteps := 10000000) (disch := omega) only [vq0, vq1, vq2, vq3, vq4, vq5, tagOf, reduceIte, reduceCtorEq, Nat.reduceEqDiff, Nat.reduceAdd, Nat.reduceSub, Nat.reduceMul, Nat.reduceLT, Nat.reduceLeDiff, Int.reduceToNat, Nat.reduceBEq, tq1, tq2, tq3]
    rw [← hk]
  · rw [decide_eq_false h0] at hk
    simp (maxSteps := 10000000) (disch := omega) only [vq0, vq1, vq2, vq3, vq4, vq5, tagOf, reduceIte, reduceCtorEq, Nat.reduceEqDiff, Nat.reduceAdd, Nat.reduceSub, Nat.reduceMul, Nat.reduceLT, Nat.reduceLeDiff, Int.reduceToNat, Nat.reduceBEq, tq1, tq2, tq3]
    rw [← hk]
theorem clone_ok (b o n c : Nat) (l : List UInt8) (h : Heap) (hd : BRow h (.slice (some ⟨b, o, none⟩) n c) l) (hp : 0 < l.length) (hl : l.length ≤ 1000000) :
    Ret E f_slices_Clone_s_byte_byte [.slice (some ⟨b, o, none⟩) n c] h (fun v h' => Grow h h' ∧ v = .slice (some ⟨h.next + 1, 0, none⟩) l.length l.length ∧ BRow h' v l ∧ h'.next = h.next + 2) := by
  refine ret_fun is_slices_Clone_s_byte_byte (by simp) ?_
  unfold g_slices_Clone_s_byte_byte
  have hrow := RowV.grow hd (.new h (.cells [] true none))
  have hap := app_own0 (E := E) (n := l.length) (b := h.next) (wr := true) sl_s_uint8 okSrc_bytes hrow (by simp) hp (one_byte _) (get_new_same _ _) (by omega) (by omega)
  simp (maxSteps := 10000000) (disch := omega) only [vq0, vq1, vq2, vq3, vq4, vq5, tagOf, reduceIte, reduceCtorEq, Nat.reduceEqDiff, Nat.reduceAdd, Nat.reduceSub, Nat.reduceMul, Nat.reduceLT, Nat.reduceLeDiff, Int.reduceToNat, Nat.reduceBEq, tq1, tq2, tq3, hap]
  refine ⟨(Grow.new h _).more _, .inr ⟨h.next + 1, 0, l.length, l.length, l.map byteV, true, some (1, t_uint8), Nat.lt_succ_self _, rfl, Nat.le_refl _, by simp, get_new_same _ _, by simp, by rw [List.drop_zero, List.take_length]⟩⟩
theorem record_ok (b t s n : Nat) (S : Nat → Option UInt8) (f g : Nat) (h : Heap) (hx : Sheet h b t s n S) (hn : n ≤ 4096) (hf : f < g) (hg : g ≤ n) :
    Ret E f_p_bundle_sheet_record [.pointer (some ⟨b, 0, none⟩), .int .i64 f, .int .i64 g] h (fun v h' => Grow h h' ∧ ∃ d, v = .agg ⟨recC (mkRec f (segB S f (g - f)), d)⟩ ∧ BRow h' d (mkRec f (segB S f (g - f))).data ∧ ∀ b, blkOf d = some b → h.next ≤ b ∧ b < h'.next) := by
  refine ret_fun is_p_bundle_sheet_record (by simp) ?_
  unfold g_p_bundle_sheet_record
  have x1 := hx.hs
  have x2 := hx.hb
  have hl := segB_len S f (g - f)
  obtain ⟨l1, l2, l3⟩ := hx.lt
  have hbr : BRow h (.slice (some ⟨s, f, none⟩) (g - f) (n - f)) (segB S f (g - f)) :=
    .inr ⟨s, f, g - f, n - f, _, true, none, l3, rfl, by omega, by simp [hl], x2, by rw [tab_len, List.length_map, hl]; omega, by rw [List.length_map, hl]; exact tab_seg n S (by omega)⟩
  have gn : ∀ b1, Grow h (h.new b1) := fun b1 => .new h b1
  have hcon := fun b1 Q => contains_ret (Q := Q) _ _ _ (hbr.grow (gn b1)) (by omega)
  generalize segB S f (g - f) = l at hl hbr hcon ⊢
  have hfn : ¬ n = f := by omega
  cases ha : anyB l with
  | true =>
    have hmk : mkRec f l = ⟨f, l.length, false, l⟩ := by unfold mkRec; rw [ha]; rfl
    rw [hmk]
    simp (maxSteps := 10000000) (disch := omega) only [vq0, vq1, vq2, vq3, vq4, vq5, tagOf, reduceIte, reduceCtorEq, Nat.reduceEqDiff, Nat.reduceAdd, Nat.reduceSub, Nat.reduceMul, Nat.reduceLT, Nat.reduceLeDiff, Int.reduceToNat, Nat.reduceBEq, tq1, tq2, tq3, x1, x2, hcon, ha]
    refine (clone_ok s f (g - f) (n - f) l _ (hbr.grow (gn _)) (by omega) (by omega)).mono ?_
    rintro v h2 ⟨g2, rfl, hb2, hn2⟩
    have hn2 : h2.next = h.next + 1 + 2 := hn2
    have p2 := g2.get h.next (Nat.lt_succ_self _)
    rw [get_new_same] at p2
    have eN : (h.new (.cells [.int .i64 0, .int .i64 0, .bool false, .slice none 0 0] true none)).next = h.next + 1 := rfl
    rw [eN] at hb2
    rw [eN]
    simp (maxSteps := 10000000) (disch := omega) only [vq0, vq1, vq2, vq3, vq4, vq5, tagOf, reduceIte, reduceCtorEq, Nat.reduceEqDiff, Nat.reduceAdd, Nat.reduceSub, Nat.reduceMul, Nat.reduceLT, Nat.reduceLeDiff, Int.reduceToNat, Nat.reduceBEq, tq1, tq2, tq3, p2]
    refine ⟨((gn _).trans g2).set (Nat.le_refl _) _, .slice (some ⟨h.next + 1 + 1, 0, none⟩) l.length l.length, ?_, RowV.keep hb2 (Nat.le_refl _) fun c hc _ => get_set_ne fun e => ?_, fun c hc => ?_⟩
    · unfold recC
      simp only
      rw [show ((g : Int) - f) = (l.length : Int) by omega]
    · have := Option.some.inj hc
      simp only at this
      omega
    · have := Option.some.inj hc
      simp only at this
      show h.next ≤ c ∧ c < h2.next
      omega
  | false =>
    have hmk : mkRec f l = ⟨f, l.length, true, []⟩ := by unfold mkRec; rw [ha]; rfl
    rw [hmk]
    simp (maxSteps := 10000000) (disch := omega) only [vq0, vq1, vq2, vq3, vq4, vq5, tagOf, reduceIte, reduceCtorEq, Nat.reduceEqDiff, Nat.reduceAdd, Nat.reduceSub, Nat.reduceMul, Nat.reduceLT, Nat.reduceLeDiff, Int.reduceToNat, Nat.reduceBEq, tq1, tq2, tq3, x1, x2, hcon, ha]
    refine ⟨(gn _).set (Nat.le_refl _) _, .slice none 0 0, ?_, RowV.nil _ _, fun c hc => by cases hc⟩
    unfold recC
    simp only
    rw [show ((g : Int) - f) = (l.length : Int) by omega]
theorem records_ok (b t s n : Nat) (S : Nat → Option UInt8) (h : Heap) (hx : Sheet h b t s n S) (hn : n ≤ 4096) :
    Ret E f_p_bundle_sheet_records [.pointer (some ⟨b, 0, none⟩)] h (fun v h' => Grow h h' ∧ DNew h.next h' v (runsP S n (n + 1) 0)) := by
  refine ret_fun is_p_bundle_sheet_records (by simp) ?_
  unfold g_p_bundle_sheet_records
  simp (maxSteps := 10000000) (disch := omega) only [vq0, vq1, vq2, vq3, vq4, vq5, tagOf, reduceIte, reduceCtorEq, Nat.reduceEqDiff, Nat.reduceAdd, Nat.reduceSub, Nat.reduceMul, Nat.reduceLT, Nat.reduceLeDiff, Int.reduceToNat, Nat.reduceBEq, tq1, tq2, tq3]
  refine r_loop (k := n + 1) (fun k ρ h' => ∃ (i : Nat) (w : Value) (items : List (Rec × Value)), i ≤ n + 1 ∧ n + 1 ≤ i + k ∧ items.length ≤ i ∧ items.map (·.1) ++ runsP S n k i = runsP S n (n + 1) 0 ∧ (∀ p ∈ items, BRow h' p.2 p.1.data ∧ (∀ b, blkOf p.2 = some b → blkOf w ≠ some b ∧ b < h'.next ∧ h.next ≤ b)) ∧ Own h h' 4 t_diff_Record w (items.flatMap recC) ∧
    ρ 0 = .pointer (some ⟨b, 0, none⟩) ∧ ρ 3 = w ∧ ρ 4 = .int .i64 (i : Int) ∧ Grow h h') ?_ ?_
  · rintro k ρ h' ⟨i, w, items, hin, hk, hil, hru, hib, how, r0, r3, r4, gr⟩
    unfold g_p_bundle_sheet_records_L0
    have x' := hx.grow gr
    have x1 := x'.hs
    have hrow := fun hfn Q => row_ok (Q := Q) b t s n S i h' x' hn hfn
    rcases Nat.lt_or_ge i n with hi | hi
    · obtain ⟨k, rfl⟩ : ∃ m, k = m + 1 := ⟨k - 1, by omega⟩
      have hrl := runEnd_le S (n - i) i
      rw [runsP, if_pos hi] at hru
      by_cases hrun : i < runEnd S (n - i) i
      · rw [if_pos hrun] at hru
        simp (maxSteps := 10000000) (disch := omega) only [vq0, vq1, vq2, vq3, vq4, vq5, tagOf, reduceIte, reduceCtorEq, Nat.reduceEqDiff, Nat.reduceAdd, Nat.reduceSub, Nat.reduceMul, Nat.reduceLT, Nat.reduceLeDiff, Int.reduceToNat, Nat.reduceBEq, tq1, tq2, tq3, r0, r3, r4, x1, hrow]
        refine (record_ok b t s n S i (runEnd S (n - i) i) h' x' hn hrun (by omega)).mono ?_
        rintro v h2 ⟨g2, dv, rfl, hdv, hdb⟩
        generalize hR : mkRec i (segB S i (runEnd S (n - i) i - i)) = R at hru hdv
        generalize runEnd S (n - i) i = g at hrl hrun hru
        have cdv : cellsOf (.agg ⟨recC (R, dv)⟩) = recC (R, dv) := rfl
        have o1 := hdv.one
        unfold recC
        simp (maxSteps := 10000000) (disch := omega) only [vq0, vq1, vq2, vq3, vq4, vq5, tagOf, reduceIte, reduceCtorEq, Nat.reduceEqDiff, Nat.reduceAdd, Nat.reduceSub, Nat.reduceMul, Nat.reduceLT, Nat.reduceLeDiff, Int.reduceToNat, Nat.reduceBEq, tq1, tq2, tq3, r0, r3, r4]
        obtain ⟨w2, h3, happ, ow2, g3, hn3, hbk, hkeep⟩ := own_app sl_s_diff_Record okSrc_prog (h := h2.new (.cells [.int .i64 R.at_, .int .i64 R.len, .bool R.zero, dv] true none)) (how.grow (g2.more _)) ((gr.trans g2).more _) (b2 := h2.next) (o2 := 0) (n := 1) (c2 := 1) (new := [.int .i64 R.at_, .int .i64 R.len, .bool R.zero, dv])
          (by simp (maxSteps := 10000000) (disch := omega) only [vq0, vq1, vq2, vq3, vq4, vq5, tagOf, reduceIte, reduceCtorEq, Nat.reduceEqDiff, Nat.reduceAdd, Nat.reduceSub, Nat.reduceMul, Nat.reduceLT, Nat.reduceLeDiff, Int.reduceToNat, Nat.reduceBEq, tq1, tq2, tq3]) (by omega) (by simp (maxSteps := 10000000) (disch := omega) only [vq0, vq1, vq2, vq3, vq4, vq5, tagOf, reduceIte, reduceCtorEq, Nat.reduceEqDiff, Nat.reduceAdd, Nat.reduceSub, Nat.reduceMul, Nat.reduceLT, Nat.reduceLeDiff, Int.reduceToNat, Nat.reduceBEq, tq1, tq2, tq3, o1]) (by rw [flat_len (fun p _ => recC_len p)]; simp; omega) (by decide)
        have hn3 : h3.next = h2.next + 1 + 1 := hn3
        have hbk : blkOf w2 = some (h2.next + 1) := hbk
        rw [happ]
        simp (maxSteps := 10000000) (disch := omega) only [vq0, vq1, vq2, vq3, vq4, vq5, tagOf, reduceIte, reduceCtorEq, Nat.reduceEqDiff, Nat.reduceAdd, Nat.reduceSub, Nat.reduceMul, Nat.reduceLT, Nat.reduceLeDiff, Int.reduceToNat, Nat.reduceBEq, tq1, tq2, tq3, r0, r3, r4]
        refine ⟨k, by omega, g + 1, w2, items ++ [(R, dv)], by omega, by omega, by simp; omega, by rw [← hru]; simp, fun p hp => ?_, by rw [List.flatMap_append]; exact ow2, rfl, rfl, g3⟩
        have hn2 := g2.next
        have nw : ∀ c, c < h2.next → blkOf w ≠ some c → h3.get c = h2.get c := fun c hc hne => by
          rw [hkeep c (Nat.lt_succ_of_lt hc) hne, get_new_ne (by omega)]
        rcases List.mem_append.1 hp with hp | hp
        · obtain ⟨q1, q2⟩ := hib p hp
          refine ⟨RowV.keep q1 (by omega) fun c hc hlt => by rw [nw c (by omega) (q2 c hc).1, g2.get c hlt], fun c hc => ⟨fun e => ?_, by have := (q2 c hc).2; omega, (q2 c hc).2.2⟩⟩
          rw [hbk] at e
          have := Option.some.inj e
          have := (q2 c hc).2
          omega
        · rw [List.mem_singleton] at hp
          subst hp
          refine ⟨RowV.keep hdv (by omega) fun c hc hlt => nw c hlt fun e => ?_, fun c hc => ⟨fun e => ?_, by have := (hdb c hc).2; omega, by have := (hdb c hc).1; have := gr.next; omega⟩⟩
          · have := (how.lt e).2
            have := (hdb c hc).1
            omega
          · rw [hbk] at e
            have := Option.some.inj e
            have := (hdb c hc).2
            omega
      · rw [if_neg hrun] at hru
        simp (maxSteps := 10000000) (disch := omega) only [vq0, vq1, vq2, vq3, vq4, vq5, tagOf, reduceIte, reduceCtorEq, Nat.reduceEqDiff, Nat.reduceAdd, Nat.reduceSub, Nat.reduceMul, Nat.reduceLT, Nat.reduceLeDiff, Int.reduceToNat, Nat.reduceBEq, tq1, tq2, tq3, r0, r3, r4, x1, hrow]
        exact ⟨k, by omega, i + 1, w, items, by omega, by omega, by omega, hru, hib, how, rfl, rfl, gr⟩
    · have hru2 : items.map (·.1) = runsP S n (n + 1) 0 := by
        rw [← hru]
        cases k with
        | zero => rw [runsP, List.append_nil]
        | succ k => rw [runsP, if_neg (by omega), List.append_nil]
      simp (maxSteps := 10000000) (disch := omega) only [vq0, vq1, vq2, vq3, vq4, vq5, tagOf, reduceIte, reduceCtorEq, Nat.reduceEqDiff, Nat.reduceAdd, Nat.reduceSub, Nat.reduceMul, Nat.reduceLT, Nat.reduceLeDiff, Int.reduceToNat, Nat.reduceBEq, tq1, tq2, tq3, r0, r3, r4, x1]
      exact ⟨gr, items, hru2, how.row, fun c hc => (how.lt hc).1, fun p hp => ⟨(hib p hp).1, fun c hc => ((hib p hp).2 c hc).2.2⟩⟩
  · exact ⟨0, .slice none 0 0, [], by omega, by omega, by simp, rfl, (fun _ h => nomatch h), .nil _ _ _ _, by simp (maxSteps := 10000000) (disch := omega) only [vq0, vq1, vq2, vq3, vq4, vq5, tagOf, reduceIte, reduceCtorEq, Nat.reduceEqDiff, Nat.reduceAdd, Nat.reduceSub, Nat.reduceMul, Nat.reduceLT, Nat.reduceLeDiff, Int.reduceToNat, Nat.reduceBEq, tq1, tq2, tq3], by simp (maxSteps := 10000000) (disch := omega) only [vq0, vq1, vq2, vq3, vq4, vq5, tagOf, reduceIte, reduceCtorEq, Nat.reduceEqDiff, Nat.reduceAdd, Nat.reduceSub, Nat.reduceMul, Nat.reduceLT, Nat.reduceLeDiff, Int.reduceToNat, Nat.reduceBEq, tq1, tq2, tq3], by simp (maxSteps := 10000000) (disch := omega) only [vq0, vq1, vq2, vq3, vq4, vq5, tagOf, reduceIte, reduceCtorEq, Nat.reduceEqDiff, Nat.reduceAdd, Nat.reduceSub, Nat.reduceMul, Nat.reduceLT, Nat.reduceLeDiff, Int.reduceToNat, Nat.reduceBEq, tq1, tq2, tq3]; rfl, .refl h⟩
end Go.Proofs.Ythkpbhdljbdliaa.C
