/- X11: diffs as the program's and as the document's: where their rows lie. -/
import Derived.Test.YtdmakachnphddaaX10
open Nat (reduceEqDiff reduceAdd reduceSub reduceMul reduceLT reduceLeDiff)
open Int (reduceToNat)
open Go Go.Vi Go.Bm
namespace Go.Proofs.Ytdmakachnphddaa.C
set_option linter.unusedSimpArgs false
set_option maxRecDepth 100000
set_option maxHeartbeats 40000000
def DMix (h0 : Heap) (base : Nat) (h : Heap) (v : Value) (recs : List Rec) : Prop := ∃ items : List (Rec × Value), items.map (·.1) = recs ∧ RowV h 4 v (items.flatMap recC) ∧ (∀ b, blkOf v = some b → base ≤ b ∧ b < h.next) ∧ ∀ p ∈ items, BRow h0 p.2 p.1.data
theorem DMix.row {h0 h : Heap} {base : Nat} {v : Value} {recs : List Rec} (x : DMix h0 base h v recs) (g : Grow h0 h) : DRow h v recs := by
  obtain ⟨items, h1, h2, _, h3⟩ := x
  exact ⟨items, h1, h2, fun p hp => (h3 p hp).grow g⟩
def DMP (P : Nat → Prop) (h0 h : Heap) (v : Value) (recs : List Rec) : Prop := ∃ items : List (Rec × Value), items.map (·.1) = recs ∧ RowV h 4 v (items.flatMap recC) ∧ (∀ b, blkOf v = some b → P b) ∧ ∀ p ∈ items, BRow h0 p.2 p.1.data
theorem DMP.row {P : Nat → Prop} {h0 h : Heap} {v : Value} {recs : List Rec} (x : DMP P h0 h v recs) (g : Grow h0 h) : DRow h v recs := by
  obtain ⟨items, h1, h2, _, h3⟩ := x
  exact ⟨items, h1, h2, fun p hp => (h3 p hp).grow g⟩
theorem DMix.dmp {h0 h : Heap} {base : Nat} {v : Value} {recs : List Rec} (x : DMix h0 base h v recs) : DMP (fun c => base ≤ c ∧ c < h.next) h0 h v recs := x
theorem DMP.keep {P Q : Nat → Prop} {h0 h h' : Heap} {v : Value} {recs : List Rec} (x : DMP P h0 h v recs) (hn : h.next ≤ h'.next) (g : ∀ c, P c → h'.get c = h.get c) (i : ∀ c, P c → Q c) : DMP Q h0 h' v recs := by
  obtain ⟨items, h1, h2, h4, h3⟩ := x
  exact ⟨items, h1, RowV.keep h2 hn fun c hc _ => g c (h4 c hc), fun b hb => i b (h4 b hb), h3⟩
theorem plainDiffN_ok (d : Dif) (v : Value) (h0 h : Heap) (hv : DRow h0 v d.recs) (g0 : Grow h0 h) (hL : d.recs.length ≤ 100000000) :
    Ret E FA_ [.agg ⟨difC d v⟩] h (fun u h' => Grow h h' ∧ ∃ w, u = .agg ⟨difC d w⟩ ∧ DMix h0 h.next h' w d.recs) := by
  refine ret_fun IF_ (by simp) ?_
  unfold G0_ difC
  have gn : ∀ b1 b2 b3 x : Blk, Grow h ((((h.new b1).new b2).new b3).set (h.next + 2) x) := fun b1 b2 b3 x => (((Grow.new h b1).more b2).more b3).set (by omega) x
  obtain ⟨a, c, rfl⟩ := hv.is
  simp (maxSteps := 10000000) (disch := omega) only [vqA, tagOf, reduceIte, reduceCtorEq, reduceEqDiff, reduceAdd, reduceSub, reduceMul, reduceLT, reduceLeDiff, reduceToNat, Nat.reduceBEq, tqA]
  refine r_loop (k := d.recs.length) (fun k ρ h' => ∃ (i : Nat) (w : Value) (items : List (Rec × Value)), i + k = d.recs.length ∧ items.map (·.1) = d.recs.take i ∧ (∀ p ∈ items, BRow h0 p.2 p.1.data) ∧ Own h h' 4 Tn_ w (items.flatMap recC) ∧ blkOf w ≠ some (h.next + 2) ∧ blkOf w ≠ some (h.next + 1) ∧
    ρ 2 = .pointer (some ⟨h.next + 1, 0, none⟩) ∧ ρ 3 = .pointer (some ⟨h.next + 2, 0, none⟩) ∧ ρ 12 = .slice a d.recs.length c ∧ ρ 13 = .int .i64 d.recs.length ∧ ρ 14 = .int .i64 (i : Int) ∧
    h'.get (h.next + 2) = some (.cells [.int .i64 d.fr, .int .i64 d.to, w] true none) ∧ h'.get (h.next + 1) = some (.cells [.int .i64 0, .int .i64 0, .slice none 0 0] true none) ∧ Grow h h' ∧ h.next + 2 < h'.next) ?_ ?_
  · rintro k ρ h' ⟨i, w, items, hk, hit, hib, how, hbw, hbw2, r2, r3, r12, r13, r14, m2, m1, gr, hn⟩
    unfold GG_
    have ow := how.row.one
    rcases Nat.lt_or_ge i d.recs.length with hi | hi
    · have hr : d.recs[i]? = some d.recs[i] := List.getElem?_eq_getElem hi
      have htk : d.recs.take (i + 1) = d.recs.take i ++ [d.recs[i]] := by rw [List.take_add_one, hr]; rfl
      have hil : items.length = i := by
        have := congrArg List.length hit
        rw [List.length_map, List.length_take] at this
        omega
      have hne : d.recs ≠ [] := fun e => by rw [e] at hi; simp at hi
      obtain ⟨b, o, c', he, hb, hel⟩ := hv.elems hne
      cases he
      obtain ⟨dv, hc, hbr⟩ := hel i _ hr
      have o1 := hbr.one
      have cdv : cellsOf dv = [dv] := by obtain ⟨_, _, e⟩ := hbr.is; rw [e]; rfl
      rw [← (g0.trans gr).get b hb] at hc
      generalize d.recs[i] = r at hr hc hbr htk
      simp (maxSteps := 10000000) (disch := omega) only [vqA, tagOf, reduceIte, reduceCtorEq, reduceEqDiff, reduceAdd, reduceSub, reduceMul, reduceLT, reduceLeDiff, reduceToNat, Nat.reduceBEq, tqA, r2, r3, r12, r13, r14, m2, hc, o1, ow, cdv]
      have g1 : Grow h' ((h'.new (.cells [.int .i64 0, .int .i64 0, .bool false, .slice none 0 0] true none)).set h'.next (.cells [.int .i64 r.at_, .int .i64 r.len, .bool r.zero, dv] true none)) := (Grow.new h' _).set (Nat.le_refl _) _
      obtain ⟨w2, h2, happ, ow2, g2, hn2, hbk, hkeep⟩ := own_app Se_ okSrc_plain (h := (((h'.new (.cells [.int .i64 0, .int .i64 0, .bool false, .slice none 0 0] true none)).set h'.next (.cells [.int .i64 r.at_, .int .i64 r.len, .bool r.zero, dv] true none)).new (.cells [.int .i64 r.at_, .int .i64 r.len, .bool r.zero, dv] true none)))
        (how.grow (g1.trans (.new _ _))) ((gr.trans g1).more _) (b2 := h'.next + 1) (o2 := 0) (n := 1) (c2 := 1) (new := [.int .i64 r.at_, .int .i64 r.len, .bool r.zero, dv]) (by simp (maxSteps := 10000000) (disch := omega) only [vqA, tagOf, reduceIte, reduceCtorEq, reduceEqDiff, reduceAdd, reduceSub, reduceMul, reduceLT, reduceLeDiff, reduceToNat, Nat.reduceBEq, tqA]) (by omega) (by simp (maxSteps := 10000000) (disch := omega) only [vqA, tagOf, reduceIte, reduceCtorEq, reduceEqDiff, reduceAdd, reduceSub, reduceMul, reduceLT, reduceLeDiff, reduceToNat, Nat.reduceBEq, tqA, o1]) (by rw [flat_len (fun p _ => recC_len p)]; simp; omega) (by decide)
      rw [happ]
      have hx : ((((h'.new (.cells [.int .i64 0, .int .i64 0, .bool false, .slice none 0 0] true none)).set h'.next (.cells [.int .i64 r.at_, .int .i64 r.len, .bool r.zero, dv] true none)).new (.cells [.int .i64 r.at_, .int .i64 r.len, .bool r.zero, dv] true none))).next = h'.next + 2 := rfl
      rw [hx] at hn2 hbk hkeep
      have k2 := hkeep (h.next + 2) (by omega) hbw
      have k1 := hkeep (h.next + 1) (by omega) hbw2
      rw [get_new_ne (by simp (maxSteps := 10000000) (disch := omega) only [vqA, tagOf, reduceIte, reduceCtorEq, reduceEqDiff, reduceAdd, reduceSub, reduceMul, reduceLT, reduceLeDiff, reduceToNat, Nat.reduceBEq, tqA]; omega), get_set_ne (by omega), get_new_ne (by omega)] at k2 k1
      rw [m2] at k2
      rw [m1] at k1
      obtain ⟨aw, nw, cw, rfl, _⟩ := ow2.row.is
      simp (maxSteps := 10000000) (disch := omega) only [vqA, tagOf, reduceIte, reduceCtorEq, reduceEqDiff, reduceAdd, reduceSub, reduceMul, reduceLT, reduceLeDiff, reduceToNat, Nat.reduceBEq, tqA, r2, r3, r12, r13, r14, k2]
      refine ⟨k - 1, by omega, i + 1, _, items ++ [(r, dv)], by omega, by rw [List.map_append, hit, htk]; rfl, fun p hp => ?_, ?_, by rw [hbk]; simp; omega, by rw [hbk]; simp; omega, rfl, rfl, k1, g2.set (by omega) _, by omega⟩
      · rcases List.mem_append.1 hp with hp | hp
        · exact hib p hp
        · rw [List.mem_singleton] at hp
          subst hp
          exact hbr
      · rw [List.flatMap_append]
        refine Own.keep ow2 (Nat.le_refl _) fun b hb => get_set_ne fun e => ?_
        subst e
        rw [hbk] at hb
        have := Option.some.inj hb
        omega
    · have hd0 : d.recs.take i = d.recs := List.take_of_length_le hi
      rw [hd0] at hit
      simp (maxSteps := 10000000) (disch := omega) only [vqA, tagOf, reduceIte, reduceCtorEq, reduceEqDiff, reduceAdd, reduceSub, reduceMul, reduceLT, reduceLeDiff, reduceToNat, Nat.reduceBEq, tqA, r2, r3, r12, r13, r14, m2, m1, ow]
      refine ⟨gr.set (by omega) _, w, rfl, items, hit, RowV.keep how.row (Nat.le_refl _) fun b hb hlt => get_set_ne fun e => ?_, fun b hb => how.lt hb, hib⟩
      subst e
      exact hbw2 hb
  · refine ⟨0, .slice none 0 0, [], by omega, rfl, (fun _ h => nomatch h), .nil _ _ _ _, by simp [blkOf], by simp [blkOf], by simp (maxSteps := 10000000) (disch := omega) only [vqA, tagOf, reduceIte, reduceCtorEq, reduceEqDiff, reduceAdd, reduceSub, reduceMul, reduceLT, reduceLeDiff, reduceToNat, Nat.reduceBEq, tqA], by simp (maxSteps := 10000000) (disch := omega) only [vqA, tagOf, reduceIte, reduceCtorEq, reduceEqDiff, reduceAdd, reduceSub, reduceMul, reduceLT, reduceLeDiff, reduceToNat, Nat.reduceBEq, tqA], by simp (maxSteps := 10000000) (disch := omega) only [vqA, tagOf, reduceIte, reduceCtorEq, reduceEqDiff, reduceAdd, reduceSub, reduceMul, reduceLT, reduceLeDiff, reduceToNat, Nat.reduceBEq, tqA], by simp (maxSteps := 10000000) (disch := omega) only [vqA, tagOf, reduceIte, reduceCtorEq, reduceEqDiff, reduceAdd, reduceSub, reduceMul, reduceLT, reduceLeDiff, reduceToNat, Nat.reduceBEq, tqA], by simp (maxSteps := 10000000) (disch := omega) only [vqA, tagOf, reduceIte, reduceCtorEq, reduceEqDiff, reduceAdd, reduceSub, reduceMul, reduceLT, reduceLeDiff, reduceToNat, Nat.reduceBEq, tqA]; rfl, by simp (maxSteps := 10000000) (disch := omega) only [vqA, tagOf, reduceIte, reduceCtorEq, reduceEqDiff, reduceAdd, reduceSub, reduceMul, reduceLT, reduceLeDiff, reduceToNat, Nat.reduceBEq, tqA], by simp (maxSteps := 10000000) (disch := omega) only [vqA, tagOf, reduceIte, reduceCtorEq, reduceEqDiff, reduceAdd, reduceSub, reduceMul, reduceLT, reduceLeDiff, reduceToNat, Nat.reduceBEq, tqA], gn _ _ _ _, by simp (maxSteps := 10000000) (disch := omega) only [vqA, tagOf, reduceIte, reduceCtorEq, reduceEqDiff, reduceAdd, reduceSub, reduceMul, reduceLT, reduceLeDiff, reduceToNat, Nat.reduceBEq, tqA]; omega⟩
theorem programDiffN_ok (d : Dif) (v : Value) (h : Heap) (hv : DRow h v d.recs) (hL : d.recs.length ≤ 100000000) (hD : ∀ r ∈ d.recs, r.data.length ≤ 100000000) :
    Ret E FE_ [.agg ⟨difC d v⟩] h (fun u h' => Grow h h' ∧ ∃ w, u = .agg ⟨difC d w⟩ ∧ DNew h.next h' w d.recs) := by
  refine ret_fun IG_ (by simp) ?_
  unfold Gav_ difC
  have gn : ∀ b1 b2 b3 x : Blk, Grow h ((((h.new b1).new b2).new b3).set (h.next + 2) x) := fun b1 b2 b3 x => (((Grow.new h b1).more b2).more b3).set (by omega) x
  obtain ⟨a, c, rfl⟩ := hv.is
  simp (maxSteps := 10000000) (disch := omega) only [vqA, tagOf, reduceIte, reduceCtorEq, reduceEqDiff, reduceAdd, reduceSub, reduceMul, reduceLT, reduceLeDiff, reduceToNat, Nat.reduceBEq, tqA]
  refine r_loop (k := d.recs.length) (fun k ρ h' => ∃ (i : Nat) (w : Value) (items : List (Rec × Value)), i + k = d.recs.length ∧ items.map (·.1) = d.recs.take i ∧ (∀ p ∈ items, BRow h' p.2 p.1.data ∧ (∀ b, blkOf p.2 = some b → blkOf w ≠ some b ∧ (b ≠ h.next + 2 ∧ b ≠ h.next + 1) ∧ b < h'.next ∧ h.next ≤ b)) ∧ Own h h' 4 Tp_ w (items.flatMap recC) ∧ blkOf w ≠ some (h.next + 2) ∧ blkOf w ≠ some (h.next + 1) ∧
    ρ 2 = .pointer (some ⟨h.next + 1, 0, none⟩) ∧ ρ 3 = .pointer (some ⟨h.next + 2, 0, none⟩) ∧ ρ 12 = .slice a d.recs.length c ∧ ρ 13 = .int .i64 d.recs.length ∧ ρ 14 = .int .i64 (i : Int) ∧
    h'.get (h.next + 2) = some (.cells [.int .i64 d.fr, .int .i64 d.to, w] true none) ∧ h'.get (h.next + 1) = some (.cells [.int .i64 0, .int .i64 0, .slice none 0 0] true none) ∧ Grow h h' ∧ h.next + 2 < h'.next) ?_ ?_
  · rintro k ρ h' ⟨i, w, items, hk, hit, hib, how, hbw, hbw2, r2, r3, r12, r13, r14, m2, m1, gr, hn⟩
    unfold Gay_
    have ow := how.row.one
    rcases Nat.lt_or_ge i d.recs.length with hi | hi
    · have hr : d.recs[i]? = some d.recs[i] := List.getElem?_eq_getElem hi
      have hdl := hD _ (List.getElem_mem hi)
      have htk : d.recs.take (i + 1) = d.recs.take i ++ [d.recs[i]] := by rw [List.take_add_one, hr]; rfl
      have hil : items.length = i := by
        have := congrArg List.length hit
        rw [List.length_map, List.length_take] at this
        omega
      have hne : d.recs ≠ [] := fun e => by rw [e] at hi; simp at hi
      obtain ⟨b, o, c', he, hb, hel⟩ := hv.elems hne
      cases he
      obtain ⟨dv, hc, hbr⟩ := hel i _ hr
      have o1 := hbr.one
      rw [← gr.get b hb] at hc
      generalize d.recs[i] = r at hr hc hbr htk hdl
      have gA : Grow h' ((h'.new (.cells [.int .i64 0, .int .i64 0, .bool false, .slice none 0 0] true none)).set h'.next (.cells [.int .i64 r.at_, .int .i64 r.len, .bool r.zero, dv] true none)) := (Grow.new h' _).set (Nat.le_refl _) _
      have gB : Grow h' (((h'.new (.cells [.int .i64 0, .int .i64 0, .bool false, .slice none 0 0] true none)).set h'.next (.cells [.int .i64 r.at_, .int .i64 r.len, .bool r.zero, dv] true none)).new (.cells [] true none)) := gA.more _
      have hdv : ∀ n, veq (n + 1) dv dv = true := by obtain ⟨_, _, e⟩ := hbr.is; rw [e]; intro n; simp (maxSteps := 10000000) (disch := omega) only [vqA, tagOf, reduceIte, reduceCtorEq, reduceEqDiff, reduceAdd, reduceSub, reduceMul, reduceLT, reduceLeDiff, reduceToNat, Nat.reduceBEq, tqA]
      have hww : ∀ n, veq (n + 1) w w = true := by obtain ⟨_, _, _, e, _⟩ := how.row.is; rw [e]; intro n; simp (maxSteps := 10000000) (disch := omega) only [vqA, tagOf, reduceIte, reduceCtorEq, reduceEqDiff, reduceAdd, reduceSub, reduceMul, reduceLT, reduceLeDiff, reduceToNat, Nat.reduceBEq, tqA]
      have fin : ∀ (dw : Value) (b9 : Nat) (h1 h2 : Heap) (w2 : Value), BRow h2 dw r.data → blkOf dw = some b9 → h'.next ≤ b9 → b9 < h1.next → Grow h' h1 → Own h h2 4 Tp_ w2 (items.flatMap recC ++ [.int .i64 r.at_, .int .i64 r.len, .bool r.zero, dw]) → Grow h h2 → h2.next = h1.next + 1 → blkOf w2 = some h1.next →
          (∀ c, c < h1.next → blkOf w ≠ some c → h2.get c = h1.get c) → ∀ x : Blk,
          h2.get (h.next + 2) = some (.cells [.int .i64 d.fr, .int .i64 d.to, w] true none) ∧ ∃ k' < k, ∃ (i' : Nat) (w' : Value) (items' : List (Rec × Value)), i' + k' = d.recs.length ∧ items'.map (·.1) = d.recs.take i' ∧
          (∀ p ∈ items', BRow (h2.set (h.next + 2) x) p.2 p.1.data ∧ (∀ b, blkOf p.2 = some b → blkOf w' ≠ some b ∧ (b ≠ h.next + 2 ∧ b ≠ h.next + 1) ∧ b < h2.next ∧ h.next ≤ b)) ∧ Own h (h2.set (h.next + 2) x) 4 Tp_ w' (items'.flatMap recC) ∧ blkOf w' ≠ some (h.next + 2) ∧ blkOf w' ≠ some (h.next + 1) ∧ w2 = w' ∧ (i : Int) + 1 = (i' : Int) ∧
          h2.get (h.next + 1) = some (.cells [.int .i64 0, .int .i64 0, .slice none 0 0] true none) ∧ Grow h (h2.set (h.next + 2) x) ∧ h.next + 2 < h2.next := by
        intro dw b9 h1 h2 w2 hbw9 hb9 hb90 hb91 g1 ow2 g2 hn2 hbk hkeep x
        have hn1 := g1.next
        have k2 := hkeep (h.next + 2) (by omega) hbw
        have k1 := hkeep (h.next + 1) (by omega) hbw2
        rw [g1.get _ hn, m2] at k2
        rw [g1.get _ (by omega), m1] at k1
        refine ⟨k2, k - 1, by omega, i + 1, w2, items ++ [(r, dw)], by omega, by rw [List.map_append, hit, htk]; rfl, fun p hp => ?_, ?_, by rw [hbk]; simp; omega, by rw [hbk]; simp; omega, rfl, by omega, k1, g2.set (by omega) _, by omega⟩
        · rcases List.mem_append.1 hp with hp | hp
          · obtain ⟨q1, q2⟩ := hib p hp
            refine ⟨RowV.keep q1 (by show h'.next ≤ h2.next; omega) fun b hb hlt => ?_, fun b hb => ⟨by rw [hbk]; intro e; have := Option.some.inj e; have := (q2 b hb).2.2.1; omega, (q2 b hb).2.1, by have := (q2 b hb).2.2.1; omega, (q2 b hb).2.2.2⟩⟩
            rw [get_set_ne (q2 b hb).2.1.1, hkeep b (by omega) (q2 b hb).1, g1.get b hlt]
          · rw [List.mem_singleton] at hp
            subst hp
            refine ⟨RowV.keep hbw9 (Nat.le_refl _) fun b hb _ => get_set_ne ?_, fun b hb => ?_⟩
            · rw [hb9] at hb
              have := Option.some.inj hb
              omega
            · have hb : blkOf dw = some b := hb
              rw [hb9] at hb
              have := Option.some.inj hb
              exact ⟨by rw [hbk]; intro e; have := Option.some.inj e; omega, ⟨by omega, by omega⟩, by omega, by have := gr.next; omega⟩
        · rw [List.flatMap_append]
          refine Own.keep ow2 (Nat.le_refl _) fun b hb => get_set_ne fun e => ?_
          subst e
          rw [hbk] at hb
          have := Option.some.inj hb
          omega
      by_cases h0 : r.data = []
      · have hrow := RowV.grow (h0 ▸ hbr : BRow h dv []) (gr.trans gB)
        have hap := fun lc => app_none0 (E := E) (b := h'.next + 1) (o := 0) (len := 0) (cap := 0) Sa_ okSrc_bytes hrow lc
        simp (maxSteps := 10000000) (disch := omega) only [vqA, tagOf, reduceIte, reduceCtorEq, reduceEqDiff, reduceAdd, reduceSub, reduceMul, reduceLT, reduceLeDiff, reduceToNat, Nat.reduceBEq, tqA, r2, r3, r12, r13, r14, m2, hc, o1, ow, hap]
        obtain ⟨w2, h2, happ, ow2, g2, hn2, hbk, hkeep⟩ := own_app Sb_ okSrc_prog (h := ((((h'.new (.cells [.int .i64 0, .int .i64 0, .bool false, .slice none 0 0] true none)).set h'.next (.cells [.int .i64 r.at_, .int .i64 r.len, .bool r.zero, dv] true none)).new (.cells [] true none)).new (.cells [.int .i64 r.at_, .int .i64 r.len, .bool r.zero, .slice (some ⟨h'.next + 1, 0, none⟩) 0 0] true none)))
          (how.grow (gB.more _)) ((gr.trans gB).more _) (b2 := h'.next + 2) (o2 := 0) (n := 1) (c2 := 1) (new := [.int .i64 r.at_, .int .i64 r.len, .bool r.zero, .slice (some ⟨h'.next + 1, 0, none⟩) 0 0]) (by simp (maxSteps := 10000000) (disch := omega) only [vqA, tagOf, reduceIte, reduceCtorEq, reduceEqDiff, reduceAdd, reduceSub, reduceMul, reduceLT, reduceLeDiff, reduceToNat, Nat.reduceBEq, tqA]) (by omega) (by simp (maxSteps := 10000000) (disch := omega) only [vqA, tagOf, reduceIte, reduceCtorEq, reduceEqDiff, reduceAdd, reduceSub, reduceMul, reduceLT, reduceLeDiff, reduceToNat, Nat.reduceBEq, tqA]) (by rw [flat_len (fun p _ => recC_len p)]; simp; omega) (by decide)
        rw [happ]
        have ff := fin (.slice (some ⟨h'.next + 1, 0, none⟩) 0 0) (h'.next + 1) _ h2 w2 (.inr ⟨h'.next + 1, 0, 0, 0, [], true, none, by rw [hn2]; show h'.next + 1 < h'.next + 3 + 1; omega, rfl, Nat.le_refl _, by rw [h0]; rfl, by
            rw [hkeep (h'.next + 1) (by show h'.next + 1 < h'.next + 3; omega) (fun e => by have := (how.lt e).2; omega)]
            simp (maxSteps := 10000000) (disch := omega) only [vqA, tagOf, reduceIte, reduceCtorEq, reduceEqDiff, reduceAdd, reduceSub, reduceMul, reduceLT, reduceLeDiff, reduceToNat, Nat.reduceBEq, tqA], by rw [h0]; simp, by rw [h0]; simp⟩) rfl (by omega) (by show h'.next + 1 < h'.next + 3; omega) (gB.more _) ow2 g2 hn2 hbk hkeep
        obtain ⟨aw, nw, cw, rfl, _⟩ := ow2.row.is
        have k2 := (ff (.sit .empty 0)).1
        simp (maxSteps := 10000000) (disch := omega) only [vqA, tagOf, reduceIte, reduceCtorEq, reduceEqDiff, reduceAdd, reduceSub, reduceMul, reduceLT, reduceLeDiff, reduceToNat, Nat.reduceBEq, tqA, r2, r3, r12, r13, r14, k2, m2, hc, hdv, hww]
        obtain ⟨_, k', e1, i', w', items', e2, e3, e4, e5, e6, e7, e8, e9, e10, e11, e12⟩ := ff (.cells [.int .i64 d.fr, .int .i64 d.to, .slice aw nw cw] true none)
        exact ⟨k', e1, i', w', items', e2, e3, e4, e5, e6, e7, by rw [e9], by rw [e8], e10, e11, e12⟩
      · have hpos : 0 < r.data.length := List.length_pos_iff.2 h0
        have hrow := RowV.grow hbr (gr.trans gB)
        have hap := app_own0 (E := E) (n := r.data.length) (b := h'.next + 1) (wr := true) Sa_ okSrc_bytes hrow (by simp) hpos (one_byte _) (by simp (maxSteps := 10000000) (disch := omega) only [vqA, tagOf, reduceIte, reduceCtorEq, reduceEqDiff, reduceAdd, reduceSub, reduceMul, reduceLT, reduceLeDiff, reduceToNat, Nat.reduceBEq, tqA]) (by omega) (by omega)
        have gC : Grow h' ((((h'.new (.cells [.int .i64 0, .int .i64 0, .bool false, .slice none 0 0] true none)).set h'.next (.cells [.int .i64 r.at_, .int .i64 r.len, .bool r.zero, dv] true none)).new (.cells [] true none)).new (.cells (r.data.map byteV) true (some (1, Tf_)))) := gB.more _
        simp (maxSteps := 10000000) (disch := omega) only [vqA, tagOf, reduceIte, reduceCtorEq, reduceEqDiff, reduceAdd, reduceSub, reduceMul, reduceLT, reduceLeDiff, reduceToNat, Nat.reduceBEq, tqA, r2, r3, r12, r13, r14, m2, hc, o1, ow, hap]
        obtain ⟨w2, h2, happ, ow2, g2, hn2, hbk, hkeep⟩ := own_app Sb_ okSrc_prog (h := (((((h'.new (.cells [.int .i64 0, .int .i64 0, .bool false, .slice none 0 0] true none)).set h'.next (.cells [.int .i64 r.at_, .int .i64 r.len, .bool r.zero, dv] true none)).new (.cells [] true none)).new (.cells (r.data.map byteV) true (some (1, Tf_)))).new (.cells [.int .i64 r.at_, .int .i64 r.len, .bool r.zero, .slice (some ⟨h'.next + 2, 0, none⟩) r.data.length r.data.length] true none)))
          (how.grow (gC.more _)) ((gr.trans gC).more _) (b2 := h'.next + 3) (o2 := 0) (n := 1) (c2 := 1) (new := [.int .i64 r.at_, .int .i64 r.len, .bool r.zero, .slice (some ⟨h'.next + 2, 0, none⟩) r.data.length r.data.length]) (by simp (maxSteps := 10000000) (disch := omega) only [vqA, tagOf, reduceIte, reduceCtorEq, reduceEqDiff, reduceAdd, reduceSub, reduceMul, reduceLT, reduceLeDiff, reduceToNat, Nat.reduceBEq, tqA]) (by omega) (by simp (maxSteps := 10000000) (disch := omega) only [vqA, tagOf, reduceIte, reduceCtorEq, reduceEqDiff, reduceAdd, reduceSub, reduceMul, reduceLT, reduceLeDiff, reduceToNat, Nat.reduceBEq, tqA]) (by rw [flat_len (fun p _ => recC_len p)]; simp; omega) (by decide)
        rw [happ]
        have ff := fin (.slice (some ⟨h'.next + 2, 0, none⟩) r.data.length r.data.length) (h'.next + 2) _ h2 w2 (.inr ⟨h'.next + 2, 0, r.data.length, r.data.length, r.data.map byteV, true, some (1, Tf_), by rw [hn2]; show h'.next + 2 < h'.next + 4 + 1; omega, rfl, Nat.le_refl _, by simp, by
            rw [hkeep (h'.next + 2) (by show h'.next + 2 < h'.next + 4; omega) (fun e => by have := (how.lt e).2; omega)]
            simp (maxSteps := 10000000) (disch := omega) only [vqA, tagOf, reduceIte, reduceCtorEq, reduceEqDiff, reduceAdd, reduceSub, reduceMul, reduceLT, reduceLeDiff, reduceToNat, Nat.reduceBEq, tqA], by simp, by rw [List.drop_zero, List.take_length]⟩) rfl (by omega) (by show h'.next + 2 < h'.next + 4; omega) (gC.more _) ow2 g2 hn2 hbk hkeep
        obtain ⟨aw, nw, cw, rfl, _⟩ := ow2.row.is
        have k2 := (ff (.sit .empty 0)).1
        simp (maxSteps := 10000000) (disch := omega) only [vqA, tagOf, reduceIte, reduceCtorEq, reduceEqDiff, reduceAdd, reduceSub, reduceMul, reduceLT, reduceLeDiff, reduceToNat, Nat.reduceBEq, tqA, r2, r3, r12, r13, r14, k2, m2, hc, hdv, hww]
        obtain ⟨_, k', e1, i', w', items', e2, e3, e4, e5, e6, e7, e8, e9, e10, e11, e12⟩ := ff (.cells [.int .i64 d.fr, .int .i64 d.to, .slice aw nw cw] true none)
        exact ⟨k', e1, i', w', items', e2, e3, e4, e5, e6, e7, by rw [e9], by rw [e8], e10, e11, e12⟩
    · have hd0 : d.recs.take i = d.recs := List.take_of_length_le hi
      rw [hd0] at hit
      simp (maxSteps := 10000000) (disch := omega) only [vqA, tagOf, reduceIte, reduceCtorEq, reduceEqDiff, reduceAdd, reduceSub, reduceMul, reduceLT, reduceLeDiff, reduceToNat, Nat.reduceBEq, tqA, r2, r3, r12, r13, r14, m2, m1, ow]
      refine ⟨gr.set (by omega) _, w, rfl, items, hit, RowV.keep how.row (Nat.le_refl _) fun b hb hlt => get_set_ne fun e => ?_, fun b hb => (how.lt hb).1, fun p hp => ⟨RowV.keep (hib p hp).1 (Nat.le_refl _) fun b hb hlt => get_set_ne fun e => ?_, fun b hb => ((hib p hp).2 b hb).2.2.2⟩⟩
      · subst e
        exact hbw2 hb
      · exact ((hib p hp).2 b hb).2.1.2 e
  · refine ⟨0, .slice none 0 0, [], by omega, rfl, (fun _ h => nomatch h), .nil _ _ _ _, by simp [blkOf], by simp [blkOf], by simp (maxSteps := 10000000) (disch := omega) only [vqA, tagOf, reduceIte, reduceCtorEq, reduceEqDiff, reduceAdd, reduceSub, reduceMul, reduceLT, reduceLeDiff, reduceToNat, Nat.reduceBEq, tqA], by simp (maxSteps := 10000000) (disch := omega) only [vqA, tagOf, reduceIte, reduceCtorEq, reduceEqDiff, reduceAdd, reduceSub, reduceMul, reduceLT, reduceLeDiff, reduceToNat, Nat.reduceBEq, tqA], by simp (maxSteps := 10000000) (disch := omega) only [vqA, tagOf, reduceIte, reduceCtorEq, reduceEqDiff, reduceAdd, reduceSub, reduceMul, reduceLT, reduceLeDiff, reduceToNat, Nat.reduceBEq, tqA], by simp (maxSteps := 10000000) (disch := omega) only [vqA, tagOf, reduceIte, reduceCtorEq, reduceEqDiff, reduceAdd, reduceSub, reduceMul, reduceLT, reduceLeDiff, reduceToNat, Nat.reduceBEq, tqA], by simp (maxSteps := 10000000) (disch := omega) only [vqA, tagOf, reduceIte, reduceCtorEq, reduceEqDiff, reduceAdd, reduceSub, reduceMul, reduceLT, reduceLeDiff, reduceToNat, Nat.reduceBEq, tqA]; rfl, by simp (maxSteps := 10000000) (disch := omega) only [vqA, tagOf, reduceIte, reduceCtorEq, reduceEqDiff, reduceAdd, reduceSub, reduceMul, reduceLT, reduceLeDiff, reduceToNat, Nat.reduceBEq, tqA], by simp (maxSteps := 10000000) (disch := omega) only [vqA, tagOf, reduceIte, reduceCtorEq, reduceEqDiff, reduceAdd, reduceSub, reduceMul, reduceLT, reduceLeDiff, reduceToNat, Nat.reduceBEq, tqA], gn _ _ _ _, by simp (maxSteps := 10000000) (disch := omega) only [vqA, tagOf, reduceIte, reduceCtorEq, reduceEqDiff, reduceAdd, reduceSub, reduceMul, reduceLT, reduceLeDiff, reduceToNat, Nat.reduceBEq, tqA]; omega⟩
end Go.Proofs.Ytdmakachnphddaa.C
