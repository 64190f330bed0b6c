/- X11: diffs as the program's and as the document's: where their rows lie. -/
import Derived.Test.YtdmakachnphddaaX10
open Nat (reduceEqDiff reduceAdd reduceSub reduceMul reduceLT reduceLeDiff)
open Int (reduceToNat)
open Go Go.Vi Go.Bm
namespace Go.Proofs.Ytdmakachnphddaa.C
set_option linter.unusedSimpArgs false
set_option maxRecDepth 100000
set_option maxHeartbeats 40000000
def DMix (h0 : Heap) (base : Nat) (h : Heap) (v : Value) (recs : List Rec) : Prop := ∃ items : List (Rec × Value), items.map (·.1) = recs ∧ RowV h 4 v (items.flatMap recC) ∧ (∀ b, blkOf v = some b → base ≤ b ∧ b < h.next) ∧ ∀ p ∈ items, BRow h0 p.2 p.1.data
theorem DMix.row {h0 h : Heap} {base : Nat} {v : Value} {recs : List Rec} (x : DMix h0 base h v recs) (g : Grow h0 h) : DRow h v recs := by
  obtain ⟨items, h1, h2, _, h3⟩ := x
  exact ⟨items, h1, h2, fun p hp => (h3 p hp).grow g⟩
def DMP (P : Nat → Prop) (h0 h : Heap) (v : Value) (recs : List Rec) : Prop := ∃ items : List (Rec × Value), items.map (·.1) = recs ∧ RowV h 4 v (items.flatMap recC) ∧ (∀ b, blkOf v = some b → P b) ∧ ∀ p ∈ items, BRow h0 p.2 p.1.data
theorem DMP.row {P : Nat → Prop} {h0 h : Heap} {v : Value} {recs : List Rec} (x : DMP P h0 h v recs) (g : Grow h0 h) : DRow h v recs := by
  obtain ⟨items, h1, h2, _, h3⟩ := x
  exact ⟨items, h1, h2, fun p hp => (h3 p hp).grow g⟩
theorem DMix.dmp {h0 h : Heap} {base : Nat} {v : Value} {recs : List Rec} (x : DMix h0 base h v recs) : DMP (fun c => base ≤ c ∧ c < h.next) h0 h v recs := x
theorem DMP.keep {P Q : Nat → Prop} {h0 h h' : Heap} {v : Value} {recs : List Rec} (x : DMP P h0 h v recs) (hn : h.next ≤ h'.next) (g : ∀ c, P c → h'.get c = h.get c) (i : ∀ c, P c → Q c) : DMP Q h0 h' v recs := by
  obtain ⟨items, h1, h2, h4, h3⟩ := x
  exact ⟨items, h1, RowV.keep h2 hn fun c hc _ => g c (h4 c hc), fun b hb => i b (h4 b hb), h3⟩
theorem plainDiffN_ok (d : Dif) (v : Value) (h0 h : Heap) (hv : DRow h0 v d.recs) (g0 : Grow h0 h) (hL : d.recs.length ≤ 100000000) :
    Ret E Fz_ [.agg ⟨difC d v⟩] h (fun u h' => Grow h h' ∧ ∃ w, u = .agg ⟨difC d w⟩ ∧ DMix h0 h.next h' w d.recs) := by
  refine ret_fun Iv_ (by simp) ?_
  unfold Gr_ difC
  have gn : ∀ b1 b2 b3 x : Blk, Grow h ((((h.new b1).new b2).new b3).set (h.next + 2) x) := fun b1 b2 b3 x => (((Grow.new h b1).more b2).more b3).set (by omega) x
  obtain ⟨a, c, rfl⟩ := hv.is
  simp (maxSteps := 10000000) (disch := omega) only [vqA, tagOf, reduceIte, reduceCtorEq, reduceEqDiff, reduceAdd, reduceSub, reduceMul, reduceLT, reduceLeDiff, reduceToNat, Nat.reduceBEq, tqA]
  refine r_loop (k := d.recs.length) (fun k ρ h' => ∃ (i : Nat) (w : Value) (items : List (Rec × Value)), i + k = d.recs.length ∧ items.map (·.1) = d.recs.take i ∧ (∀ p ∈ items, BRow h0 p.2 p.1.data) ∧ Own h h' 4 Tm_ w (items.flatMap recC) ∧ blkOf w ≠ some (h.next + 2) ∧ blkOf w ≠ some (h.next + 1) ∧
    ρ 2 = .pointer (some ⟨h.next + 1, 0, none⟩) ∧ ρ 3 = .pointer (some ⟨h.next + 2, 0, none⟩) ∧ ρ 12 = .slice a d.recs.length c ∧ ρ 13 = .int .i64 d.recs.length ∧ ρ 14 = .int .i64 (i : Int) ∧
    h'.get (h.next + 2) = some (.cells [.int .i64 d.fr, .int .i64 d.to, w] true none) ∧ h'.get (h.next + 1) = some (.cells [.int .i64 0, .int .i64 0, .slice none 0 0] true none) ∧ Grow h h' ∧ h.next + 2 < h'.next) ?_ ?_
  · rintro k ρ h' ⟨i, w, items, hk, hit, hib, how, hbw, hbw2, r2, r3, r12, r13, r14, m2, m1, gr, hn⟩
    unfold G8_
    have ow := how.row.one
    rcases Nat.lt_or_ge i d.recs.length with hi | hi
    · have hr : d.recs[i]? = some d.recs[i] := List.getElem?_eq_getElem hi
      have htk : d.recs.take (i + 1) = d.recs.take i ++ [d.recs[i]] := by rw [List.take_add_one, hr]; rfl
      have hil : items.length = i := by
        have := congrArg List.length hit
        rw [List.length_map, List.length_take] at this
        omega
      have hne : d.recs ≠ [] := fun e => by rw [e] at hi; simp at hi
      obtain ⟨b, o, c', he, hb, hel⟩ := hv.elems hne
      cases he
      obtain ⟨dv, hc, hbr⟩ := hel i _ hr
      have o1 := hbr.one
      have cdv : cellsOf dv = [dv] := by obtain ⟨_, _, e⟩ := hbr.is; rw [e]; rfl
      rw [← (g0.trans gr).get b hb] at hc
      generalize d.recs[i] = r at hr hc hbr htk
      simp (maxSteps := 10000000) (disch := omega) only [vqA, tagOf, reduceIte, reduceCtorEq, reduceEqDiff, reduceAdd, reduceSub, reduceMul, reduceLT, reduceLeDiff, reduceToNat, Nat.reduceBEq, tqA, r2, r3, r12, r13, r14, m2, hc, o1, ow, cdv]
      have g1 : Grow h' ((h'.new (.cells [.int .i64 0, .int .i64 0, .bool false, .slice none 0 0] true none)).set h'.next (.cells [.int .i64 r.at_, .int .i64 r.len, .bool r.zero, dv] true none)) := (Grow.new h' _).set (Nat.le_refl _) _
      obtain ⟨w2, h2, happ, ow2, g2, hn2, hbk, hkeep⟩ := own_app Sb_ okSrc_plain (h := (((h'.new (.cells [.int .i64 0, .int .i64 0, .bool false, .slice none 0 0] true none)).set h'.next (.cells [.int .i64 r.at_, .int .i64 r.len, .bool r.zero, dv] true none)).new (.cells [.int .i64 r.at_, .int .i64 r.len, .bool r.zero, dv] true none)))
        (how.grow (g1.trans (.new _ _))) ((gr.trans g1).more _) (b2 := h'.next + 1) (o2 := 0) (n := 1) (c2 := 1) (new := [.int .i64 r.at_, .int .i64 r.len, .bool r.zero, dv]) (by simp (maxSteps := 10000000) (disch := omega) only [vqA, tagOf, reduceIte, reduceCtorEq, reduceEqDiff, reduceAdd, reduceSub, reduceMul, reduceLT, reduceLeDiff, reduceToNat, Nat.reduceBEq, tqA]) (by omega) (by simp (maxSteps := 10000000) (disch := omega) only [vqA, tagOf, reduceIte, reduceCtorEq, reduceEqDiff, reduceAdd, reduceSub, reduceMul, reduceLT, reduceLeDiff, reduceToNat, Nat.reduceBEq, tqA, o1]) (by rw [flat_len (fun p _ => recC_len p)]; simp; omega) (by decide)
      rw [happ]
      have hx : ((((h'.new (.cells [.int .i64 0, .int .i64 0, .bool false, .slice none 0 0] true none)).set h'.next (.cells [.int .i64 r.at_, .int .i64 r.len, .bool r.zero, dv] true none)).new (.cells [.int .i64 r.at_, .int .i64 r.len, .bool r.zero, dv] true none))).next = h'.next + 2 := rfl
      rw [hx] at hn2 hbk hkeep
      have k2 := hkeep (h.next + 2) (by omega) hbw
      have k1 := hkeep (h.next + 1) (by omega) hbw2
      rw [get_new_ne (by simp (maxSteps := 10000000) (disch := omega) only [vqA, tagOf, reduceIte, reduceCtorEq, reduceEqDiff, reduceAdd, reduceSub, reduceMul, reduceLT, reduceLeDiff, reduceToNat, Nat.reduceBEq, tqA]; omega), get_set_ne (by omega), get_new_ne (by omega)] at k2 k1
      rw [m2] at k2
      rw [m1] at k1
      obtain ⟨aw, nw, cw, rfl, _⟩ := ow2.row.is
      simp (maxSteps := 10000000) (disch := omega) only [vqA, tagOf, reduceIte, reduceCtorEq, reduceEqDiff, reduceAdd, reduceSub, reduceMul, reduceLT, reduceLeDiff, reduceToNat, Nat.reduceBEq, tqA, r2, r3, r12, r13, r14, k2]
      refine ⟨k - 1, by omega, i + 1, _, items ++ [(r, dv)], by omega, by rw [List.map_append, hit, htk]; rfl, fun p hp => ?_, ?_, by rw [hbk]; simp; omega, by rw [hbk]; simp; omega, rfl, rfl, k1, g2.set (by omega) _, by omega⟩
      · rcases List.mem_append.1 hp with hp | hp
        · exact hib p hp
        · rw [List.mem_singleton] at hp
          subst hp
          exact hbr
      · rw [List.flatMap_append]
        refine Own.keep ow2 (Nat.le_refl _) fun b hb => get_set_ne fun e => ?_
        subst e
        rw [hbk] at hb
        have := Option.some.inj hb
        omega
    · have hd0 : d.recs.take i = d.recs := List.take_of_length_le hi
      rw [hd0] at hit
      simp (maxSteps := 10000000) (disch := omega) only [vqA, tagOf, reduceIte, reduceCtorEq, reduceEqDiff, reduceAdd, reduceSub, reduceMul, reduceLT, reduceLeDiff, reduceToNat, Nat.reduceBEq, tqA, r2, r3, r12, r13, r14, m2, m1, ow]
      refine ⟨gr.set (by omega) _, w, rfl, items, hit, RowV.keep how.row (Nat.le_refl _) fun b hb hlt => get_set_ne fun e => ?_, fun b hb => how.lt hb, hib⟩
      subst e
      exact hbw2 hb
  · refine ⟨0, .slice none 0 0, [], by omega, rfl, (fun _ h => nomatch h), .nil _ _ _ _, by simp [blkOf], by simp [blkOf], by simp (maxSteps := 10000000) (disch := omega) only [vqA, tagOf, reduceIte, reduceCtorEq, reduceEqDiff, reduceAdd, reduceSub, reduceMul, reduceLT, reduceLeDiff, reduceToNat, Nat.reduceBEq, tqA], by simp (maxSteps := 10000000) (disch := omega) only [vqA, tagOf, reduceIte, reduceCtorEq, reduceEqDiff, reduceAdd, reduceSub, reduceMul, reduceLT, reduceLeDiff, reduceToNat, Nat.reduceBEq, tqA], by simp (maxSteps := 10000000) (disch := omega) only [vqA, tagOf, reduceIte, reduceCtorEq, reduceEqDiff, reduceAdd, reduceSub, reduceMul, reduceLT, reduceLeDiff, reduceToNat, Nat.reduceBEq, tqA], by simp (maxSteps := 10000000) (disch := omega) only [vqA, tagOf, reduceIte, reduceCtorEq, reduceEqDiff, reduceAdd, reduceSub, reduceMul, reduceLT, reduceLeDiff, reduceToNat, Nat.reduceBEq, tqA], by simp (maxSteps := 10000000) (disch := omega) only [vqA, tagOf, reduceIte, reduceCtorEq, reduceEqDiff, reduceAdd, reduceSub, reduceMul, reduceLT, reduceLeDiff, reduceToNat, Nat.reduceBEq, tqA]; rfl, by simp (maxSteps := 10000000) (disch := omega) only [vqA, tagOf, reduceIte, reduceCtorEq, reduceEqDiff, reduceAdd, reduceSub, reduceMul, reduceLT, reduceLeDiff, reduceToNat, Nat.reduceBEq, tqA], by simp (maxSteps := 10000000) (disch := omega) only [vqA, tagOf, reduceIte, reduceCtorEq, reduceEqDiff, reduceAdd, reduceSub, reduceMul, reduceLT, reduceLeDiff, reduceToNat, Nat.reduceBEq, tqA], gn _ _ _ _, by simp (maxSteps := 10000000) (disch := omega) only [vqA, tagOf, reduceIte, reduceCtorEq, reduceEqDiff, reduceAdd, reduceSub, reduceMul, reduceLT, reduceLeDiff, reduceToNat, Nat.reduceBEq, tqA]; omega⟩
end Go.Proofs.Ytdmakachnphddaa.C
