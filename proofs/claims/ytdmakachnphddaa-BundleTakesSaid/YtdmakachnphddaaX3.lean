/- X3: a bundle's diffs, in order. -/
import Derived.Test.YtdmakachnphddaaX2
import Derived.Test.YtdmakachnphddaaMa
open Nat (reduceEqDiff reduceAdd reduceSub reduceMul reduceLT reduceLeDiff)
open Int (reduceToNat)
open Go Go.Vi Go.Bm
namespace Go.Proofs.Ytdmakachnphddaa.C
set_option linter.unusedSimpArgs false
set_option maxRecDepth 100000
set_option maxHeartbeats 40000000
theorem okSrc_diffs : okSrc E (some Ty_) = some true := by kernel_rfl
theorem dsrow_of {h : Heap} {w : Value} {items : List (Dif × Value)} {ds : List Dif} (hi : items.map (·.1) = ds) (hr : RowV h 3 w (items.flatMap dsC)) (hd : ∀ p ∈ items, DRow h p.2 p.1.recs) : DsRow h w ds := ⟨items, hi, hr, hd⟩
theorem diffs_ok (b : Bun) (v w : Value) (h : Heap) (hp : PRow h v b.parts) (hd : DRow h w b.last.recs) (hL : b.parts.length ≤ 100000000) :
    Ret E FK_ [.agg ⟨bunC b v w⟩] h (fun u h' => Grow h h' ∧ DsRow h' u b.diffs) := by
  refine ret_fun IL_ (by simp) ?_
  unfold G2_ bunC
  obtain ⟨av, cv, rfl⟩ := hp.is
  obtain ⟨aw, cw, rfl⟩ := hd.is
  simp (maxSteps := 10000000) (disch := omega) only [vqA, tagOf, reduceIte, reduceCtorEq, reduceEqDiff, reduceAdd, reduceSub, reduceMul, reduceLT, reduceLeDiff, reduceToNat, Nat.reduceBEq, tqA]
  have g0 : Grow h (h.new (.cells [.int .i64 b.object, .slice av b.parts.length cv, .int .i64 b.last.fr, .int .i64 b.last.to, .slice aw b.last.recs.length cw] true none)) := .new h _
  have m0 : (h.new (.cells [.int .i64 b.object, .slice av b.parts.length cv, .int .i64 b.last.fr, .int .i64 b.last.to, .slice aw b.last.recs.length cw] true none)).get h.next = _ := get_new_same _ _
  have n0 : (h.new (.cells [.int .i64 b.object, .slice av b.parts.length cv, .int .i64 b.last.fr, .int .i64 b.last.to, .slice aw b.last.recs.length cw] true none)).next = h.next + 1 := rfl
  generalize h.new (.cells [.int .i64 b.object, .slice av b.parts.length cv, .int .i64 b.last.fr, .int .i64 b.last.to, .slice aw b.last.recs.length cw] true none) = h0 at g0 m0 n0 ⊢
  refine r_loop (k := b.parts.length) (fun k ρ h' => ∃ (i : Nat) (x : Value) (items : List (Dif × Value)), i + k = b.parts.length ∧ items.map (·.1) = (b.parts.take i).map (·.diff) ∧ (∀ q ∈ items, DRow h q.2 q.1.recs) ∧ Own h0 h' 3 Tg_ x (items.flatMap dsC) ∧
    ρ 1 = .pointer (some ⟨h.next, 0, none⟩) ∧ ρ 3 = x ∧ ρ 7 = .slice av b.parts.length cv ∧ ρ 8 = .int .i64 b.parts.length ∧ ρ 9 = .int .i64 (i : Int) ∧ Grow h0 h') ?_ ?_
  · rintro k ρ h' ⟨i, x, items, hk, hit, hib, how, r1, r3, r7, r8, r9, gr⟩
    unfold Gaq_
    have hil : items.length = (b.parts.take i).length := by
      have := congrArg List.length hit
      rwa [List.length_map, List.length_map] at this
    have hnx := gr.next
    have ox := how.row.one
    rcases Nat.lt_or_ge i b.parts.length with hi | hi
    · have hr : b.parts[i]? = some b.parts[i] := List.getElem?_eq_getElem hi
      have hne : b.parts ≠ [] := fun e => by rw [e] at hi; simp at hi
      obtain ⟨bb, o, c', he, hb, hel⟩ := hp.elems hne
      cases he
      obtain ⟨dv, hc, hdr⟩ := hel i _ hr
      have hg := (g0.trans gr).get bb hb
      rw [← hg] at hc
      have htk : (b.parts.take (i + 1)).map (·.diff) = (b.parts.take i).map (·.diff) ++ [b.parts[i].diff] := by rw [List.take_add_one, hr, List.map_append]; rfl
      rw [List.length_take, Nat.min_eq_left (by omega)] at hil
      generalize b.parts[i] = p at hr hc hdr htk
      have o1 := hdr.one
      obtain ⟨ad, cd, rfl⟩ := hdr.is
      obtain ⟨hB, eB⟩ : ∃ y, y = (h'.new (.cells [.string (strOf []), .bool false, .int .i64 0, .int .i64 0, .slice none 0 0] true none)).set h'.next (.cells [.string (strOf p.name), .bool p.prot, .int .i64 p.diff.fr, .int .i64 p.diff.to, .slice ad p.diff.recs.length cd] true none) := ⟨_, rfl⟩
      have gB : Grow h' hB := by rw [eB]; exact (Grow.new h' _).set (Nat.le_refl _) _
      have nB : hB.next = h'.next + 1 := by rw [eB]; rfl
      obtain ⟨w2, h2, happ, ow2, g2, hn2, hbk, hkeep⟩ := own_app Sc_ okSrc_diffs (h := hB.new (.cells [.int .i64 p.diff.fr, .int .i64 p.diff.to, .slice ad p.diff.recs.length cd] true none))
        (how.grow (gB.trans (.new hB _))) ((gr.trans gB).more _) (b2 := hB.next) (o2 := 0) (n := 1) (c2 := 1) (new := [.int .i64 p.diff.fr, .int .i64 p.diff.to, .slice ad p.diff.recs.length cd]) (by simp (maxSteps := 10000000) (disch := omega) only [vqA, tagOf, reduceIte, reduceCtorEq, reduceEqDiff, reduceAdd, reduceSub, reduceMul, reduceLT, reduceLeDiff, reduceToNat, Nat.reduceBEq, tqA]) (by omega) (by simp (maxSteps := 10000000) (disch := omega) only [vqA, tagOf, reduceIte, reduceCtorEq, reduceEqDiff, reduceAdd, reduceSub, reduceMul, reduceLT, reduceLeDiff, reduceToNat, Nat.reduceBEq, tqA]) (by rw [flat_len (fun p _ => dsC_len p)]; simp; omega) (by decide)
      rw [nB, eB] at happ
      simp (maxSteps := 10000000) (disch := omega) only [vqA, tagOf, reduceIte, reduceCtorEq, reduceEqDiff, reduceAdd, reduceSub, reduceMul, reduceLT, reduceLeDiff, reduceToNat, Nat.reduceBEq, tqA, r1, r3, r7, r8, r9, hc]
      rw [happ]
      simp (maxSteps := 10000000) (disch := omega) only [vqA, tagOf, reduceIte, reduceCtorEq, reduceEqDiff, reduceAdd, reduceSub, reduceMul, reduceLT, reduceLeDiff, reduceToNat, Nat.reduceBEq, tqA, r1, r3, r7, r8, r9, hc]
      exact ⟨k - 1, by omega, i + 1, w2, items ++ [(p.diff, .slice ad p.diff.recs.length cd)], by omega, by rw [List.map_append, hit, htk]; rfl, fun q hq => by
        rcases List.mem_append.1 hq with hq | hq
        · exact hib q hq
        · rw [List.mem_singleton] at hq
          subst hq
          exact hdr, by rw [List.flatMap_append]; exact ow2, rfl, rfl, g2⟩
    · rw [List.take_of_length_le hi] at hit
      have m1 := (gr.get h.next (by omega)).trans m0
      have hwl : items.length = b.parts.length := by rw [hil, List.length_take]; omega
      obtain ⟨w2, h2, happ, ow2, g2, hn2, hbk, hkeep⟩ := own_app Sc_ okSrc_diffs (h := h'.new (.cells [.int .i64 b.last.fr, .int .i64 b.last.to, .slice aw b.last.recs.length cw] true none))
        (how.grow (.new h' _)) (gr.more _) (b2 := h'.next) (o2 := 0) (n := 1) (c2 := 1) (new := [.int .i64 b.last.fr, .int .i64 b.last.to, .slice aw b.last.recs.length cw]) (by simp (maxSteps := 10000000) (disch := omega) only [vqA, tagOf, reduceIte, reduceCtorEq, reduceEqDiff, reduceAdd, reduceSub, reduceMul, reduceLT, reduceLeDiff, reduceToNat, Nat.reduceBEq, tqA]) (by omega) (by simp (maxSteps := 10000000) (disch := omega) only [vqA, tagOf, reduceIte, reduceCtorEq, reduceEqDiff, reduceAdd, reduceSub, reduceMul, reduceLT, reduceLeDiff, reduceToNat, Nat.reduceBEq, tqA]) (by rw [flat_len (fun p _ => dsC_len p)]; simp; omega) (by decide)
      simp (maxSteps := 10000000) (disch := omega) only [vqA, tagOf, reduceIte, reduceCtorEq, reduceEqDiff, reduceAdd, reduceSub, reduceMul, reduceLT, reduceLeDiff, reduceToNat, Nat.reduceBEq, tqA, r1, r3, r7, r8, r9, m1]
      rw [happ]
      simp (maxSteps := 10000000) (disch := omega) only [vqA, tagOf, reduceIte, reduceCtorEq, reduceEqDiff, reduceAdd, reduceSub, reduceMul, reduceLT, reduceLeDiff, reduceToNat, Nat.reduceBEq, tqA, r1, r3, r7, r8, r9, m1]
      refine ⟨g0.trans g2, dsrow_of (items := items ++ [(b.last, .slice aw b.last.recs.length cw)]) (by rw [List.map_append, hit]; rfl) (by rw [List.flatMap_append]; exact ow2.row) fun q hq => ?_⟩
      rcases List.mem_append.1 hq with hq | hq
      · exact (hib q hq).grow (g0.trans g2)
      · rw [List.mem_singleton] at hq
        subst hq
        exact hd.grow (g0.trans g2)
  · exact ⟨0, _, [], by omega, rfl, (fun _ h => nomatch h), .nil _ _ _ _, by simp (maxSteps := 10000000) (disch := omega) only [vqA, tagOf, reduceIte, reduceCtorEq, reduceEqDiff, reduceAdd, reduceSub, reduceMul, reduceLT, reduceLeDiff, reduceToNat, Nat.reduceBEq, tqA], by simp (maxSteps := 10000000) (disch := omega) only [vqA, tagOf, reduceIte, reduceCtorEq, reduceEqDiff, reduceAdd, reduceSub, reduceMul, reduceLT, reduceLeDiff, reduceToNat, Nat.reduceBEq, tqA], by simp (maxSteps := 10000000) (disch := omega) only [vqA, tagOf, reduceIte, reduceCtorEq, reduceEqDiff, reduceAdd, reduceSub, reduceMul, reduceLT, reduceLeDiff, reduceToNat, Nat.reduceBEq, tqA], by simp (maxSteps := 10000000) (disch := omega) only [vqA, tagOf, reduceIte, reduceCtorEq, reduceEqDiff, reduceAdd, reduceSub, reduceMul, reduceLT, reduceLeDiff, reduceToNat, Nat.reduceBEq, tqA], by simp (maxSteps := 10000000) (disch := omega) only [vqA, tagOf, reduceIte, reduceCtorEq, reduceEqDiff, reduceAdd, reduceSub, reduceMul, reduceLT, reduceLeDiff, reduceToNat, Nat.reduceBEq, tqA]; rfl, .refl _⟩
end Go.Proofs.Ytdmakachnphddaa.C
