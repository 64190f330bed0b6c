/- X12: bundles that are more than is looked at; a bundle as the program's. -/
import Derived.Test.YtdmakachnphddaaX11
open Nat (reduceEqDiff reduceAdd reduceSub reduceMul reduceLT reduceLeDiff)
open Int (reduceToNat)
open Go Go.Vi Go.Bm
namespace Go.Proofs.Ytdmakachnphddaa.C
set_option linter.unusedSimpArgs false
set_option maxRecDepth 100000
set_option maxHeartbeats 40000000
structure FitB (b : Bun) : Prop where
  n : b.parts.length ≤ 20
  name : ∀ p ∈ b.parts, p.name.length ≤ 60
  diff : ∀ p ∈ b.parts, Fit p.diff
  last : Fit b.last
structure FewB (b : Bun) : Prop where
  n : b.parts.length ≤ 100000000
  diff : ∀ p ∈ b.parts, p.diff.recs.length ≤ 100000000
  last : b.last.recs.length ≤ 100000000
theorem plain_ok (b : Bun) (v w : Value) (h : Heap) (hp : PRow h v b.parts) (hd : DRow h w b.last.recs) (fb : FewB b) :
    Ret E F0_ [.agg ⟨bunC b v w⟩] h (fun u h' => Grow h h' ∧ ∃ v' w', u = .agg ⟨bunC b v' w'⟩ ∧ PRow h' v' b.parts ∧ DRow h' w' b.last.recs) := by
  refine ret_fun IG_ (by simp) ?_
  unfold GC_
  have hbc : ∀ v w, bunC b v w = [.int .i64 b.object, v, .int .i64 b.last.fr, .int .i64 b.last.to, w] := fun _ _ => rfl
  rw [hbc]
  have hdc : ∀ (d : Dif) (w : Value), difC d w = [.int .i64 d.fr, .int .i64 d.to, w] := fun _ _ => rfl
  obtain ⟨av, cv, rfl⟩ := hp.is
  obtain ⟨aw, cw, rfl⟩ := hd.is
  obtain ⟨h0, e0⟩ : ∃ y, y = (h.new (.cells [.int .i64 b.object, .slice av b.parts.length cv, .int .i64 b.last.fr, .int .i64 b.last.to, .slice aw b.last.recs.length cw] true none)).new (.cells [.int .i64 0, .slice none 0 0, .int .i64 0, .int .i64 0, .slice none 0 0] true none) := ⟨_, rfl⟩
  have g0 : Grow h h0 := by rw [e0]; exact (Grow.new h _).more _
  have n0 : h0.next = h.next + 2 := by rw [e0]; rfl
  have m0 : h0.get h.next = some (.cells [.int .i64 b.object, .slice av b.parts.length cv, .int .i64 b.last.fr, .int .i64 b.last.to, .slice aw b.last.recs.length cw] true none) := by rw [e0, get_new_ne (by show h.next ≠ h.next + 1; omega), get_new_same]
  have s0 : h0.get (h.next + 1) = some (.cells [.int .i64 0, .slice none 0 0, .int .i64 0, .int .i64 0, .slice none 0 0] true none) := by rw [e0]; exact get_new_same _ _
  have go := fun Q => (plainDiffN_ok b.last _ h h0 hd g0 fb.last).mono (Q' := Q)
  rw [hdc] at go
  simp (maxSteps := 10000000) (disch := omega) only [vqA, tagOf, reduceIte, reduceCtorEq, reduceEqDiff, reduceAdd, reduceSub, reduceMul, reduceLT, reduceLeDiff, reduceToNat, Nat.reduceBEq, tqA]
  rw [← e0]
  refine go _ ?_
  rintro u h1 ⟨g1, w1, rfl, hw1⟩
  rw [hdc]
  have n1 := g1.next
  have m1 := (g1.get h.next (by omega)).trans m0
  have s1 := (g1.get (h.next + 1) (by omega)).trans s0
  obtain ⟨a1, z1, rfl⟩ := (hw1.row (g0.trans g1)).is
  simp (maxSteps := 10000000) (disch := omega) only [vqA, tagOf, reduceIte, reduceCtorEq, reduceEqDiff, reduceAdd, reduceSub, reduceMul, reduceLT, reduceLeDiff, reduceToNat, Nat.reduceBEq, tqA, m0, m1]
  obtain ⟨h2, e2⟩ : ∃ y, y = (h1.new (.cells [.int .i64 0, .slice none 0 0, .int .i64 0, .int .i64 0, .slice none 0 0] true none)).set h1.next (.cells [.int .i64 b.object, .slice none 0 0, .int .i64 b.last.fr, .int .i64 b.last.to, .slice a1 b.last.recs.length z1] true none) := ⟨_, rfl⟩
  have g2 : Grow h1 h2 := by rw [e2]; exact (Grow.new h1 _).set (Nat.le_refl _) _
  have n2 : h2.next = h1.next + 1 := by rw [e2]; rfl
  have q2 : h2.get h1.next = some (.cells [.int .i64 b.object, .slice none 0 0, .int .i64 b.last.fr, .int .i64 b.last.to, .slice a1 b.last.recs.length z1] true none) := by rw [e2, get_set_same]
  rw [← e2]
  obtain ⟨Q, eQ⟩ : ∃ Q, Q = h1.next := ⟨_, rfl⟩
  rw [← eQ] at q2 n2 ⊢
  have g01 : Grow h h1 := g0.trans g1
  refine r_loop (k := b.parts.length) (fun k ρ h' => ∃ (i : Nat) (items : List (Part × Value)) (x : Value), i + k = b.parts.length ∧ items.map (·.1) = b.parts.take i ∧
    (∀ q ∈ items, DMP (fun c => Q + 1 ≤ c ∧ c < h'.next ∧ blkOf x ≠ some c) h h' q.2 q.1.diff.recs) ∧ Own h1 h' 5 Tv_ x (items.flatMap partC) ∧ (∀ c, blkOf x = some c → Q < c) ∧
    ρ 2 = .pointer (some ⟨h.next + 1, 0, none⟩) ∧ ρ 3 = .pointer (some ⟨Q, 0, none⟩) ∧ ρ 13 = .slice av b.parts.length cv ∧ ρ 14 = .int .i64 b.parts.length ∧ ρ 15 = .int .i64 (i : Int) ∧
    h'.get Q = some (.cells [.int .i64 b.object, x, .int .i64 b.last.fr, .int .i64 b.last.to, .slice a1 b.last.recs.length z1] true none) ∧ Grow h1 h' ∧ Q < h'.next) ?_ ?_
  · rintro k ρ h' ⟨i, items, x, hk, hit, hib, how, hbw, r2, r3, r13, r14, r15, cq, gr, hnx⟩
    unfold Gaw_
    have hil : items.length = (b.parts.take i).length := by rw [← hit, List.length_map]
    have hL := fb.n
    have gh := g01.trans gr
    obtain ⟨aw, hew⟩ : ∃ a, x = .slice a items.length items.length := by
      rcases how with ⟨rfl, e⟩ | ⟨b9, n9, rfl, hn9, hz9, _⟩
      · have : items.length = 0 := by
          have := congrArg List.length e
          rw [flat_len (fun p _ => partC_len p), List.length_nil] at this
          omega
        exact ⟨none, by rw [this]⟩
      · rw [flat_len (fun p _ => partC_len p)] at hz9
        exact ⟨_, by rw [show items.length = n9 by omega]⟩
    subst hew
    rcases Nat.lt_or_ge i b.parts.length with hi | hi
    · have hr : b.parts[i]? = some b.parts[i] := List.getElem?_eq_getElem hi
      have hne : b.parts ≠ [] := fun e => by rw [e] at hi; simp at hi
      obtain ⟨bb, o, c', he, hb, hel⟩ := hp.elems hne
      cases he
      obtain ⟨dv, hc, hdr⟩ := hel i _ hr
      obtain ⟨ad, cd, rfl⟩ := hdr.is
      rw [← gh.get bb hb] at hc
      have hff := fb.diff _ (List.getElem_mem hi)
      have htk : b.parts.take (i + 1) = b.parts.take i ++ [b.parts[i]] := by rw [List.take_add_one, hr]; rfl
      rw [List.length_take, Nat.min_eq_left (by omega)] at hil
      generalize b.parts[i] = q at hr hc hdr hff htk
      
      obtain ⟨hP, eP⟩ : ∃ y, y = (h'.new (.cells [.string (strOf []), .bool false, .int .i64 0, .int .i64 0, .slice none 0 0] true none)).set h'.next (.cells [.string (strOf q.name), .bool q.prot, .int .i64 q.diff.fr, .int .i64 q.diff.to, .slice ad q.diff.recs.length cd] true none) := ⟨_, rfl⟩
      have gP : Grow h' hP := by rw [eP]; exact (Grow.new h' _).set (Nat.le_refl _) _
      have nP : hP.next = h'.next + 1 := by rw [eP]; rfl
      have pP : hP.get h'.next = some (.cells [.string (strOf q.name), .bool q.prot, .int .i64 q.diff.fr, .int .i64 q.diff.to, .slice ad q.diff.recs.length cd] true none) := by rw [eP, get_set_same]
      have cqP := (gP.get Q hnx).trans cq
      have go := fun Q' => (plainDiffN_ok q.diff _ h hP hdr (gh.trans gP) hff).mono (Q' := Q')
      rw [hdc] at go
      simp (maxSteps := 10000000) (disch := omega) only [vqA, tagOf, reduceIte, reduceCtorEq, reduceEqDiff, reduceAdd, reduceSub, reduceMul, reduceLT, reduceLeDiff, reduceToNat, Nat.reduceBEq, tqA, r2, r3, r13, r14, r15, hc, cq]
      rw [← eP]
      refine go _ ?_
      rintro u k1 ⟨g3, w3, rfl, hw3⟩
      rw [hdc]
      have n3 := g3.next
      have p3 := (g3.get h'.next (by omega)).trans pP
      have cq3 := (g3.get Q (by omega)).trans cqP
      have gP3 := gP.trans g3
      obtain ⟨a3, z3, rfl⟩ := (hw3.row (gh.trans gP3)).is
      obtain ⟨w2, h9, happ, ow2, g9, hn9, hbk, hkeep⟩ := own_app68 Sd_ okSrc_rparts (h := k1.new (.cells [.string (strOf q.name), .bool q.prot, .int .i64 q.diff.fr, .int .i64 q.diff.to, .slice a3 q.diff.recs.length z3] true none))
        (how.grow (gP3.trans (.new k1 _))) ((gr.trans gP3).more _) (b2 := k1.next) (o2 := 0) (n := 1) (c2 := 1) (new := [.string (strOf q.name), .bool q.prot, .int .i64 q.diff.fr, .int .i64 q.diff.to, .slice a3 q.diff.recs.length z3]) (by simp (maxSteps := 10000000) (disch := omega) only [vqA, tagOf, reduceIte, reduceCtorEq, reduceEqDiff, reduceAdd, reduceSub, reduceMul, reduceLT, reduceLeDiff, reduceToNat, Nat.reduceBEq, tqA]) (by omega) (by simp (maxSteps := 10000000) (disch := omega) only [vqA, tagOf, reduceIte, reduceCtorEq, reduceEqDiff, reduceAdd, reduceSub, reduceMul, reduceLT, reduceLeDiff, reduceToNat, Nat.reduceBEq, tqA]) (by rw [flat_len (fun p _ => partC_len p)]; simp; omega) (by decide)
      obtain ⟨a2, z2, c2', rfl, _⟩ := ow2.row.is
      have hn9 : h9.next = k1.next + 2 := hn9
      have hbk : blkOf (.slice a2 z2 c2') = some (k1.next + 1) := hbk
      have hkeep : ∀ c, c < k1.next → blkOf (.slice aw items.length items.length) ≠ some c → h9.get c = k1.get c := fun c hc hne => (hkeep c (Nat.lt_succ_of_lt hc) hne).trans (get_new_ne (by omega))
      have cq9 := (hkeep Q (by omega) fun e => by have := hbw Q e; omega).trans cq3
      simp (maxSteps := 10000000) (disch := omega) only [vqA, tagOf, reduceIte, reduceCtorEq, reduceEqDiff, reduceAdd, reduceSub, reduceMul, reduceLT, reduceLeDiff, reduceToNat, Nat.reduceBEq, tqA, r2, r3, r13, r14, r15, hc, cq, cqP, cq3, pP, p3]
      rw [happ]
      simp (maxSteps := 10000000) (disch := omega) only [vqA, tagOf, reduceIte, reduceCtorEq, reduceEqDiff, reduceAdd, reduceSub, reduceMul, reduceLT, reduceLeDiff, reduceToNat, Nat.reduceBEq, tqA, r2, r3, r13, r14, r15, hc, cq, cqP, cq3, cq9, pP, p3]
      have S : ∀ c, c ≠ Q → ∀ o, (h9.set Q o).get c = h9.get c := fun c hc o => get_set_ne hc
      refine ⟨k - 1, by omega, i + 1, items ++ [(q, .slice a3 q.diff.recs.length z3)], .slice a2 z2 c2', by omega, by rw [List.map_append, hit, htk]; rfl, fun y hy => ?_, ?_, fun c hc => by rw [hbk] at hc; have := Option.some.inj hc; omega, rfl, rfl, ?_, by omega⟩
      · rcases List.mem_append.1 hy with hy | hy
        · refine DMP.keep (hib y hy) (by show h'.next ≤ h9.next; omega) (fun c ⟨q1, q2, q3⟩ => ?_) fun c ⟨q1, q2, q3⟩ => ⟨q1, by show c < h9.next; omega, by rw [hbk]; intro e; have := Option.some.inj e; omega⟩
          rw [S c (by omega), hkeep c (by omega) q3, gP3.get c q2]
        · rw [List.mem_singleton] at hy
          subst hy
          refine DMP.keep hw3.dmp (by show k1.next ≤ h9.next; omega) (fun c ⟨q1, q2⟩ => ?_) fun c ⟨q1, q2⟩ => ⟨by omega, by show c < h9.next; omega, by rw [hbk]; intro e; have := Option.some.inj e; omega⟩
          rw [S c (by omega), hkeep c q2 (fun e => by have := (how.lt e).2; omega)]
      · rw [List.flatMap_append]
        refine Own.keep ow2 (Nat.le_refl _) fun c hc => S c (fun e => ?_) _
        rw [hbk] at hc
        have := Option.some.inj hc
        omega
      · exact g9.set (by omega) _
    · rw [List.take_of_length_le hi] at hit
      have s3 := (gr.get (h.next + 1) (by omega)).trans s1
      have gF : ∀ y, Grow h (h'.set (h.next + 1) y) := fun y => gh.set (by omega) y
      simp (maxSteps := 10000000) (disch := omega) only [vqA, tagOf, reduceIte, reduceCtorEq, reduceEqDiff, reduceAdd, reduceSub, reduceMul, reduceLT, reduceLeDiff, reduceToNat, Nat.reduceBEq, tqA, r2, r3, r13, r14, r15, cq, s3]
      refine ⟨gF _, _, _, rfl, ⟨items, hit, RowV.keep how.row (Nat.le_refl _) fun c hc _ => get_set_ne (by have := hbw c hc; omega), fun q hq => ?_⟩, ?_⟩
      · exact (DMP.keep (Q := fun _ => True) (h' := h'.set (h.next + 1) (.cells [.int .i64 b.object, .slice aw items.length items.length, .int .i64 b.last.fr, .int .i64 b.last.to, .slice a1 b.last.recs.length z1] true none)) (hib q hq) (Nat.le_refl _) (fun c ⟨q1, q2, q3⟩ => get_set_ne (by omega)) fun _ _ => trivial).row (gF _)
      · exact (DMP.keep (Q := fun _ => True) hw1.dmp (by show h1.next ≤ h'.next; exact gr.next) (fun c ⟨q1, q2⟩ => (get_set_ne (by omega)).trans (gr.get c q2)) fun _ _ => trivial).row (gF _)
  · exact ⟨0, [], .slice none 0 0, by omega, rfl, (fun _ h => nomatch h), .nil _ _ _ _, (fun c hc => by cases hc), by simp (maxSteps := 10000000) (disch := omega) only [vqA, tagOf, reduceIte, reduceCtorEq, reduceEqDiff, reduceAdd, reduceSub, reduceMul, reduceLT, reduceLeDiff, reduceToNat, Nat.reduceBEq, tqA], by simp (maxSteps := 10000000) (disch := omega) only [vqA, tagOf, reduceIte, reduceCtorEq, reduceEqDiff, reduceAdd, reduceSub, reduceMul, reduceLT, reduceLeDiff, reduceToNat, Nat.reduceBEq, tqA], by simp (maxSteps := 10000000) (disch := omega) only [vqA, tagOf, reduceIte, reduceCtorEq, reduceEqDiff, reduceAdd, reduceSub, reduceMul, reduceLT, reduceLeDiff, reduceToNat, Nat.reduceBEq, tqA], by simp (maxSteps := 10000000) (disch := omega) only [vqA, tagOf, reduceIte, reduceCtorEq, reduceEqDiff, reduceAdd, reduceSub, reduceMul, reduceLT, reduceLeDiff, reduceToNat, Nat.reduceBEq, tqA], by simp (maxSteps := 10000000) (disch := omega) only [vqA, tagOf, reduceIte, reduceCtorEq, reduceEqDiff, reduceAdd, reduceSub, reduceMul, reduceLT, reduceLeDiff, reduceToNat, Nat.reduceBEq, tqA]; rfl, q2, g2, by omega⟩
end Go.Proofs.Ytdmakachnphddaa.C
