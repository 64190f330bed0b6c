/- X10: the bundle of a stream, as the document takes it. -/
import Derived.Test.YtdmakachnphddaaX9
open Nat (reduceEqDiff reduceAdd reduceSub reduceMul reduceLT reduceLeDiff)
open Int (reduceToNat)
open Go Go.Vi Go.Bm
namespace Go.Proofs.Ytdmakachnphddaa.C
set_option linter.unusedSimpArgs false
set_option maxRecDepth 100000
set_option maxHeartbeats 40000000
theorem okSrc_rparts : okSrc E (some Tk_) = some true := by kernel_rfl
theorem refBunTake_ok (v : Value) (b : List UInt8) (h : Heap) (hv : BRow h v b) (hl : b.length ≤ 80000000) :
    Ret E FX_ [v] h (fun u h' => Grow h h' ∧ ∃ x y, u = .tuple ⟨[x, y]⟩ ∧ TakeB b h.next h' x y (.bool true) (.bool false)) := by
  refine ret_fun Iad_ (by simp) ?_
  unfold GaA_
  obtain ⟨hT, hR⟩ := Rdb.start (b := b)
  obtain ⟨T, eT⟩ : ∃ T, T = ((bytesR (some b)).1 == [108, 97, 109, 105, 110, 97, 32, 98, 117, 110, 100, 108, 101, 32, 49]) := ⟨_, rfl⟩
  have lf1 := bytesR_lf (some b)
  have lf2 := numR_lf (bytesR (some b)).2
  have lf3 := numR_lf (numR (bytesR (some b)).2).2
  have hlb : lf (some b) = b.length + 1 := rfl
  obtain ⟨h0, e0⟩ : ∃ y, y = h.new (.cells [.int .i64 0, .slice none 0 0, .int .i64 0, .int .i64 0, .slice none 0 0] true none) := ⟨_, rfl⟩
  have g0 : Grow h h0 := by rw [e0]; exact .new h _
  have n0 : h0.next = h.next + 1 := by rw [e0]; rfl
  have m0 : h0.get h.next = some (.cells [.int .i64 0, .slice none 0 0, .int .i64 0, .int .i64 0, .slice none 0 0] true none) := by rw [e0, get_new_same]
  obtain ⟨aX, cX, hX, happX, gX, bX, oX, vX, cutX⟩ := fresh_copy h0 v b (hv.grow g0) (by omega)
  obtain ⟨av, cv, rfl⟩ := hv.is
  simp (maxSteps := 10000000) (disch := omega) only [vqA, tagOf, reduceIte, reduceCtorEq, reduceEqDiff, reduceAdd, reduceSub, reduceMul, reduceLT, reduceLeDiff, reduceToNat, Nat.reduceBEq, tqA]
  rw [← e0, ← n0, happX]
  simp (maxSteps := 10000000) (disch := omega) only [vqA, tagOf, reduceIte, reduceCtorEq, reduceEqDiff, reduceAdd, reduceSub, reduceMul, reduceLT, reduceLeDiff, reduceToNat, Nat.reduceBEq, tqA]
  obtain ⟨h1, e1⟩ : ∃ y, y = hX.new (.cells [.slice aX b.length cX, .bool false] true none) := ⟨_, rfl⟩
  obtain ⟨p, ep⟩ : ∃ p, p = hX.next := ⟨_, rfl⟩
  have hp : h0.next ≤ p := by rw [ep]; exact gX.next
  have g1 : Grow h0 h1 := by rw [e1]; exact gX.more _
  have x1 : Rdr h0.next h1 p (some b) := by
    rw [e1, ep]
    refine ⟨Nat.lt_succ_self _, by omega, _, get_new_same _ _, RowV.grow bX (.new hX _), oX, vX, fun k hk => ?_⟩
    obtain ⟨cs, w, q, e, hq⟩ := cutX k hk
    exact ⟨cs, w, q, (get_new_ne (by have := (oX k hk).1; omega)).trans e, hq⟩
  rw [← e1, ← ep]
  clear e1 ep bX oX vX cutX gX happX
  refine (qbytes_ok _ p _ h1 x1).mono ?_
  rintro u h2 ⟨x2, b2, hw2, _⟩
  have n2 := b2.next
  simp (maxSteps := 10000000) (disch := omega) only [vqA, tagOf, reduceIte, reduceCtorEq, reduceEqDiff, reduceAdd, reduceSub, reduceMul, reduceLT, reduceLeDiff, reduceToNat, Nat.reduceBEq, tqA, text_bytes hw2]
  refine (qnum_ok _ p _ h2 x2).mono ?_
  rintro u h3 ⟨x3, b3, rfl⟩
  have n3 := b3.next
  have g3 : Grow h0 h3 := g1.but (b2.trans b3) hp
  have hp3 := x3.lt
  have n3' := g3.next
  simp (maxSteps := 10000000) (disch := omega) only [vqA, tagOf, reduceIte, reduceCtorEq, reduceEqDiff, reduceAdd, reduceSub, reduceMul, reduceLT, reduceLeDiff, reduceToNat, Nat.reduceBEq, tqA]
  generalize (numR (bytesR (some b)).2).1 = obj at hR ⊢
  obtain ⟨h5, e5⟩ : ∃ y, y = ((h3.new (.cells [.int .i64 0, .slice none 0 0, .int .i64 0, .int .i64 0, .slice none 0 0] true none)).set h3.next (.cells [.int .i64 obj, .slice none 0 0, .int .i64 0, .int .i64 0, .slice none 0 0] true none)) := ⟨_, rfl⟩
  have g5 : Grow h3 h5 := by rw [e5]; exact (Grow.new h3 _).set (Nat.le_refl _) _
  have n5 : h5.next = h3.next + 1 := by rw [e5]; rfl
  have q5 : h5.get h3.next = some (.cells [.int .i64 obj, .slice none 0 0, .int .i64 0, .int .i64 0, .slice none 0 0] true none) := by rw [e5, get_set_same]
  rw [← e5]
  refine (qnum_ok _ p _ h5 (x3.grow g5 hp)).mono ?_
  rintro u h6 ⟨x6, b6, rfl⟩
  have n6 := b6.next
  have q6 := (b6.get h3.next (by omega) (by omega) (by omega)).trans q5
  have g6 : Grow h0 h6 := (g3.trans g5).but b6 hp
  simp (maxSteps := 10000000) (disch := omega) only [vqA, tagOf, reduceIte, reduceCtorEq, reduceEqDiff, reduceAdd, reduceSub, reduceMul, reduceLT, reduceLeDiff, reduceToNat, Nat.reduceBEq, tqA]
  generalize (numR (numR (bytesR (some b)).2).2).1 = n at hR ⊢
  generalize hr6 : (numR (numR (bytesR (some b)).2).2).2 = r6 at hR x6 lf3
  obtain ⟨Q, eQ⟩ : ∃ Q, Q = h3.next := ⟨_, rfl⟩
  rw [← eQ] at q6 ⊢
  have lQ : p < Q ∧ Q < h6.next := by omega
  have hz : bunC ⟨0, [], ⟨0, 0, []⟩⟩ (.slice none 0 0) (.slice none 0 0) = [.int .i64 0, .slice none 0 0, .int .i64 0, .int .i64 0, .slice none 0 0] := rfl
  have nop : ∀ (H : Heap) (Y : Heap), (∀ B, goodBun B = true → putBun B ≠ b) → Grow h H → Grow h (H.set h.next (.cells [.int .i64 0, .slice none 0 0, .int .i64 0, .int .i64 0, .slice none 0 0] true none)) ∧ ∃ x y, (.tuple ⟨[.agg ⟨[.int .i64 0, .slice none 0 0, .int .i64 0, .int .i64 0, .slice none 0 0]⟩, .bool false]⟩ : Value) = .tuple ⟨[x, y]⟩ ∧ TakeB b h.next Y x y (.bool true) (.bool false) := fun H Y hn g => ⟨g.set (Nat.le_refl _) _, _, _, rfl, .inr ⟨hn, by rw [hz], rfl⟩⟩
  refine r_loop (k := lf r6) (fun k ρ h' => ∃ (ps : List Part) (items : List (Part × Value)) (w : Value) (r : Rd), lf r = k ∧ items.map (·.1) = ps ∧ Rdb b obj n ps r false ∧ ps.length + lf r ≤ b.length + 1 ∧ (∀ q ∈ ps, PartOk q) ∧
    (∀ q ∈ items, DIn (fun c => Q + 1 ≤ c ∧ c < h'.next ∧ blkOf w ≠ some c) h' q.2 q.1.diff.recs) ∧ Own h0 h' 5 Tv_ w (items.flatMap partC) ∧ (∀ c, blkOf w = some c → Q + 1 ≤ c) ∧
    ρ 0 = .slice av b.length cv ∧ ρ 2 = .pointer (some ⟨h.next, 0, none⟩) ∧ ρ 4 = .pointer (some ⟨p, 0, none⟩) ∧ ρ 5 = .string (strOf (bytesR (some b)).1) ∧ ρ 6 = .pointer (some ⟨Q, 0, none⟩) ∧ ρ 7 = .int .i64 n ∧ ρ 8 = .int .i64 ps.length ∧
    h'.get Q = some (.cells [.int .i64 obj, w, .int .i64 0, .int .i64 0, .slice none 0 0] true none) ∧ Rdr h0.next h' p r ∧ Grow h0 h' ∧ Q < h'.next) ?_ ?_
  · rintro k ρ h' ⟨ps, items, w, r, hk, hit, hR, hlen, hpo, hib, how, hbw, r0, r2, r4, r5, r6, r7, r8, cq, xr, gr, hnx⟩
    unfold G1_
    have hil : items.length = ps.length := by rw [← hit, List.length_map]
    obtain ⟨aw, hew⟩ : ∃ a, w = .slice a ps.length ps.length := by
      rcases how with ⟨rfl, e⟩ | ⟨b9, n9, rfl, hn9, hz9, _⟩
      · have : items.length = 0 := by
          have := congrArg List.length e
          rw [flat_len (fun p _ => partC_len p), List.length_nil] at this
          omega
        exact ⟨none, by rw [show ps.length = 0 by omega]⟩
      · rw [flat_len (fun p _ => partC_len p)] at hz9
        exact ⟨_, by rw [show ps.length = n9 by omega]⟩
    subst hew
    have hxp := xr.lt
    obtain ⟨ab, zb, hbad⟩ := xr.bad
    have hnl := bytesR_len r
    have hfl := flagR_lf (bytesR r).2
    have hml := bytesR_len (flagR (bytesR r).2).2
    have mh := (gr.get h.next (by omega)).trans m0
    by_cases hc : (ps.length : Int) < n ∧ r.isNone = false
    · obtain ⟨kn1, kn2⟩ := hc
      have kn3 : 0 < lf r := by cases r with
        | none => cases kn2
        | some l => exact Nat.succ_pos _
      rw [kn2] at hbad
      simp (maxSteps := 10000000) (disch := omega) only [vqA, tagOf, reduceIte, reduceCtorEq, reduceEqDiff, reduceAdd, reduceSub, reduceMul, reduceLT, reduceLeDiff, reduceToNat, Nat.reduceBEq, tqA, r0, r2, r4, r5, r6, r7, r8, hbad]
      refine (qbytes_ok _ p r h' xr).mono ?_
      rintro u1 k1 ⟨y1, d1, hw1, _⟩
      have e1 := d1.next
      obtain ⟨nm, enm⟩ : ∃ nm, nm = (bytesR r).1 := ⟨_, rfl⟩
      rw [← enm] at hw1
      obtain ⟨kP, eP⟩ : ∃ y, y = (k1.new (.cells [.string (strOf []), .bool false, .int .i64 0, .int .i64 0, .slice none 0 0] true none)).set k1.next (.cells [.string (strOf nm), .bool false, .int .i64 0, .int .i64 0, .slice none 0 0] true none) := ⟨_, rfl⟩
      have gP : Grow k1 kP := by rw [eP]; exact (Grow.new k1 _).set (Nat.le_refl _) _
      have nP : kP.next = k1.next + 1 := by rw [eP]; rfl
      have pP : kP.get k1.next = some (.cells [.string (strOf nm), .bool false, .int .i64 0, .int .i64 0, .slice none 0 0] true none) := by rw [eP, get_set_same]
      have dkP : But p p h' kP := d1.trans (.of gP)
      simp (maxSteps := 10000000) (disch := omega) only [vqA, tagOf, reduceIte, reduceCtorEq, reduceEqDiff, reduceAdd, reduceSub, reduceMul, reduceLT, reduceLeDiff, reduceToNat, Nat.reduceBEq, tqA, r0, r2, r4, r5, r6, r7, r8, text_bytes hw1]
      rw [← eP]
      refine (qflag_ok _ p _ kP (y1.grow gP hp)).mono ?_
      rintro u k2 ⟨y2, d2, rfl⟩
      have e2 := d2.next
      have p2 := (d2.get _ (by omega) (by omega) (by omega)).trans pP
      obtain ⟨pr, epr⟩ : ∃ pr, pr = (flagR (bytesR r).2).1 := ⟨_, rfl⟩
      rw [← epr]
      obtain ⟨k3, e3⟩ : ∃ y, y = k2.set k1.next (.cells [.string (strOf nm), .bool pr, .int .i64 0, .int .i64 0, .slice none 0 0] true none) := ⟨_, rfl⟩
      have n3k : k3.next = k2.next := by rw [e3]; rfl
      have k3g : ∀ c, c ≠ k1.next → k3.get c = k2.get c := fun c hc => by rw [e3, get_set_ne hc]
      have p3 : k3.get k1.next = some (.cells [.string (strOf nm), .bool pr, .int .i64 0, .int .i64 0, .slice none 0 0] true none) := by rw [e3, get_set_same]
      have y3 : Rdr h0.next k3 p _ := y2.keep (by omega) (fun c _ hcp _ => k3g c (by omega)) hp
      have dk3 : But p p h' k3 := ⟨by omega, fun c q1 q2 q3 => (k3g c (by omega)).trans ((dkP.trans d2).get c q1 q2 q3)⟩
      simp (maxSteps := 10000000) (disch := omega) only [vqA, tagOf, reduceIte, reduceCtorEq, reduceEqDiff, reduceAdd, reduceSub, reduceMul, reduceLT, reduceLeDiff, reduceToNat, Nat.reduceBEq, tqA, r0, r2, r4, r5, r6, r7, r8, p2]
      rw [← e3]
      refine (qbytes_ok _ p _ k3 y3).mono ?_
      rintro u4 k4 ⟨y4, d4, hw4, _⟩
      have e4 := d4.next
      have dk4 := dk3.trans d4
      simp (maxSteps := 10000000) (disch := omega) only [vqA, tagOf, reduceIte, reduceCtorEq, reduceEqDiff, reduceAdd, reduceSub, reduceMul, reduceLT, reduceLeDiff, reduceToNat, Nat.reduceBEq, tqA, r0, r2, r4, r5, r6, r7, r8]
      refine (refTake_ok u4 _ k4 hw4 (by omega)).mono ?_
      rintro u k5 ⟨g5', a, e, rfl, hq⟩
      have e5' := g5'.next
      have dk5 : But p p h' k5 := dk4.trans (.of g5')
      have p5 := (g5'.get k1.next (by omega)).trans ((d4.get k1.next (by omega) (by omega) (by omega)).trans p3)
      have cq5 := (dk5.get Q hnx (by omega) (by omega)).trans cq
      have gk5 : Grow h0 k5 := gr.but dk5 hp
      have mh5 := (gk5.get h.next (by omega)).trans m0
      have y5 := y4.grow g5' hp
      rcases hq with ⟨d, w1, q1, q2, rfl, rfl, hdn⟩ | ⟨q1, rfl, rfl⟩
      · obtain ⟨a1, z1, rfl⟩ := hdn.row.is
        have hdc : difC d (.slice a1 d.recs.length z1) = [.int .i64 d.fr, .int .i64 d.to, .slice a1 d.recs.length z1] := rfl
        rw [hdc]
        obtain ⟨k6, e6'⟩ : ∃ y, y = ((k5.new (.cells [.int .i64 0, .int .i64 0, .slice none 0 0] true none)).set k5.next (.cells [.int .i64 d.fr, .int .i64 d.to, .slice a1 d.recs.length z1] true none)).set k1.next (.cells [.string (strOf nm), .bool pr, .int .i64 d.fr, .int .i64 d.to, .slice a1 d.recs.length z1] true none) := ⟨_, rfl⟩
        have n6' : k6.next = k5.next + 1 := by rw [e6']; rfl
        have k6g : ∀ c, c ≠ k1.next → c < k5.next → k6.get c = k5.get c := fun c hc hlt => by rw [e6', get_set_ne hc, get_set_ne (by omega), get_new_ne (by omega)]
        have dk6 : But p p h' k6 := ⟨by omega, fun c q1 q2 q3 => (k6g c (by omega) (by omega)).trans (dk5.get c q1 q2 q3)⟩
        have gk6 : Grow h0 k6 := gr.but dk6 hp
        have ow6 : Own h0 k6 5 Tv_ (.slice aw ps.length ps.length) (items.flatMap partC) := how.keep (by omega) fun c hc => dk6.get c (how.lt hc).2 (by have := hbw c hc; omega) (by have := hbw c hc; omega)
        obtain ⟨w2, h9, happ, ow2, g9, hn9, hbk, hkeep⟩ := own_app68 Sd_ okSrc_rparts (h := k6.new (.cells [.string (strOf nm), .bool pr, .int .i64 d.fr, .int .i64 d.to, .slice a1 d.recs.length z1] true none))
          (ow6.grow (.new k6 _)) (gk6.more _) (b2 := k6.next) (o2 := 0) (n := 1) (c2 := 1) (new := [.string (strOf nm), .bool pr, .int .i64 d.fr, .int .i64 d.to, .slice a1 d.recs.length z1]) (by simp (maxSteps := 10000000) (disch := omega) only [vqA, tagOf, reduceIte, reduceCtorEq, reduceEqDiff, reduceAdd, reduceSub, reduceMul, reduceLT, reduceLeDiff, reduceToNat, Nat.reduceBEq, tqA]) (by omega) (by simp (maxSteps := 10000000) (disch := omega) only [vqA, tagOf, reduceIte, reduceCtorEq, reduceEqDiff, reduceAdd, reduceSub, reduceMul, reduceLT, reduceLeDiff, reduceToNat, Nat.reduceBEq, tqA]) (by rw [flat_len (fun p _ => partC_len p)]; simp; omega) (by decide)
        obtain ⟨a2, z2, c2', rfl, _⟩ := ow2.row.is
        have hn9 : h9.next = k6.next + 2 := hn9
        have hbk : blkOf (.slice a2 z2 c2') = some (k6.next + 1) := hbk
        have hkeep : ∀ c, c < k6.next → blkOf (.slice aw ps.length ps.length) ≠ some c → h9.get c = k6.get c := fun c hc hne => (hkeep c (Nat.lt_succ_of_lt hc) hne).trans (get_new_ne (by omega))
        have hlow : ∀ c, c < Q + 1 → h9.get c = k6.get c := fun c hc => hkeep c (by omega) fun e => by have := hbw c e; omega
        rw [n6', e6'] at happ
        have cq9 := (hlow Q (by omega)).trans ((k6g Q (by omega) (by omega)).trans cq5)
        simp (maxSteps := 10000000) (disch := omega) only [vqA, tagOf, reduceIte, reduceCtorEq, reduceEqDiff, reduceAdd, reduceSub, reduceMul, reduceLT, reduceLeDiff, reduceToNat, Nat.reduceBEq, tqA, r0, r2, r4, r5, r6, r7, r8, p5, cq5]
        rw [happ]
        simp (maxSteps := 10000000) (disch := omega) only [vqA, tagOf, reduceIte, reduceCtorEq, reduceEqDiff, reduceAdd, reduceSub, reduceMul, reduceLT, reduceLeDiff, reduceToNat, Nat.reduceBEq, tqA, r0, r2, r4, r5, r6, r7, r8, cq9]
        have hrec : d.recs.length ≤ 100000000 := Nat.le_trans (recs_fit q1).1 (by decide)
        have xk6 : Rdr h0.next k6 p _ := y5.keep (by omega) (fun c _ hcp hlt => k6g c (by omega) hlt) hp
        have S : ∀ c, c ≠ Q → ∀ o, (h9.set Q o).get c = h9.get c := fun c hc o => get_set_ne hc
        refine ⟨_, ?_, ps ++ [⟨nm, pr, d⟩], items ++ [(⟨nm, pr, d⟩, .slice a1 d.recs.length z1)], .slice a2 z2 c2', (bytesR (flagR (bytesR r).2).2).2, rfl, by rw [List.map_append, hit]; rfl, ?_, ?_, fun q hq => ?_, fun q hq => ?_, ?_, fun c hc => by rw [hbk] at hc; have := Option.some.inj hc; omega, by rw [List.length_append]; rfl, rfl, ?_, ?_, by omega⟩
        · omega
        · have := hR.step kn1 d false (.inl ⟨q1, q2, rfl⟩)
          rw [← enm, ← epr] at this
          exact this
        · rw [List.length_append, List.length_singleton]
          omega
        · rcases List.mem_append.1 hq with hq | hq
          · exact hpo q hq
          · rw [List.mem_singleton] at hq
            subst hq
            exact ⟨by show nm.length ≤ 100000000; rw [enm]; omega, hrec⟩
        · rcases List.mem_append.1 hq with hq | hq
          · refine DIn.keep (hib q hq) (by show h'.next ≤ h9.next; omega) (fun c ⟨q1, q2, q3⟩ => ?_) fun c ⟨q1, q2, q3⟩ => ⟨q1, by show c < h9.next; omega, by rw [hbk]; intro e; have := Option.some.inj e; omega⟩
            rw [S c (by omega), hkeep c (by omega) q3, dk6.get c q2 (by omega) (by omega)]
          · rw [List.mem_singleton] at hq
            subst hq
            refine DIn.keep (DNew.din hdn (by omega)) (by show k5.next ≤ h9.next; omega) (fun c ⟨q1, q2⟩ => ?_) fun c ⟨q1, q2⟩ => ⟨by omega, by show c < h9.next; omega, by rw [hbk]; intro e; have := Option.some.inj e; omega⟩
            rw [S c (by omega), hkeep c (by omega) (fun e => by have := (how.lt e).2; omega), k6g c (by omega) q2]
        · rw [List.flatMap_append]
          refine Own.keep ow2 (Nat.le_refl _) fun c hc => S c (fun e => ?_) _
          rw [hbk] at hc
          have := Option.some.inj hc
          omega
        · exact xk6.keep (by show k6.next ≤ h9.next; omega) (fun c _ hcp hlt => (S c (by omega) _).trans (hlow c (by omega))) hp
        · exact ⟨by show h0.next ≤ h9.next; omega, fun c hc => (S c (by omega) _).trans ((hlow c (by omega)).trans (gk6.get c hc))⟩
      · have hdc : difC ⟨0, 0, []⟩ (.slice none 0 0) = [.int .i64 0, .int .i64 0, .slice none 0 0] := rfl
        rw [hdc]
        simp (maxSteps := 10000000) (disch := omega) only [vqA, tagOf, reduceIte, reduceCtorEq, reduceEqDiff, reduceAdd, reduceSub, reduceMul, reduceLT, reduceLeDiff, reduceToNat, Nat.reduceBEq, tqA, r0, r2, r4, r5, r6, r7, r8, p5, cq5, mh5]
        have gD : ∀ x y, Grow k5 ((k5.new x).set k5.next y) := fun x y => (Grow.new k5 x).set (Nat.le_refl _) y
        exact nop _ _ (fun B hB hb => by have := (hR.step kn1 ⟨0, 0, []⟩ true (.inr q1) B hB hb).2.2.1; cases this) ((g0.trans gk5).trans (gD _ _))
    · obtain ⟨fl, hbad, hx⟩ : ∃ fl, h'.get p = some (.cells [.slice ab (lf r - 1) zb, .bool fl] true none) ∧ (n ≤ ps.length ∨ (ps.length : Int) < n ∧ fl = true) := by
        refine ⟨_, hbad, ?_⟩
        cases r with
        | none => by_cases q : n ≤ ps.length; exact .inl q; exact .inr ⟨by omega, rfl⟩
        | some l => exact .inl (by have : ¬ ((ps.length : Int) < n) := fun q => hc ⟨q, rfl⟩; omega)
      have hstop := hR.stop (by
        cases r with
        | none => exact .inr (.inl rfl)
        | some l => exact .inl (by have : ¬ ((ps.length : Int) < n) := fun q => hc ⟨q, rfl⟩; omega))
      have hvr : BRow h0 (.slice av b.length cv) b := hv.grow g0
      rcases hx with c1 | ⟨c1, rfl⟩ <;> (
        simp (maxSteps := 10000000) (disch := omega) only [vqA, tagOf, reduceIte, reduceCtorEq, reduceEqDiff, reduceAdd, reduceSub, reduceMul, reduceLT, reduceLeDiff, reduceToNat, Nat.reduceBEq, tqA, r0, r2, r4, r5, r6, r7, r8, hbad]
        refine (qbytes_ok _ p r h' xr).mono ?_
        rintro u1 k1 ⟨y1, d1, hw1, _⟩
        have e1 := d1.next
        simp (maxSteps := 10000000) (disch := omega) only [vqA, tagOf, reduceIte, reduceCtorEq, reduceEqDiff, reduceAdd, reduceSub, reduceMul, reduceLT, reduceLeDiff, reduceToNat, Nat.reduceBEq, tqA, r0, r2, r4, r5, r6, r7, r8]
        refine (refTake_ok u1 _ k1 hw1 (by omega)).mono ?_
        rintro u k2 ⟨g2, a, e, rfl, hq⟩
        have e2 := g2.next
        have d2 : But p p h' k2 := d1.trans (.of g2)
        have cq2 := (d2.get Q hnx (by omega) (by omega)).trans cq
        have gk2 : Grow h0 k2 := gr.but d2 hp
        have mh2 := (gk2.get h.next (by omega)).trans m0
        have y2 := y1.grow g2 hp
        rcases hq with ⟨d, w1, q1, q2, rfl, rfl, hdn⟩ | ⟨q1, rfl, rfl⟩
        · obtain ⟨a1, z1, rfl⟩ := hdn.row.is
          have hdc : difC d (.slice a1 d.recs.length z1) = [.int .i64 d.fr, .int .i64 d.to, .slice a1 d.recs.length z1] := rfl
          rw [hdc]
          have key : ∀ B, goodBun B = true → putBun B = b → B = ⟨obj, ps, d⟩ ∧ (bytesR r).2 = some [66] := fun B hB hb => by
            obtain ⟨t1, t2, t3, t4, t5⟩ := hstop B hB hb
            rw [t4] at q2 ⊢
            exact ⟨bun_ext t1 t2 (putD_inj q1 t5 q2), rfl⟩
          obtain ⟨k3, ek3⟩ : ∃ y, y = ((k2.new (.cells [.int .i64 0, .int .i64 0, .slice none 0 0] true none)).set k2.next (.cells [.int .i64 d.fr, .int .i64 d.to, .slice a1 d.recs.length z1] true none)).set Q (.cells [.int .i64 obj, .slice aw ps.length ps.length, .int .i64 d.fr, .int .i64 d.to, .slice a1 d.recs.length z1] true none) := ⟨_, rfl⟩
          have n3 : k3.next = k2.next + 1 := by rw [ek3]; rfl
          have k3g : ∀ c, c ≠ Q → c < k2.next → k3.get c = k2.get c := fun c hc hlt => by rw [ek3, get_set_ne hc, get_set_ne (by omega), get_new_ne (by omega)]
          have cq3 : k3.get Q = some (.cells [.int .i64 obj, .slice aw ps.length ps.length, .int .i64 d.fr, .int .i64 d.to, .slice a1 d.recs.length z1] true none) := by rw [ek3, get_set_same]
          have y3 : Rdr h0.next k3 p (bytesR r).2 := y2.keep (by omega) (fun c _ hcp hlt => k3g c (by omega) hlt) hp
          have gk3 : Grow h0 k3 := ⟨by omega, fun c hc => (k3g c (by omega) (by omega)).trans (gk2.get c hc)⟩
          have mh3 := (k3g h.next (by omega) (by omega)).trans mh2
          cases hTT : T with
          | false =>
            rw [hTT] at eT
            have hT2 := eT.symm
            simp (maxSteps := 10000000) (disch := omega) only [vqA, tagOf, reduceIte, reduceCtorEq, reduceEqDiff, reduceAdd, reduceSub, reduceMul, reduceLT, reduceLeDiff, reduceToNat, Nat.reduceBEq, tqA, r0, r2, r4, r5, r6, r7, r8, cq2, hT2, mh2, h_cv, d_cv, s_cv, n_cv]
            rw [← ek3]
            refine nop _ _ (fun B hB hb => ?_) (g0.trans gk3)
            have := hT B hB hb
            rw [this] at eT
            exact absurd eT (by decide)
          | true =>
            rw [hTT] at eT
            have hT2 := eT.symm
            simp (maxSteps := 10000000) (disch := omega) only [vqA, tagOf, reduceIte, reduceCtorEq, reduceEqDiff, reduceAdd, reduceSub, reduceMul, reduceLT, reduceLeDiff, reduceToNat, Nat.reduceBEq, tqA, r0, r2, r4, r5, r6, r7, r8, cq2, hT2, h_cv, d_cv, s_cv, n_cv]
            rw [← ek3]
            refine (qbyte_ok _ p _ k3 y3).mono ?_
            rintro u k4 ⟨y4, d4, rfl⟩
            have e4 := d4.next
            have K : ∀ c, Q + 1 ≤ c → c < h'.next → k4.get c = h'.get c := fun c q1 q2 => by rw [d4.get c (by omega) (by omega) (by omega), k3g c (by omega) (by omega), d2.get c q2 (by omega) (by omega)]
            have cq4 := (d4.get Q (by omega) (by omega) (by omega)).trans cq3
            have gk4 : Grow h0 k4 := gk3.but d4 hp
            have mh4 := (gk4.get h.next (by omega)).trans m0
            have rows : RowV k4 5 (.slice aw ps.length ps.length) (items.flatMap partC) := RowV.keep how.row (by omega) fun c hc hlt => K c (hbw c hc) hlt
            have its : ∀ q ∈ items, DIn (fun c => Q + 1 ≤ c ∧ c < h'.next) k4 q.2 q.1.diff.recs := fun q hq => DIn.keep (hib q hq) (by omega) (fun c ⟨q1, q2, q3⟩ => K c q1 q2) fun c ⟨q1, q2, q3⟩ => ⟨q1, q2⟩
            have lastn : DNew k1.next k4 (.slice a1 d.recs.length z1) d.recs := DNew.keep hdn (by omega) fun c q1 q2 => by rw [d4.get c (by omega) (by omega) (by omega), k3g c (by omega) q2]
            have prow : PRow k4 (.slice aw ps.length ps.length) ps := prow_of hit rows fun q hq => (its q hq).row
            have hrec : d.recs.length ≤ 100000000 := Nat.le_trans (recs_fit q1).1 (by decide)
            have hbc : bunC ⟨obj, ps, d⟩ (.slice aw ps.length ps.length) (.slice a1 d.recs.length z1) = [.int .i64 obj, .slice aw ps.length ps.length, .int .i64 d.fr, .int .i64 d.to, .slice a1 d.recs.length z1] := rfl
            obtain ⟨ab1, cb1, hbad1⟩ := y4.bad
            by_cases c66 : (byteR (bytesR r).2).1 = 66
            · have ec : (((byteR (bytesR r).2).1.toNat : Nat) : Int) = 66 := by rw [c66]; rfl
              cases hE : (byteR (bytesR r).2).2 with
              | none =>
                rw [hE, show (none : Rd).isNone = true from rfl] at hbad1
                simp (maxSteps := 10000000) (disch := omega) only [vqA, tagOf, reduceIte, reduceCtorEq, reduceEqDiff, reduceAdd, reduceSub, reduceMul, reduceLT, reduceLeDiff, reduceToNat, Nat.reduceBEq, tqA, r0, r2, r4, r5, r6, r7, r8, cq4, hbad1, ec, mh4, h_cv, d_cv, s_cv, n_cv]
                exact nop _ _ (fun B hB hb => by have := (key B hB hb).2; rw [this] at hE; cases hE) (g0.trans gk4)
              | some l =>
                rw [hE, show (some l : Rd).isNone = false from rfl, show lf (some l) - 1 = l.length from rfl] at hbad1
                cases l with
                | cons c l =>
                  have hpos : 0 < (c :: l).length := by simp
                  generalize (c :: l).length = L at hbad1 hpos
                  simp (maxSteps := 10000000) (disch := omega) only [vqA, tagOf, reduceIte, reduceCtorEq, reduceEqDiff, reduceAdd, reduceSub, reduceMul, reduceLT, reduceLeDiff, reduceToNat, Nat.reduceBEq, tqA, r0, r2, r4, r5, r6, r7, r8, cq4, hbad1, ec, mh4, h_cv, d_cv, s_cv, n_cv]
                  exact nop _ _ (fun B hB hb => by have := (key B hB hb).2; rw [this] at hE; cases hE) (g0.trans gk4)
                | nil =>
                  rw [List.length_nil] at hbad1
                  have go := fun Q => (refBunGood_ok ⟨obj, ps, d⟩ _ _ k4 prow lastn.row (by show ps.length ≤ 100000000; omega) hpo hrec).mono (Q' := Q)
                  rw [hbc] at go
                  simp (maxSteps := 10000000) (disch := omega) only [vqA, tagOf, reduceIte, reduceCtorEq, reduceEqDiff, reduceAdd, reduceSub, reduceMul, reduceLT, reduceLeDiff, reduceToNat, Nat.reduceBEq, tqA, r0, r2, r4, r5, r6, r7, r8, cq4, hbad1, ec, h_cv, d_cv, s_cv, n_cv]
                  refine go _ ?_
                  rintro u k5 ⟨g5, rfl⟩
                  have e5 := g5.next
                  have gk5 := gk4.trans g5
                  have cq5 := (g5.get Q (by omega)).trans cq4
                  have mh5 := (gk5.get h.next (by omega)).trans m0
                  cases hg : goodBun ⟨obj, ps, d⟩ with
                  | false =>
                    simp (maxSteps := 10000000) (disch := omega) only [vqA, tagOf, reduceIte, reduceCtorEq, reduceEqDiff, reduceAdd, reduceSub, reduceMul, reduceLT, reduceLeDiff, reduceToNat, Nat.reduceBEq, tqA, r0, r2, r4, r5, r6, r7, r8, cq4, cq5, mh5, hbad1, h_cv, d_cv, s_cv, n_cv]
                    exact nop _ _ (fun B hB hb => by rw [(key B hB hb).1, hg] at hB; cases hB) (g0.trans gk5)
                  | true =>
                    have pu := fun Q => (refBunPut_ok ⟨obj, ps, d⟩ _ _ k5 (prow.grow g5) (lastn.row.grow g5) hg).mono (Q' := Q)
                    rw [hbc] at pu
                    simp (maxSteps := 10000000) (disch := omega) only [vqA, tagOf, reduceIte, reduceCtorEq, reduceEqDiff, reduceAdd, reduceSub, reduceMul, reduceLT, reduceLeDiff, reduceToNat, Nat.reduceBEq, tqA, r0, r2, r4, r5, r6, r7, r8, cq4, cq5, hbad1, h_cv, d_cv, s_cv, n_cv]
                    refine pu _ ?_
                    rintro u k6 ⟨g6, hpr⟩
                    have gk6 := gk5.trans g6
                    have cq6 := (g6.get Q (by omega)).trans cq5
                    have mh6 := (gk6.get h.next (by omega)).trans m0
                    have cu := r_cv hpr
                    have cv2 := r_cv (hvr.grow gk5)
                    have cv3 := r_cv (hvr.grow gk6)
                    obtain ⟨au, cu', eu⟩ := hpr.is
                    rw [eu] at cu ⊢
                    by_cases hpb : putBun ⟨obj, ps, d⟩ = b
                    · have hq := beq_iff_eq.2 hpb
                      simp (maxSteps := 10000000) (disch := omega) only [vqA, tagOf, reduceIte, reduceCtorEq, reduceEqDiff, reduceAdd, reduceSub, reduceMul, reduceLT, reduceLeDiff, reduceToNat, Nat.reduceBEq, tqA, r0, r2, r4, r5, r6, r7, r8, cq4, cq5, cq6, mh6, hbad1, cu, cv2, cv3, hq, h_cv, d_cv, s_cv, n_cv]
                      have g46 := g5.trans g6
                      have its6 : ∀ q ∈ items, DNew h0.next k6 q.2 q.1.diff.recs := fun q hq => (DIn.keep (Q := fun c => Q + 1 ≤ c ∧ c < h'.next) (its q hq) g46.next (fun c ⟨q1, q2⟩ => g46.get c (by omega)) fun c q => q).new fun c q => by omega
                      refine ⟨(g0.trans gk6).set (Nat.le_refl _) _, _, _, rfl, .inl ⟨⟨obj, ps, d⟩, _, _, hg, hpb, by rw [hbc], rfl, ⟨items, hit, ?_, fun c hc => by have := hbw c hc; omega, fun q hq => DNew.le (DNew.set (its6 q hq) (c := h.next) (by omega) _) (by omega)⟩, DNew.le (DNew.keep lastn (by show k4.next ≤ k6.next; exact g46.next) fun c q1 q2 => by rw [get_set_ne (by omega), g46.get c q2]) (by omega)⟩⟩
                      exact RowV.keep rows (by show k4.next ≤ k6.next; exact g46.next) fun c hc hlt => by rw [get_set_ne (by have := hbw c hc; omega), g46.get c hlt]
                    · have hq := beq_eq_false_iff_ne.2 hpb
                      simp (maxSteps := 10000000) (disch := omega) only [vqA, tagOf, reduceIte, reduceCtorEq, reduceEqDiff, reduceAdd, reduceSub, reduceMul, reduceLT, reduceLeDiff, reduceToNat, Nat.reduceBEq, tqA, r0, r2, r4, r5, r6, r7, r8, cq4, cq5, cq6, mh6, hbad1, cu, cv2, cv3, hq, h_cv, d_cv, s_cv, n_cv]
                      exact nop _ _ (fun B hB hb => hpb (by rw [← (key B hB hb).1]; exact hb)) (g0.trans gk6)
            · have ec : ¬ (((byteR (bytesR r).2).1.toNat : Nat) : Int) = 66 := fun q => c66 (UInt8.toNat_inj.1 (by rw [show (66 : UInt8).toNat = 66 from rfl]; omega))
              simp (maxSteps := 10000000) (disch := omega) only [vqA, tagOf, reduceIte, reduceCtorEq, reduceEqDiff, reduceAdd, reduceSub, reduceMul, reduceLT, reduceLeDiff, reduceToNat, Nat.reduceBEq, tqA, r0, r2, r4, r5, r6, r7, r8, cq4, ec, mh4, h_cv, d_cv, s_cv, n_cv]
              exact nop _ _ (fun B hB hb => c66 (by rw [(key B hB hb).2]; rfl)) (g0.trans gk4)
        · have hdc : difC ⟨0, 0, []⟩ (.slice none 0 0) = [.int .i64 0, .int .i64 0, .slice none 0 0] := rfl
          rw [hdc]
          simp (maxSteps := 10000000) (disch := omega) only [vqA, tagOf, reduceIte, reduceCtorEq, reduceEqDiff, reduceAdd, reduceSub, reduceMul, reduceLT, reduceLeDiff, reduceToNat, Nat.reduceBEq, tqA, r0, r2, r4, r5, r6, r7, r8, cq2, mh2, h_cv, d_cv, s_cv, n_cv]
          refine nop _ _ (fun B hB hb => ?_) ?_
          · obtain ⟨t1, t2, t3, t4, t5⟩ := hstop B hB hb
            rw [t4] at q1
            exact absurd rfl (q1 _ t5)
          · exact (g0.trans ((gk2.more _).set (by omega) _)).set (by omega) _)
  · exact ⟨[], [], .slice none 0 0, r6, rfl, rfl, hR, by simp only [List.length_nil]; omega, (fun _ h => nomatch h), (fun _ h => nomatch h), .nil _ _ _ _, (fun c hc => by cases hc), by simp (maxSteps := 10000000) (disch := omega) only [vqA, tagOf, reduceIte, reduceCtorEq, reduceEqDiff, reduceAdd, reduceSub, reduceMul, reduceLT, reduceLeDiff, reduceToNat, Nat.reduceBEq, tqA], by simp (maxSteps := 10000000) (disch := omega) only [vqA, tagOf, reduceIte, reduceCtorEq, reduceEqDiff, reduceAdd, reduceSub, reduceMul, reduceLT, reduceLeDiff, reduceToNat, Nat.reduceBEq, tqA], by simp (maxSteps := 10000000) (disch := omega) only [vqA, tagOf, reduceIte, reduceCtorEq, reduceEqDiff, reduceAdd, reduceSub, reduceMul, reduceLT, reduceLeDiff, reduceToNat, Nat.reduceBEq, tqA], by simp (maxSteps := 10000000) (disch := omega) only [vqA, tagOf, reduceIte, reduceCtorEq, reduceEqDiff, reduceAdd, reduceSub, reduceMul, reduceLT, reduceLeDiff, reduceToNat, Nat.reduceBEq, tqA], by simp (maxSteps := 10000000) (disch := omega) only [vqA, tagOf, reduceIte, reduceCtorEq, reduceEqDiff, reduceAdd, reduceSub, reduceMul, reduceLT, reduceLeDiff, reduceToNat, Nat.reduceBEq, tqA], by simp (maxSteps := 10000000) (disch := omega) only [vqA, tagOf, reduceIte, reduceCtorEq, reduceEqDiff, reduceAdd, reduceSub, reduceMul, reduceLT, reduceLeDiff, reduceToNat, Nat.reduceBEq, tqA], by simp (maxSteps := 10000000) (disch := omega) only [vqA, tagOf, reduceIte, reduceCtorEq, reduceEqDiff, reduceAdd, reduceSub, reduceMul, reduceLT, reduceLeDiff, reduceToNat, Nat.reduceBEq, tqA]; rfl, q6, x6, g6, by omega⟩
end Go.Proofs.Ytdmakachnphddaa.C
