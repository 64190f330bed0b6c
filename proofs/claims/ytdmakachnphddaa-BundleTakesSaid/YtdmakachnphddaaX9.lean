/- X9: the bundle of a stream, as the program takes it. -/
import Derived.Test.YtdmakachnphddaaX8
import Derived.Test.YtdmakachnphddaaVgI
open Nat (reduceEqDiff reduceAdd reduceSub reduceMul reduceLT reduceLeDiff)
open Int (reduceToNat)
open Go Go.Vi Go.Bm
namespace Go.Proofs.Ytdmakachnphddaa.C
set_option linter.unusedSimpArgs false
set_option maxRecDepth 100000
set_option maxHeartbeats 40000000
theorem okSrc_parts : okSrc E (some Tu_) = some true := by kernel_rfl
theorem prow_of {h : Heap} {w : Value} {items : List (Part × Value)} {ps : List Part} (hi : items.map (·.1) = ps) (hr : RowV h 5 w (items.flatMap partC)) (hd : ∀ p ∈ items, DRow h p.2 p.1.diff.recs) : PRow h w ps := ⟨items, hi, hr, hd⟩
def TakeB (b : List UInt8) (base : Nat) (h' : Heap) (x y : Value) (ok bad : Value) : Prop :=
  (∃ B v w, goodBun B = true ∧ putBun B = b ∧ x = .agg ⟨bunC B v w⟩ ∧ y = ok ∧ PNew base h' v B.parts ∧ DNew base h' w B.last.recs) ∨ ((∀ B, goodBun B = true → putBun B ≠ b) ∧ x = .agg ⟨bunC ⟨0, [], ⟨0, 0, []⟩⟩ (.slice none 0 0) (.slice none 0 0)⟩ ∧ y = bad)
theorem bunTake_ok (v : Value) (b : List UInt8) (h : Heap) (hv : BRow h v b) (hl : b.length ≤ 80000000) :
    Ret E FP_ [v] h (fun u h' => Grow h h' ∧ ∃ x y, u = .tuple ⟨[x, y]⟩ ∧ TakeB b h.next h' x y .nilIface (.iface TA_ (.int .i64 2))) := by
  refine ret_fun Ih_ (by simp) ?_
  unfold GT_
  obtain ⟨hT, hR⟩ := Rdb.start (b := b)
  obtain ⟨T, eT⟩ : ∃ T, T = ((bytesR (some b)).1 == [108, 97, 109, 105, 110, 97, 32, 98, 117, 110, 100, 108, 101, 32, 49]) := ⟨_, rfl⟩
  have lf1 := bytesR_lf (some b)
  have lf2 := numR_lf (bytesR (some b)).2
  have lf3 := numR_lf (numR (bytesR (some b)).2).2
  have hlb : lf (some b) = b.length + 1 := rfl
  obtain ⟨h0, e0⟩ : ∃ y, y = h.new (.cells [.int .i64 0, .slice none 0 0, .int .i64 0, .int .i64 0, .slice none 0 0] true none) := ⟨_, rfl⟩
  have g0 : Grow h h0 := by rw [e0]; exact .new h _
  have n0 : h0.next = h.next + 1 := by rw [e0]; rfl
  have m0 : h0.get h.next = some (.cells [.int .i64 0, .slice none 0 0, .int .i64 0, .int .i64 0, .slice none 0 0] true none) := by rw [e0, get_new_same]
  obtain ⟨av, cv, rfl⟩ := hv.is
  simp (maxSteps := 10000000) (disch := omega) only [vqA, tagOf, reduceIte, reduceCtorEq, reduceEqDiff, reduceAdd, reduceSub, reduceMul, reduceLT, reduceLeDiff, reduceToNat, Nat.reduceBEq, tqA]
  rw [← e0]
  refine (new_ok _ b h0 (hv.grow g0) (by omega)).mono ?_
  rintro u hN ⟨gN, p, hp, rfl, xN⟩
  have hpN := xN.lt
  obtain ⟨h1, e1⟩ : ∃ y, y = (hN.new (.cells [.pointer none] true none)).set hN.next (.cells [.pointer (some ⟨p, 0, none⟩)] true none) := ⟨_, rfl⟩
  have g1N : Grow hN h1 := by rw [e1]; exact (Grow.new hN _).set (Nat.le_refl _) _
  have n1N : h1.next = hN.next + 1 := by rw [e1]; rfl
  have c1 : h1.get hN.next = some (.cells [.pointer (some ⟨p, 0, none⟩)] true none) := by rw [e1, get_set_same]
  have x1 := xN.grow g1N hp
  have g1 := gN.trans g1N
  obtain ⟨C, eC⟩ : ∃ C, C = hN.next := ⟨_, rfl⟩
  rw [← eC] at c1 hpN n1N
  simp (maxSteps := 10000000) (disch := omega) only [vqA, tagOf, reduceIte, reduceCtorEq, reduceEqDiff, reduceAdd, reduceSub, reduceMul, reduceLT, reduceLeDiff, reduceToNat, Nat.reduceBEq, tqA]
  rw [← e1, ← eC]
  refine (rtext_ok _ p _ h1 x1).mono ?_
  rintro u h2 ⟨x2, b2, rfl⟩
  have n2 := b2.next
  have c2 := (b2.get C (by omega) (by omega) (by omega)).trans c1
  simp (maxSteps := 10000000) (disch := omega) only [vqA, tagOf, reduceIte, reduceCtorEq, reduceEqDiff, reduceAdd, reduceSub, reduceMul, reduceLT, reduceLeDiff, reduceToNat, Nat.reduceBEq, tqA, c2]
  rw [← eT]
  refine (rnum_ok _ p _ h2 x2).mono ?_
  rintro u h3 ⟨x3, b3, rfl⟩
  have n3 := b3.next
  have c3 := (b3.get C (by omega) (by omega) (by omega)).trans c2
  have g3 : Grow h0 h3 := g1.but (b2.trans b3) hp
  generalize (numR (bytesR (some b)).2).1 = obj at hR ⊢
  obtain ⟨h5, e5⟩ : ∃ y, y = ((((h3.new (.cells [.int .i64 0, .slice none 0 0, .int .i64 0, .int .i64 0, .slice none 0 0] true none)).set h3.next (.cells [.int .i64 obj, .slice none 0 0, .int .i64 0, .int .i64 0, .slice none 0 0] true none)).new (.cells [.bool false] true none)).set (h3.next + 1) (.cells [.bool false] true none)) := ⟨_, rfl⟩
  have g5 : Grow h3 h5 := by rw [e5]; exact (((Grow.new h3 _).set (Nat.le_refl _) _).more _).set (Nat.le_succ _) _
  have n5 : h5.next = h3.next + 2 := by rw [e5]; rfl
  have q5 : h5.get h3.next = some (.cells [.int .i64 obj, .slice none 0 0, .int .i64 0, .int .i64 0, .slice none 0 0] true none) := by rw [e5, get_set_ne (by omega), get_new_ne (by show h3.next ≠ h3.next + 1; omega), get_set_same]
  have d5 : h5.get (h3.next + 1) = some (.cells [.bool false] true none) := by rw [e5, get_set_same]
  have c5 := (g5.get C (by omega)).trans c3
  simp (maxSteps := 10000000) (disch := omega) only [vqA, tagOf, reduceIte, reduceCtorEq, reduceEqDiff, reduceAdd, reduceSub, reduceMul, reduceLT, reduceLeDiff, reduceToNat, Nat.reduceBEq, tqA, c3]
  rw [← e5]
  refine (rnum_ok _ p _ h5 (x3.grow g5 hp)).mono ?_
  rintro u h6 ⟨x6, b6, rfl⟩
  have n6 := b6.next
  have c6 := (b6.get C (by omega) (by omega) (by omega)).trans c5
  have q6 := (b6.get h3.next (by omega) (by omega) (by omega)).trans q5
  have d6 := (b6.get (h3.next + 1) (by omega) (by omega) (by omega)).trans d5
  have g6 : Grow h0 h6 := (g3.trans g5).but b6 hp
  generalize (numR (numR (bytesR (some b)).2).2).1 = n at hR ⊢
  generalize hr6 : (numR (numR (bytesR (some b)).2).2).2 = r6 at hR x6 lf3
  obtain ⟨Q, eQ⟩ : ∃ Q, Q = h3.next := ⟨_, rfl⟩
  rw [← eQ] at q6 d6
  simp (maxSteps := 10000000) (disch := omega) only [vqA, tagOf, reduceIte, reduceCtorEq, reduceEqDiff, reduceAdd, reduceSub, reduceMul, reduceLT, reduceLeDiff, reduceToNat, Nat.reduceBEq, tqA]
  rw [← eQ]
  have lQ : C < Q ∧ Q + 1 < h6.next := by omega
  have hp6 := x6.lt
  refine r_loop (k := lf r6) (fun k ρ h' => ∃ (ps : List Part) (items : List (Part × Value)) (w : Value) (r : Rd) (bad : Bool), lf r = k ∧ items.map (·.1) = ps ∧ Rdb b obj n ps r bad ∧ ps.length + lf r ≤ b.length + 1 ∧ (∀ q ∈ ps, PartOk q) ∧
    (∀ q ∈ items, DIn (fun c => Q + 2 ≤ c ∧ c < h'.next ∧ blkOf w ≠ some c) h' q.2 q.1.diff.recs) ∧ Own h0 h' 5 Tt_ w (items.flatMap partC) ∧ (∀ c, blkOf w = some c → Q + 2 ≤ c) ∧
    ρ 0 = .slice av b.length cv ∧ ρ 2 = .pointer (some ⟨h.next, 0, none⟩) ∧ ρ 4 = .pointer (some ⟨C, 0, none⟩) ∧ ρ 5 = .bool T ∧ ρ 6 = .pointer (some ⟨Q, 0, none⟩) ∧ ρ 7 = .pointer (some ⟨Q + 1, 0, none⟩) ∧ ρ 8 = .func (.func FA_) #[] #[.pointer (some ⟨C, 0, none⟩), .pointer (some ⟨Q + 1, 0, none⟩)] ∧ ρ 9 = .int .i64 n ∧
    h'.get C = some (.cells [.pointer (some ⟨p, 0, none⟩)] true none) ∧ h'.get Q = some (.cells [.int .i64 obj, w, .int .i64 0, .int .i64 0, .slice none 0 0] true none) ∧ h'.get (Q + 1) = some (.cells [.bool bad] true none) ∧ Rdr h0.next h' p r ∧ Grow h0 h' ∧ Q + 1 < h'.next) ?_ ?_
  · rintro k ρ h' ⟨ps, items, w, r, bad, hk, hit, hR, hlen, hpo, hib, how, hbw, r0, r2, r4, r5, r6, r7, r8, r9, cc, cq, cb, xr, gr, hnx⟩
    unfold Go_
    have hil : items.length = ps.length := by rw [← hit, List.length_map]
    obtain ⟨aw, hew⟩ : ∃ a, w = .slice a ps.length ps.length := by
      rcases how with ⟨rfl, e⟩ | ⟨b9, n9, rfl, hn9, hz9, _⟩
      · have : items.length = 0 := by
          have := congrArg List.length e
          rw [flat_len (fun p _ => partC_len p), List.length_nil] at this
          omega
        exact ⟨none, by rw [show ps.length = 0 by omega]⟩
      · rw [flat_len (fun p _ => partC_len p)] at hz9
        exact ⟨_, by rw [show ps.length = n9 by omega]⟩
    subst hew
    have hleft := left_ok _ p r h' xr
    rw [lf_left] at hleft
    have hxp := xr.lt
    by_cases hc : (ps.length : Int) < n ∧ 0 < lf r - 1 ∧ bad = false
    · obtain ⟨kn1, kn2, rfl⟩ := hc
      simp (maxSteps := 10000000) (disch := omega) only [vqA, tagOf, reduceIte, reduceCtorEq, reduceEqDiff, reduceAdd, reduceSub, reduceMul, reduceLT, reduceLeDiff, reduceToNat, Nat.reduceBEq, tqA, r0, r2, r4, r5, r6, r7, r8, r9, cc, cq, cb, hleft]
      have hnl := bytesR_len r
      have hfl := flagR_lf (bytesR r).2
      have hml := bytesR_len (flagR (bytesR r).2).2
      refine (rtext_ok _ p r h' xr).mono ?_
      rintro u k1 ⟨y1, d1, rfl⟩
      have e1 := d1.next
      have cc1 := (d1.get C (by omega) (by omega) (by omega)).trans cc
      simp (maxSteps := 10000000) (disch := omega) only [vqA, tagOf, reduceIte, reduceCtorEq, reduceEqDiff, reduceAdd, reduceSub, reduceMul, reduceLT, reduceLeDiff, reduceToNat, Nat.reduceBEq, tqA, r0, r2, r4, r5, r6, r7, r8, r9, cc, cc1]
      refine (rflag_ok _ p _ k1 y1).mono ?_
      rintro u k2 ⟨y2, d2, rfl⟩
      have e2 := d2.next
      have cc2 := (d2.get C (by omega) (by omega) (by omega)).trans cc1
      obtain ⟨nm, enm⟩ : ∃ nm, nm = (bytesR r).1 := ⟨_, rfl⟩
      obtain ⟨pr, epr⟩ : ∃ pr, pr = (flagR (bytesR r).2).1 := ⟨_, rfl⟩
      rw [← enm, ← epr]
      have dk2 : But p (Q + 1) h' k2 := ⟨by omega, fun c q1 q2 q3 => (d2.get c (by omega) q2 q2).trans (d1.get c q1 q2 q2)⟩
      obtain ⟨kP, eP⟩ : ∃ y, y = (k2.new (.cells [.string (strOf []), .bool false, .int .i64 0, .int .i64 0, .slice none 0 0] true none)).set k2.next (.cells [.string (strOf nm), .bool pr, .int .i64 0, .int .i64 0, .slice none 0 0] true none) := ⟨_, rfl⟩
      have gP : Grow k2 kP := by rw [eP]; exact (Grow.new k2 _).set (Nat.le_refl _) _
      have nP : kP.next = k2.next + 1 := by rw [eP]; rfl
      have pP : kP.get k2.next = some (.cells [.string (strOf nm), .bool pr, .int .i64 0, .int .i64 0, .slice none 0 0] true none) := by rw [eP, get_set_same]
      have dkP : But p (Q + 1) h' kP := dk2.trans (.of gP)
      have ccP := (gP.get C (by omega)).trans cc2
      have cbP := (gP.get (Q + 1) (by omega)).trans ((d2.get _ (by omega) (by omega) (by omega)).trans ((d1.get _ (by omega) (by omega) (by omega)).trans cb))
      simp (maxSteps := 10000000) (disch := omega) only [vqA, tagOf, reduceIte, reduceCtorEq, reduceEqDiff, reduceAdd, reduceSub, reduceMul, reduceLT, reduceLeDiff, reduceToNat, Nat.reduceBEq, tqA, r0, r2, r4, r5, r6, r7, r8, r9, cc, cc1, cc2]
      rw [← eP]
      refine (take1_ok _ p C (Q + 1) _ false kP (y2.grow gP hp) hp ccP cbP ⟨by omega, by omega⟩ ⟨by omega, by omega⟩ (by omega) (by omega)).mono ?_
      rintro u k4 ⟨y4, d4, d, w1, bad', rfl, hdn, cb4, hor⟩
      have e4 := d4.next
      have dk4 : But p (Q + 1) h' k4 := dkP.trans d4
      have p4 := (d4.get k2.next (by omega) (by omega) (by omega)).trans pP
      have cc4 := (dk4.get C (by omega) (by omega) (by omega)).trans cc
      have cq4 := (dk4.get Q (by omega) (by omega) (by omega)).trans cq
      obtain ⟨a1, z1, rfl⟩ := hdn.row.is
      have hdc : difC d (.slice a1 d.recs.length z1) = [.int .i64 d.fr, .int .i64 d.to, .slice a1 d.recs.length z1] := rfl
      rw [hdc]
      obtain ⟨k5, e5'⟩ : ∃ y, y = k4.set k2.next (.cells [.string (strOf nm), .bool pr, .int .i64 d.fr, .int .i64 d.to, .slice a1 d.recs.length z1] true none) := ⟨_, rfl⟩
      have n5' : k5.next = k4.next := by rw [e5']; rfl
      have k5g : ∀ c, c ≠ k2.next → k5.get c = k4.get c := fun c hc => by rw [e5', get_set_ne hc]
      have dk5 : But p (Q + 1) h' k5 := ⟨by omega, fun c q1 q2 q3 => (k5g c (by omega)).trans (dk4.get c q1 q2 q3)⟩
      have gk5 : Grow h0 k5 := ⟨by omega, fun c hc => (dk5.get c (by omega) (by omega) (by omega)).trans (gr.get c hc)⟩
      have ow5 : Own h0 k5 5 Tt_ (.slice aw ps.length ps.length) (items.flatMap partC) := how.keep (by omega) fun c hc => dk5.get c (how.lt hc).2 (by have := hbw c hc; omega) (by have := hbw c hc; omega)
      obtain ⟨w2, h9, happ, ow2, g9, hn9, hbk, hkeep⟩ := own_app68 Sf_ okSrc_parts (h := k5.new (.cells [.string (strOf nm), .bool pr, .int .i64 d.fr, .int .i64 d.to, .slice a1 d.recs.length z1] true none))
        (ow5.grow (.new k5 _)) (gk5.more _) (b2 := k5.next) (o2 := 0) (n := 1) (c2 := 1) (new := [.string (strOf nm), .bool pr, .int .i64 d.fr, .int .i64 d.to, .slice a1 d.recs.length z1]) (by simp (maxSteps := 10000000) (disch := omega) only [vqA, tagOf, reduceIte, reduceCtorEq, reduceEqDiff, reduceAdd, reduceSub, reduceMul, reduceLT, reduceLeDiff, reduceToNat, Nat.reduceBEq, tqA]) (by omega) (by simp (maxSteps := 10000000) (disch := omega) only [vqA, tagOf, reduceIte, reduceCtorEq, reduceEqDiff, reduceAdd, reduceSub, reduceMul, reduceLT, reduceLeDiff, reduceToNat, Nat.reduceBEq, tqA]) (by rw [flat_len (fun p _ => partC_len p)]; simp; omega) (by decide)
      obtain ⟨a2, z2, c2', rfl, _⟩ := ow2.row.is
      have hn9 : h9.next = k5.next + 2 := hn9
      have hbk : blkOf (.slice a2 z2 c2') = some (k5.next + 1) := hbk
      have hkeep : ∀ c, c < k5.next → blkOf (.slice aw ps.length ps.length) ≠ some c → h9.get c = k5.get c := fun c hc hne => (hkeep c (Nat.lt_succ_of_lt hc) hne).trans (get_new_ne (by omega))
      have hlow : ∀ c, c < Q + 2 → h9.get c = k5.get c := fun c hc => hkeep c (by omega) fun e => by have := hbw c e; omega
      rw [n5', e5'] at happ
      have cq9 := (hlow Q (by omega)).trans ((k5g Q (by omega)).trans cq4)
      simp (maxSteps := 10000000) (disch := omega) only [vqA, tagOf, reduceIte, reduceCtorEq, reduceEqDiff, reduceAdd, reduceSub, reduceMul, reduceLT, reduceLeDiff, reduceToNat, Nat.reduceBEq, tqA, r0, r2, r4, r5, r6, r7, r8, r9, p4, cq4]
      rw [happ]
      simp (maxSteps := 10000000) (disch := omega) only [vqA, tagOf, reduceIte, reduceCtorEq, reduceEqDiff, reduceAdd, reduceSub, reduceMul, reduceLT, reduceLeDiff, reduceToNat, Nat.reduceBEq, tqA, r0, r2, r4, r5, r6, r7, r8, r9, cq9]
      have hgd : goodD d = true ∨ d = ⟨0, 0, []⟩ := by rcases hor with q | q; exact .inl q.1; exact .inr q.2.1
      have hrec : d.recs.length ≤ 100000000 := by rcases hgd with q | q; exact Nat.le_trans (recs_fit q).1 (by decide); rw [q]; exact Nat.zero_le _
      have cc9 := (hlow C (by omega)).trans ((k5g C (by omega)).trans cc4)
      have cb9 := (hlow (Q + 1) (by omega)).trans ((k5g (Q + 1) (by omega)).trans cb4)
      have xk5 : Rdr h0.next k5 p _ := y4.keep (by omega) (fun c _ hcp _ => k5g c (by omega)) hp
      have S : ∀ c, c ≠ Q → ∀ o, (h9.set Q o).get c = h9.get c := fun c hc o => get_set_ne hc
      refine ⟨_, ?_, ps ++ [⟨nm, pr, d⟩], items ++ [(⟨nm, pr, d⟩, .slice a1 d.recs.length z1)], .slice a2 z2 c2', (bytesR (flagR (bytesR r).2).2).2, bad', rfl, by rw [List.map_append, hit]; rfl, ?_, ?_, fun q hq => ?_, fun q hq => ?_, ?_, fun c hc => by rw [hbk] at hc; have := Option.some.inj hc; omega, cc9, rfl, cb9, ?_, ?_, by omega⟩
      · omega
      · have := hR.step kn1 d bad' (by
          rcases hor with ⟨q1, q2, q3⟩ | ⟨q1, _, _⟩
          · exact .inl ⟨q1, q2, q3⟩
          · exact .inr q1)
        rw [← enm, ← epr] at this
        exact this
      · rw [List.length_append, List.length_singleton]
        omega
      · rcases List.mem_append.1 hq with hq | hq
        · exact hpo q hq
        · rw [List.mem_singleton] at hq
          subst hq
          exact ⟨by show nm.length ≤ 100000000; rw [enm]; omega, hrec⟩
      · rcases List.mem_append.1 hq with hq | hq
        · refine DIn.keep (hib q hq) (by show h'.next ≤ h9.next; omega) (fun c ⟨q1, q2, q3⟩ => ?_) fun c ⟨q1, q2, q3⟩ => ⟨q1, by show c < h9.next; omega, by rw [hbk]; intro e; have := Option.some.inj e; omega⟩
          rw [S c (by omega), hkeep c (by omega) q3, dk5.get c q2 (by omega) (by omega)]
        · rw [List.mem_singleton] at hq
          subst hq
          refine DIn.keep (DNew.din hdn (by omega)) (by show k4.next ≤ h9.next; omega) (fun c ⟨q1, q2⟩ => ?_) fun c ⟨q1, q2⟩ => ⟨by omega, by show c < h9.next; omega, by rw [hbk]; intro e; have := Option.some.inj e; omega⟩
          rw [S c (by omega), hkeep c (by omega) (fun e => by have := (how.lt e).2; omega), k5g c (by omega)]
      · rw [List.flatMap_append]
        refine Own.keep ow2 (Nat.le_refl _) fun c hc => S c (fun e => ?_) _
        rw [hbk] at hc
        have := Option.some.inj hc
        omega
      · exact xk5.keep (by show k5.next ≤ h9.next; omega) (fun c _ hcp hlt => (S c (by omega) _).trans (hlow c (by omega))) hp
      · exact ⟨by show h0.next ≤ h9.next; omega, fun c hc => (S c (by omega) _).trans ((hlow c (by omega)).trans (gk5.get c hc))⟩
    · have hx : n ≤ ps.length ∨ ((ps.length : Int) < n ∧ lf r - 1 = 0) ∨ ((ps.length : Int) < n ∧ 0 < lf r - 1 ∧ bad = true) := by
        by_cases q1 : n ≤ ps.length
        · exact .inl q1
        · by_cases q2 : lf r - 1 = 0
          · exact .inr (.inl ⟨by omega, q2⟩)
          · refine .inr (.inr ⟨by omega, by omega, ?_⟩)
            cases bad with
            | true => rfl
            | false => exact absurd ⟨by omega, by omega, rfl⟩ hc
      have hstop := hR.stop (by
        rcases hx with q | ⟨_, q⟩ | ⟨_, _, q⟩
        · exact .inl q
        · exact .inr (.inl (by rw [lf_left]; exact q))
        · exact .inr (.inr q))
      have hml := bytesR_len r
      have hvr : BRow h0 (.slice av b.length cv) b := hv.grow g0
      have hz : bunC ⟨0, [], ⟨0, 0, []⟩⟩ (.slice none 0 0) (.slice none 0 0) = [.int .i64 0, .slice none 0 0, .int .i64 0, .int .i64 0, .slice none 0 0] := rfl
      have nop : ∀ (H : Heap) (Y : Heap), (∀ B, goodBun B = true → putBun B ≠ b) → Grow h H → Grow h (H.set h.next (.cells [.int .i64 0, .slice none 0 0, .int .i64 0, .int .i64 0, .slice none 0 0] true none)) ∧ ∃ x y, (.tuple ⟨[.agg ⟨[.int .i64 0, .slice none 0 0, .int .i64 0, .int .i64 0, .slice none 0 0]⟩, .iface TA_ (.int .i64 2)]⟩ : Value) = .tuple ⟨[x, y]⟩ ∧ TakeB b h.next Y x y .nilIface (.iface TA_ (.int .i64 2)) := fun H Y hn g => ⟨g.set (Nat.le_refl _) _, _, _, rfl, .inr ⟨hn, by rw [hz], rfl⟩⟩
      rcases hx with kn1 | ⟨kn1, kn2⟩ | ⟨kn1, kn2, rfl⟩ <;> (
        simp (maxSteps := 10000000) (disch := omega) only [vqA, tagOf, reduceIte, reduceCtorEq, reduceEqDiff, reduceAdd, reduceSub, reduceMul, reduceLT, reduceLeDiff, reduceToNat, Nat.reduceBEq, tqA, r0, r2, r4, r5, r6, r7, r8, r9, cc, cq, cb, hleft]
        refine (take1_ok _ p C (Q + 1) _ _ h' xr hp cc cb ⟨by omega, by omega⟩ ⟨by omega, by omega⟩ (by omega) (by omega)).mono ?_
        rintro u k1 ⟨y1, d1, d, w1, bad', rfl, hdn, cb1, hor⟩
        have e1 := d1.next
        have cc1 := (d1.get C (by omega) (by omega) (by omega)).trans cc
        have cq1 := (d1.get Q (by omega) (by omega) (by omega)).trans cq
        obtain ⟨a1, z1, rfl⟩ := hdn.row.is
        have hdc : difC d (.slice a1 d.recs.length z1) = [.int .i64 d.fr, .int .i64 d.to, .slice a1 d.recs.length z1] := rfl
        rw [hdc]
        have key : ∀ B, goodBun B = true → putBun B = b → B = ⟨obj, ps, d⟩ ∧ bad' = false ∧ (bytesR r).2 = some [66] := fun B hB hb => by
          obtain ⟨t1, t2, t3, t4, t5⟩ := hstop B hB hb
          rw [t4] at hor ⊢
          rcases hor with ⟨q1, q2, q3⟩ | ⟨q1, _, _⟩
          · exact ⟨bun_ext t1 t2 (putD_inj q1 t5 q2), by rw [q3, t3], rfl⟩
          · exact absurd rfl (q1 _ t5)
        have hgd : goodD d = true ∨ d = ⟨0, 0, []⟩ := by rcases hor with q | q; exact .inl q.1; exact .inr q.2.1
        have hrec : d.recs.length ≤ 100000000 := by rcases hgd with q | q; exact Nat.le_trans (recs_fit q).1 (by decide); rw [q]; exact Nat.zero_le _
        obtain ⟨k2, ek2⟩ : ∃ y, y = k1.set Q (.cells [.int .i64 obj, .slice aw ps.length ps.length, .int .i64 d.fr, .int .i64 d.to, .slice a1 d.recs.length z1] true none) := ⟨_, rfl⟩
        have n2 : k2.next = k1.next := by rw [ek2]; rfl
        have k2g : ∀ c, c ≠ Q → k2.get c = k1.get c := fun c hc => by rw [ek2, get_set_ne hc]
        have cq2 : k2.get Q = some (.cells [.int .i64 obj, .slice aw ps.length ps.length, .int .i64 d.fr, .int .i64 d.to, .slice a1 d.recs.length z1] true none) := by rw [ek2, get_set_same]
        have y2 : Rdr h0.next k2 p (bytesR r).2 := y1.keep (by omega) (fun c _ hcp _ => k2g c (by omega)) hp
        simp (maxSteps := 10000000) (disch := omega) only [vqA, tagOf, reduceIte, reduceCtorEq, reduceEqDiff, reduceAdd, reduceSub, reduceMul, reduceLT, reduceLeDiff, reduceToNat, Nat.reduceBEq, tqA, r0, r2, r4, r5, r6, r7, r8, r9, cq1, cc1]
        rw [← ek2]
        have cc2 := (k2g C (by omega)).trans cc1
        have cb2 := (k2g (Q + 1) (by omega)).trans cb1
        refine (rbyte_ok _ p _ k2 y2).mono ?_
        rintro u k3 ⟨y3, d3, rfl⟩
        have e3 := d3.next
        have cc3 := (d3.get C (by omega) (by omega) (by omega)).trans cc2
        have cb3 := (d3.get (Q + 1) (by omega) (by omega) (by omega)).trans cb2
        have cq3 := (d3.get Q (by omega) (by omega) (by omega)).trans cq2
        have K : ∀ c, Q + 2 ≤ c → c < h'.next → k3.get c = h'.get c := fun c q1 q2 => by rw [d3.get c (by omega) (by omega) (by omega), k2g c (by omega), d1.get c q2 (by omega) (by omega)]
        have gk3 : Grow h0 k3 := ⟨by omega, fun c hc => by rw [d3.get c (by omega) (by omega) (by omega), k2g c (by omega), d1.get c (by omega) (by omega) (by omega), gr.get c hc]⟩
        have rows : RowV k3 5 (.slice aw ps.length ps.length) (items.flatMap partC) := RowV.keep how.row (by omega) fun c hc hlt => K c (hbw c hc) hlt
        have its : ∀ q ∈ items, DIn (fun c => Q + 2 ≤ c ∧ c < h'.next) k3 q.2 q.1.diff.recs := fun q hq => DIn.keep (hib q hq) (by omega) (fun c ⟨q1, q2, q3⟩ => K c q1 q2) fun c ⟨q1, q2, q3⟩ => ⟨q1, q2⟩
        have lastn : DNew h'.next k3 (.slice a1 d.recs.length z1) d.recs := DNew.keep hdn (by omega) fun c q1 q2 => by rw [d3.get c (by omega) (by omega) (by omega), k2g c (by omega)]
        have prow : PRow k3 (.slice aw ps.length ps.length) ps := prow_of hit rows fun q hq => (its q hq).row
        have go := bunPut_ok ⟨obj, ps, d⟩ _ _ k3 prow lastn.row (by show ps.length ≤ 100000000; omega) hpo hrec
        have hbc : bunC ⟨obj, ps, d⟩ (.slice aw ps.length ps.length) (.slice a1 d.recs.length z1) = [.int .i64 obj, .slice aw ps.length ps.length, .int .i64 d.fr, .int .i64 d.to, .slice a1 d.recs.length z1] := rfl
        rw [hbc] at go
        simp (maxSteps := 10000000) (disch := omega) only [vqA, tagOf, reduceIte, reduceCtorEq, reduceEqDiff, reduceAdd, reduceSub, reduceMul, reduceLT, reduceLeDiff, reduceToNat, Nat.reduceBEq, tqA, r0, r2, r4, r5, r6, r7, r8, r9, cc3, cq3]
        refine go.mono ?_
        rintro u k4 ⟨g4, hq⟩
        have gk4 := gk3.trans g4
        have mh := (gk4.get h.next (by omega)).trans m0
        have cc4 := (g4.get C (by omega)).trans cc3
        have cb4 := (g4.get (Q + 1) (by omega)).trans cb3
        have cq4 := (g4.get Q (by omega)).trans cq3
        cases hg : goodBun ⟨obj, ps, d⟩ with
        | false =>
          rw [hg, if_neg (by decide)] at hq
          subst hq
          simp (maxSteps := 10000000) (disch := omega) only [vqA, tagOf, reduceIte, reduceCtorEq, reduceEqDiff, reduceAdd, reduceSub, reduceMul, reduceLT, reduceLeDiff, reduceToNat, Nat.reduceBEq, tqA, r0, r2, r4, r5, r6, r7, r8, r9, mh]
          exact nop _ _ (fun B hB hb => by rw [(key B hB hb).1, hg] at hB; cases hB) (g0.trans gk4)
        | true =>
          rw [hg, if_pos rfl] at hq
          obtain ⟨wv, rfl, hrow, _⟩ := hq
          cases hbb : bad' with
          | true =>
            rw [hbb] at cb4
            simp (maxSteps := 10000000) (disch := omega) only [vqA, tagOf, reduceIte, reduceCtorEq, reduceEqDiff, reduceAdd, reduceSub, reduceMul, reduceLT, reduceLeDiff, reduceToNat, Nat.reduceBEq, tqA, r0, r2, r4, r5, r6, r7, r8, r9, cb4, mh]
            exact nop _ _ (fun B hB hb => by have := (key B hB hb).2.1; rw [hbb] at this; cases this) (g0.trans gk4)
          | false =>
          rw [hbb] at cb4
          cases hTT : T with
          | false =>
            simp (maxSteps := 10000000) (disch := omega) only [vqA, tagOf, reduceIte, reduceCtorEq, reduceEqDiff, reduceAdd, reduceSub, reduceMul, reduceLT, reduceLeDiff, reduceToNat, Nat.reduceBEq, tqA, r0, r2, r4, r5, r6, r7, r8, r9, hTT, cb4, mh]
            refine nop _ _ (fun B hB hb => ?_) (g0.trans gk4)
            have := hT B hB hb
            rw [this, hTT] at eT
            exact absurd eT (by decide)
          | true =>
            have xe := end_ok _ p _ k4 (y3.grow g4 hp)
            by_cases c66 : (byteR (bytesR r).2).1 = 66
            · have ec : (((byteR (bytesR r).2).1.toNat : Nat) : Int) = 66 := by rw [c66]; rfl
              by_cases hE : (byteR (bytesR r).2).2 = some []
              · rw [if_pos hE] at xe
                have hq := equalB_ok wv _ _ b k4 hrow (hvr.grow gk4) (Nat.le_trans (putBun_le hg) (by decide))
                by_cases hpb : putBun ⟨obj, ps, d⟩ = b
                · rw [beq_iff_eq.2 hpb] at hq
                  simp (maxSteps := 10000000) (disch := omega) only [vqA, tagOf, reduceIte, reduceCtorEq, reduceEqDiff, reduceAdd, reduceSub, reduceMul, reduceLT, reduceLeDiff, reduceToNat, Nat.reduceBEq, tqA, r0, r2, r4, r5, r6, r7, r8, r9, hTT, cb4, cc4, mh, xe, ec, hq, cq4]
                  have its4 : ∀ q ∈ items, DNew h0.next k4 q.2 q.1.diff.recs := fun q hq => (DIn.keep (Q := fun c => Q + 2 ≤ c ∧ c < h'.next) (its q hq) g4.next (fun c ⟨q1, q2⟩ => g4.get c (by omega)) fun c q => q).new fun c q => by omega
                  refine ⟨(g0.trans gk4).set (Nat.le_refl _) _, _, _, rfl, .inl ⟨⟨obj, ps, d⟩, _, _, hg, hpb, by rw [hbc], rfl, ⟨items, hit, ?_, fun c hc => by have := hbw c hc; omega, fun q hq => DNew.le (DNew.set (its4 q hq) (c := h.next) (by omega) _) (by omega)⟩, DNew.le (DNew.keep lastn (by show k3.next ≤ k4.next; exact g4.next) fun c q1 q2 => by rw [get_set_ne (by omega), g4.get c q2]) (by omega)⟩⟩
                  exact RowV.keep rows (by show k3.next ≤ k4.next; exact g4.next) fun c hc hlt => by rw [get_set_ne (by have := hbw c hc; omega), g4.get c hlt]
                · rw [beq_eq_false_iff_ne.2 hpb] at hq
                  simp (maxSteps := 10000000) (disch := omega) only [vqA, tagOf, reduceIte, reduceCtorEq, reduceEqDiff, reduceAdd, reduceSub, reduceMul, reduceLT, reduceLeDiff, reduceToNat, Nat.reduceBEq, tqA, r0, r2, r4, r5, r6, r7, r8, r9, hTT, cb4, cc4, mh, xe, ec, hq]
                  exact nop _ _ (fun B hB hb => hpb (by rw [← (key B hB hb).1]; exact hb)) (g0.trans gk4)
              · rw [if_neg hE] at xe
                simp (maxSteps := 10000000) (disch := omega) only [vqA, tagOf, reduceIte, reduceCtorEq, reduceEqDiff, reduceAdd, reduceSub, reduceMul, reduceLT, reduceLeDiff, reduceToNat, Nat.reduceBEq, tqA, r0, r2, r4, r5, r6, r7, r8, r9, hTT, cb4, cc4, mh, xe, ec]
                exact nop _ _ (fun B hB hb => hE (by rw [(key B hB hb).2.2]; rfl)) (g0.trans gk4)
            · have ec : ¬ (((byteR (bytesR r).2).1.toNat : Nat) : Int) = 66 := fun q => c66 (UInt8.toNat_inj.1 (by rw [show (66 : UInt8).toNat = 66 from rfl]; omega))
              simp (maxSteps := 10000000) (disch := omega) only [vqA, tagOf, reduceIte, reduceCtorEq, reduceEqDiff, reduceAdd, reduceSub, reduceMul, reduceLT, reduceLeDiff, reduceToNat, Nat.reduceBEq, tqA, r0, r2, r4, r5, r6, r7, r8, r9, hTT, cb4, cc4, mh, ec]
              exact nop _ _ (fun B hB hb => c66 (by rw [(key B hB hb).2.2]; rfl)) (g0.trans gk4))
  · exact ⟨[], [], .slice none 0 0, r6, false, rfl, rfl, hR, by simp only [List.length_nil]; omega, (fun _ h => nomatch h), (fun _ h => nomatch h), .nil _ _ _ _, (fun c hc => by cases hc), by simp (maxSteps := 10000000) (disch := omega) only [vqA, tagOf, reduceIte, reduceCtorEq, reduceEqDiff, reduceAdd, reduceSub, reduceMul, reduceLT, reduceLeDiff, reduceToNat, Nat.reduceBEq, tqA], by simp (maxSteps := 10000000) (disch := omega) only [vqA, tagOf, reduceIte, reduceCtorEq, reduceEqDiff, reduceAdd, reduceSub, reduceMul, reduceLT, reduceLeDiff, reduceToNat, Nat.reduceBEq, tqA], by simp (maxSteps := 10000000) (disch := omega) only [vqA, tagOf, reduceIte, reduceCtorEq, reduceEqDiff, reduceAdd, reduceSub, reduceMul, reduceLT, reduceLeDiff, reduceToNat, Nat.reduceBEq, tqA], by simp (maxSteps := 10000000) (disch := omega) only [vqA, tagOf, reduceIte, reduceCtorEq, reduceEqDiff, reduceAdd, reduceSub, reduceMul, reduceLT, reduceLeDiff, reduceToNat, Nat.reduceBEq, tqA], by simp (maxSteps := 10000000) (disch := omega) only [vqA, tagOf, reduceIte, reduceCtorEq, reduceEqDiff, reduceAdd, reduceSub, reduceMul, reduceLT, reduceLeDiff, reduceToNat, Nat.reduceBEq, tqA], by simp (maxSteps := 10000000) (disch := omega) only [vqA, tagOf, reduceIte, reduceCtorEq, reduceEqDiff, reduceAdd, reduceSub, reduceMul, reduceLT, reduceLeDiff, reduceToNat, Nat.reduceBEq, tqA], by simp (maxSteps := 10000000) (disch := omega) only [vqA, tagOf, reduceIte, reduceCtorEq, reduceEqDiff, reduceAdd, reduceSub, reduceMul, reduceLT, reduceLeDiff, reduceToNat, Nat.reduceBEq, tqA, List.map_toArray], by simp (maxSteps := 10000000) (disch := omega) only [vqA, tagOf, reduceIte, reduceCtorEq, reduceEqDiff, reduceAdd, reduceSub, reduceMul, reduceLT, reduceLeDiff, reduceToNat, Nat.reduceBEq, tqA], c6, q6, d6, x6, g6, by omega⟩
end Go.Proofs.Ytdmakachnphddaa.C
