/- W10: the diff of a stream, as the program takes it. -/
import Derived.Test.YtdmakachnphddaaW9
import Derived.Test.YtdmakachnphddaaMa
open Nat (reduceEqDiff reduceAdd reduceSub reduceMul reduceLT reduceLeDiff)
open Int (reduceToNat)
open Go Go.Vi Go.Bm
namespace Go.Proofs.Ytdmakachnphddaa.C
set_option linter.unusedSimpArgs false
set_option maxRecDepth 100000
set_option maxHeartbeats 40000000
theorem equalB_ok (x y : Value) (l m : List UInt8) (h : Heap) (rx : BRow h x l) (ry : BRow h y m) (hl : l.length ≤ 100000000) (Q : Value → Heap → Prop) : Ret E Fq_ [x, y] h Q = Q (.bool (l == m)) h := by
  refine Ret.eq ?_ Q
  refine ret_fun Iw_ (by simp) ?_
  unfold GA_
  obtain ⟨a, c, rfl⟩ := rx.is
  obtain ⟨a2, c2, rfl⟩ := ry.is
  by_cases hn : l.length = m.length
  · have hne : ¬ ((l.length : Int) ≠ (m.length : Int)) := by omega
    simp (maxSteps := 10000000) (disch := omega) only [vqA, tagOf, reduceIte, reduceCtorEq, reduceEqDiff, reduceAdd, reduceSub, reduceMul, reduceLT, reduceLeDiff, reduceToNat, Nat.reduceBEq, tqA]
    refine r_loop (k := l.length) (fun k ρ h' => h' = h ∧ ∃ i : Nat, i + k = l.length ∧ l.take i = m.take i ∧ ρ 0 = .slice a l.length c ∧ ρ 1 = .slice a2 m.length c2 ∧ ρ 12 = .int .i64 l.length ∧ ρ 13 = .int .i64 (i : Int)) ?_ ?_
    · rintro k ρ h' ⟨rfl, i, hk, ht, r0, r1, r12, r13⟩
      unfold GaD_
      rcases Nat.lt_or_ge i l.length with hi | hi
      · have hx := List.getElem?_eq_getElem hi
        have hi2 : i < m.length := by omega
        have hy := List.getElem?_eq_getElem hi2
        obtain ⟨b, o, _, e, _, hel⟩ := rx.elems (by intro e; rw [e] at hi; cases hi)
        obtain ⟨b2, o2, _, e2, _, hel2⟩ := ry.elems (by intro e; rw [e] at hi2; cases hi2)
        cases e
        cases e2
        have h1 := hel i _ hx
        have h2 := hel2 i _ hy
        have t1 : l.take (i + 1) = l.take i ++ [l[i]] := by rw [List.take_add_one, hx]; rfl
        have t2 : m.take (i + 1) = m.take i ++ [m[i]] := by rw [List.take_add_one, hy]; rfl
        have hq : l[i] ≠ m[i] → (l == m) = false := fun q => by
          rw [beq_eq_false_iff_ne]
          intro e
          subst e
          exact q rfl
        generalize l[i] = u at h1 t1 hq
        generalize m[i] = v at h2 t2 hq
        by_cases c1 : u = v
        · subst c1
          simp (maxSteps := 10000000) (disch := omega) only [vqA, tagOf, reduceIte, reduceCtorEq, reduceEqDiff, reduceAdd, reduceSub, reduceMul, reduceLT, reduceLeDiff, reduceToNat, Nat.reduceBEq, tqA, r0, r1, r12, r13, h1, h2]
          exact ⟨k - 1, by omega, i + 1, by omega, by rw [t1, t2, ht], rfl⟩
        · have c2 : ¬ (u.toNat : Int) = (v.toNat : Int) := fun q => c1 (UInt8.toNat_inj.1 (by omega))
          rw [hq c1]
          simp (maxSteps := 10000000) (disch := omega) only [vqA, tagOf, reduceIte, reduceCtorEq, reduceEqDiff, reduceAdd, reduceSub, reduceMul, reduceLT, reduceLeDiff, reduceToNat, Nat.reduceBEq, tqA, r0, r1, r12, r13, h1, h2]
      · have e : l = m := by
          rw [List.take_of_length_le hi, List.take_of_length_le (by omega)] at ht
          exact ht
        have e2 : (l == m) = true := by rw [e]; exact beq_self_eq_true _
        rw [e2]
        simp (maxSteps := 10000000) (disch := omega) only [vqA, tagOf, reduceIte, reduceCtorEq, reduceEqDiff, reduceAdd, reduceSub, reduceMul, reduceLT, reduceLeDiff, reduceToNat, Nat.reduceBEq, tqA, r0, r1, r12, r13]
    · exact ⟨rfl, 0, by omega, rfl, by simp (maxSteps := 10000000) (disch := omega) only [vqA, tagOf, reduceIte, reduceCtorEq, reduceEqDiff, reduceAdd, reduceSub, reduceMul, reduceLT, reduceLeDiff, reduceToNat, Nat.reduceBEq, tqA], by simp (maxSteps := 10000000) (disch := omega) only [vqA, tagOf, reduceIte, reduceCtorEq, reduceEqDiff, reduceAdd, reduceSub, reduceMul, reduceLT, reduceLeDiff, reduceToNat, Nat.reduceBEq, tqA], by simp (maxSteps := 10000000) (disch := omega) only [vqA, tagOf, reduceIte, reduceCtorEq, reduceEqDiff, reduceAdd, reduceSub, reduceMul, reduceLT, reduceLeDiff, reduceToNat, Nat.reduceBEq, tqA], by simp (maxSteps := 10000000) (disch := omega) only [vqA, tagOf, reduceIte, reduceCtorEq, reduceEqDiff, reduceAdd, reduceSub, reduceMul, reduceLT, reduceLeDiff, reduceToNat, Nat.reduceBEq, tqA]; rfl⟩
  · have e : (l == m) = false := by
      rw [beq_eq_false_iff_ne]
      intro e
      exact hn (by rw [e])
    rw [e]
    simp (maxSteps := 10000000) (disch := omega) only [vqA, tagOf, reduceIte, reduceCtorEq, reduceEqDiff, reduceAdd, reduceSub, reduceMul, reduceLT, reduceLeDiff, reduceToNat, Nat.reduceBEq, tqA]
theorem _root_.Go.Vi.Grow.but {a h h' : Heap} {p : Nat} (g : Grow a h) (b : But p p h h') (hp : a.next ≤ p) : Grow a h' := ⟨Nat.le_trans g.next b.next, fun c hc => (b.get c (Nat.lt_of_lt_of_le hc g.next) (by omega) (by omega)).trans (g.get c hc)⟩
theorem DNew.but {base p : Nat} {h h' : Heap} {v : Value} {recs : List Rec} (x : DNew base h v recs) (hp : p < base) (b : But p p h h') : DNew base h' v recs := by
  obtain ⟨items, h1, h2, h4, h3⟩ := x
  exact ⟨items, h1, RowV.keep h2 b.next fun c hc hlt => b.get c hlt (by have := h4 c hc; omega) (by have := h4 c hc; omega), h4, fun p hp => ⟨RowV.keep (h3 p hp).1 b.next fun c hc hlt => b.get c hlt (by have := (h3 p hp).2 c hc; omega) (by have := (h3 p hp).2 c hc; omega), (h3 p hp).2⟩⟩
theorem DNew.le {base base' : Nat} {h : Heap} {v : Value} {recs : List Rec} (x : DNew base h v recs) (hp : base' ≤ base) : DNew base' h v recs := by
  obtain ⟨items, h1, h2, h4, h3⟩ := x
  exact ⟨items, h1, h2, fun b hb => Nat.le_trans hp (h4 b hb), fun p hp => ⟨(h3 p hp).1, fun b hb => Nat.le_trans ‹_› ((h3 p hp).2 b hb)⟩⟩
def TakeQ (b : List UInt8) (base : Nat) (h' : Heap) (x y : Value) (ok bad : Value) : Prop :=
  (∃ d w, goodD d = true ∧ putD d = b ∧ x = .agg ⟨difC d w⟩ ∧ y = ok ∧ DNew base h' w d.recs) ∨ ((∀ d, goodD d = true → putD d ≠ b) ∧ x = .agg ⟨difC ⟨0, 0, []⟩ (.slice none 0 0)⟩ ∧ y = bad)
theorem diffTake_ok (v : Value) (b : List UInt8) (h : Heap) (hv : BRow h v b) (hl : b.length ≤ 90000000) :
    Ret E FO_ [v] h (fun u h' => Grow h h' ∧ ∃ x y, u = .tuple ⟨[x, y]⟩ ∧ TakeQ b h.next h' x y .nilIface (.iface TA_ (.int .i64 2))) := by
  refine ret_fun In_ (by simp) ?_
  unfold GaC_
  obtain ⟨hT, hR⟩ := Rdn.start (b := b)
  obtain ⟨T, eT⟩ : ∃ T, T = ((bytesR (some b)).1 == [108, 97, 109, 105, 110, 97, 32, 100, 105, 102, 102, 32, 49]) := ⟨_, rfl⟩
  have lf1 := bytesR_lf (some b)
  have lf2 := numR_lf (bytesR (some b)).2
  have lf3 := numR_lf (numR (bytesR (some b)).2).2
  have lf4 := numR_lf (numR (numR (bytesR (some b)).2).2).2
  obtain ⟨av, cv, rfl⟩ := hv.is
  simp (maxSteps := 10000000) (disch := omega) only [vqA, tagOf, reduceIte, reduceCtorEq, reduceEqDiff, reduceAdd, reduceSub, reduceMul, reduceLT, reduceLeDiff, reduceToNat, Nat.reduceBEq, tqA]
  have g0 : Grow h (h.new (.cells [.int .i64 0, .int .i64 0, .slice none 0 0] true none)) := .new h _
  have n0 : (h.new (.cells [.int .i64 0, .int .i64 0, .slice none 0 0] true none)).next = h.next + 1 := rfl
  have m0 : (h.new (.cells [.int .i64 0, .int .i64 0, .slice none 0 0] true none)).get h.next = _ := get_new_same h _
  generalize h.new (.cells [.int .i64 0, .int .i64 0, .slice none 0 0] true none) = h0 at g0 n0 m0
  refine (new_ok _ b h0 (hv.grow g0) (by omega)).mono ?_
  rintro u h1 ⟨g1, p, hp, rfl, x1⟩
  simp (maxSteps := 10000000) (disch := omega) only [vqA, tagOf, reduceIte, reduceCtorEq, reduceEqDiff, reduceAdd, reduceSub, reduceMul, reduceLT, reduceLeDiff, reduceToNat, Nat.reduceBEq, tqA]
  refine (rtext_ok _ p _ h1 x1).mono ?_
  rintro u h2 ⟨x2, b2, rfl⟩
  simp (maxSteps := 10000000) (disch := omega) only [vqA, tagOf, reduceIte, reduceCtorEq, reduceEqDiff, reduceAdd, reduceSub, reduceMul, reduceLT, reduceLeDiff, reduceToNat, Nat.reduceBEq, tqA]
  rw [← eT]
  refine (rnum_ok _ p _ h2 x2).mono ?_
  rintro u h3 ⟨x3, b3, rfl⟩
  simp (maxSteps := 10000000) (disch := omega) only [vqA, tagOf, reduceIte, reduceCtorEq, reduceEqDiff, reduceAdd, reduceSub, reduceMul, reduceLT, reduceLeDiff, reduceToNat, Nat.reduceBEq, tqA]
  refine (rnum_ok _ p _ h3 x3).mono ?_
  rintro u h4 ⟨x4, b4, rfl⟩
  simp (maxSteps := 10000000) (disch := omega) only [vqA, tagOf, reduceIte, reduceCtorEq, reduceEqDiff, reduceAdd, reduceSub, reduceMul, reduceLT, reduceLeDiff, reduceToNat, Nat.reduceBEq, tqA]
  have g4 : Grow h0 h4 := g1.but (b2.trans (b3.trans b4)) hp
  have hp4 := x4.lt
  have n4 := g4.next
  generalize (numR (bytesR (some b)).2).1 = fr at hR ⊢
  generalize (numR (numR (bytesR (some b)).2).2).1 = to at hR ⊢
  obtain ⟨h5, e5⟩ : ∃ y, y = (h4.new (.cells [.int .i64 0, .int .i64 0, .slice none 0 0] true none)).set h4.next (.cells [.int .i64 fr, .int .i64 to, .slice none 0 0] true none) := ⟨_, rfl⟩
  have g5 : Grow h4 h5 := by rw [e5]; exact (Grow.new h4 _).set (Nat.le_refl _) _
  have n5 : h5.next = h4.next + 1 := by rw [e5]; rfl
  have m5 : h5.get h4.next = some (.cells [.int .i64 fr, .int .i64 to, .slice none 0 0] true none) := by rw [e5, get_set_same]
  rw [← e5]
  have x5 := x4.grow g5 hp
  refine (rnum_ok _ p _ h5 x5).mono ?_
  rintro u h6 ⟨x6, b6, rfl⟩
  simp (maxSteps := 10000000) (disch := omega) only [vqA, tagOf, reduceIte, reduceCtorEq, reduceEqDiff, reduceAdd, reduceSub, reduceMul, reduceLT, reduceLeDiff, reduceToNat, Nat.reduceBEq, tqA]
  generalize (numR (numR (numR (bytesR (some b)).2).2).2).1 = n at hR ⊢
  have hp6 := x6.lt
  have n6 := b6.next
  have m6 : h6.get h4.next = some (.cells [.int .i64 fr, .int .i64 to, .slice none 0 0] true none) := (b6.get _ (by omega) (by omega) (by omega)).trans m5
  have g6 : Grow h0 h6 := (g4.trans g5).but b6 hp
  generalize hr6 : (numR (numR (numR (bytesR (some b)).2).2).2).2 = r6 at hR x6 lf4
  have hlb : lf (some b) = b.length + 1 := rfl
  refine r_loop (k := lf r6) (fun k ρ h' => ∃ (recs : List Rec) (items : List (Rec × Value)) (w : Value) (r : Rd), lf r = k ∧ items.map (·.1) = recs ∧ Rdn b fr to n recs r ∧ recs.length + lf r ≤ b.length + 1 ∧
    (∀ q ∈ items, BRow h' q.2 q.1.data ∧ ∀ c, blkOf q.2 = some c → h0.next ≤ c ∧ c < p) ∧ Own h0 h' 4 Tp_ w (items.flatMap recC) ∧ (∀ c, blkOf w = some c → h4.next < c) ∧
    ρ 0 = .slice av b.length cv ∧ ρ 2 = .pointer (some ⟨h.next, 0, none⟩) ∧ ρ 4 = .pointer (some ⟨p, 0, none⟩) ∧ ρ 5 = .bool T ∧ ρ 6 = .pointer (some ⟨h4.next, 0, none⟩) ∧ ρ 7 = .int .i64 n ∧
    h'.get h4.next = some (.cells [.int .i64 fr, .int .i64 to, w] true none) ∧ Rdr h0.next h' p r ∧ Grow h0 h' ∧ h4.next < h'.next) ?_ ?_
  · rintro k ρ h' ⟨recs, items, w, r, hk, hit, hR, hlen, hib, how, hbw, r0, r2, r4, r5, r6, r7, mq, xr, gr, hnx⟩
    unfold Gam_
    have hil : items.length = recs.length := by rw [← hit, List.length_map]
    obtain ⟨aw, hew⟩ : ∃ a, w = .slice a recs.length recs.length := by
      rcases how with ⟨rfl, e⟩ | ⟨b9, n9, rfl, hn9, hz9, _⟩
      · have : items.length = 0 := by
          have := congrArg List.length e
          rw [flat_len (fun p _ => recC_len p), List.length_nil] at this
          omega
        exact ⟨none, by rw [show recs.length = 0 by omega]⟩
      · rw [flat_len (fun p _ => recC_len p)] at hz9
        exact ⟨_, by rw [show recs.length = n9 by omega]⟩
    subst hew
    have hleft := left_ok _ p r h' xr
    rw [lf_left] at hleft
    by_cases hc : (recs.length : Int) < n ∧ 0 < lf r - 1
    · obtain ⟨c1, c2⟩ := hc
      have hxp := xr.lt
      have fin : ∀ (x : Rec) (dw : Value) (r' : Rd) (hA : Heap), recR r = (x, r') → But p p h' hA → hA.get h4.next = some (.cells [.int .i64 fr, .int .i64 to, .slice aw recs.length recs.length] true none) → BRow hA dw x.data → (∀ c, blkOf dw = some c → h0.next ≤ c ∧ c < p) → Rdr h0.next hA p r' →
          ∃ a2 n2 c2 h2, appendV E Ts_ (some Ts_) (.slice aw recs.length recs.length) (.slice (some ⟨hA.next, 0, none⟩) 1 1) (hA.new (.cells [.int .i64 x.at_, .int .i64 x.len, .bool x.zero, dw] true none)) = some (.slice a2 n2 c2, h2) ∧ h2.get h4.next = some (.cells [.int .i64 fr, .int .i64 to, .slice aw recs.length recs.length] true none) ∧
          ∃ k' < k, ∃ (recs : List Rec) (items : List (Rec × Value)) (w : Value) (r : Rd), lf r = k' ∧ items.map (·.1) = recs ∧ Rdn b fr to n recs r ∧ recs.length + lf r ≤ b.length + 1 ∧
          (∀ q ∈ items, BRow (h2.set h4.next (.cells [.int .i64 fr, .int .i64 to, .slice a2 n2 c2] true none)) q.2 q.1.data ∧ ∀ c, blkOf q.2 = some c → h0.next ≤ c ∧ c < p) ∧ Own h0 (h2.set h4.next (.cells [.int .i64 fr, .int .i64 to, .slice a2 n2 c2] true none)) 4 Tp_ w (items.flatMap recC) ∧ (∀ c, blkOf w = some c → h4.next < c) ∧
          .slice a2 n2 c2 = w ∧ Rdr h0.next (h2.set h4.next (.cells [.int .i64 fr, .int .i64 to, .slice a2 n2 c2] true none)) p r ∧ Grow h0 (h2.set h4.next (.cells [.int .i64 fr, .int .i64 to, .slice a2 n2 c2] true none)) ∧ h4.next < h2.next := by
        intro x dw r' hA hrx bA mA hdw hdb xA
        have nA := bA.next
        have gA : Grow h0 hA := gr.but bA hp
        have owA : Own h0 hA 4 Tp_ (.slice aw recs.length recs.length) (items.flatMap recC) := how.keep nA fun c hc => bA.get c (how.lt hc).2 (by have := hbw c hc; omega) (by have := hbw c hc; omega)
        have o1 := hdw.one
        obtain ⟨w2, h2, happ, ow2, g2, hn2, hbk, hkeep⟩ := own_app Se_ okSrc_prog (h := hA.new (.cells [.int .i64 x.at_, .int .i64 x.len, .bool x.zero, dw] true none))
          (owA.grow (.new hA _)) (gA.more _) (b2 := hA.next) (o2 := 0) (n := 1) (c2 := 1) (new := [.int .i64 x.at_, .int .i64 x.len, .bool x.zero, dw]) (by simp (maxSteps := 10000000) (disch := omega) only [vqA, tagOf, reduceIte, reduceCtorEq, reduceEqDiff, reduceAdd, reduceSub, reduceMul, reduceLT, reduceLeDiff, reduceToNat, Nat.reduceBEq, tqA]) (by omega) (by simp (maxSteps := 10000000) (disch := omega) only [vqA, tagOf, reduceIte, reduceCtorEq, reduceEqDiff, reduceAdd, reduceSub, reduceMul, reduceLT, reduceLeDiff, reduceToNat, Nat.reduceBEq, tqA, o1]) (by rw [flat_len (fun p _ => recC_len p)]; simp; omega) (by decide)
        obtain ⟨a2, n2, c2, rfl, _⟩ := ow2.row.is
        have hn2 : h2.next = hA.next + 2 := hn2
        have hbk : blkOf (.slice a2 n2 c2) = some (hA.next + 1) := hbk
        have hkeep : ∀ c, c < hA.next → blkOf (.slice aw recs.length recs.length) ≠ some c → h2.get c = hA.get c := fun c hc hne => (hkeep c (Nat.lt_succ_of_lt hc) hne).trans (get_new_ne (by omega))
        have hk4 : ∀ c, c < h4.next → h2.get c = hA.get c := fun c hc => hkeep c (by omega) fun e => by have := hbw c e; omega
        refine ⟨a2, n2, c2, h2, happ, (hkeep _ (by omega) fun e => by have := hbw _ e; omega).trans mA, lf r', ?_, recs ++ [x], items ++ [(x, dw)], _, r', rfl, by rw [List.map_append, hit]; rfl, ?_, ?_, fun q hq => ?_, ?_, fun c hc => by rw [hbk] at hc; have := Option.some.inj hc; omega, rfl, ?_, ?_, by omega⟩
        · have := recR_lf r
          rw [hrx] at this
          have : lf r' ≤ lf r - 1 := this
          omega
        · have := hR.step c1
          rw [hrx] at this
          exact this
        · have := recR_lf r
          rw [hrx] at this
          have : lf r' ≤ lf r - 1 := this
          rw [List.length_append, List.length_singleton]
          omega
        · rcases List.mem_append.1 hq with hq | hq
          · obtain ⟨q1, q2⟩ := hib q hq
            refine ⟨RowV.keep q1 (by show h'.next ≤ h2.next; omega) fun c hc hlt => ?_, q2⟩
            have := q2 c hc
            rw [get_set_ne (by omega), hk4 c (by omega), bA.get c (by omega) (by omega) (by omega)]
          · rw [List.mem_singleton] at hq
            subst hq
            refine ⟨RowV.keep hdw (by show hA.next ≤ h2.next; omega) fun c hc hlt => ?_, hdb⟩
            have := hdb c hc
            rw [get_set_ne (by omega), hk4 c (by omega)]
        · rw [List.flatMap_append]
          refine Own.keep ow2 (Nat.le_refl _) fun c hc => get_set_ne fun e => ?_
          rw [hbk] at hc
          have := Option.some.inj hc
          omega
        · refine xA.keep (by show hA.next ≤ h2.next; omega) (fun c _ hcp hlt => ?_) hp
          rw [get_set_ne (by omega), hk4 c (by omega)]
        · exact ⟨by show h0.next ≤ h2.next; omega, fun c hc => by rw [get_set_ne (by omega), hk4 c (by omega), gA.get c hc]⟩
      simp (maxSteps := 10000000) (disch := omega) only [vqA, tagOf, reduceIte, reduceCtorEq, reduceEqDiff, reduceAdd, reduceSub, reduceMul, reduceLT, reduceLeDiff, reduceToNat, Nat.reduceBEq, tqA, r0, r2, r4, r5, r6, r7, mq, hleft]
      refine (rnum_ok _ p _ h' xr).mono ?_
      rintro u k1 ⟨y1, d1, rfl⟩
      simp (maxSteps := 10000000) (disch := omega) only [vqA, tagOf, reduceIte, reduceCtorEq, reduceEqDiff, reduceAdd, reduceSub, reduceMul, reduceLT, reduceLeDiff, reduceToNat, Nat.reduceBEq, tqA, r0, r2, r4, r5, r6, r7]
      refine (rnum_ok _ p _ k1 y1).mono ?_
      rintro u k2 ⟨y2, d2, rfl⟩
      simp (maxSteps := 10000000) (disch := omega) only [vqA, tagOf, reduceIte, reduceCtorEq, reduceEqDiff, reduceAdd, reduceSub, reduceMul, reduceLT, reduceLeDiff, reduceToNat, Nat.reduceBEq, tqA, r0, r2, r4, r5, r6, r7]
      refine (rflag_ok _ p _ k2 y2).mono ?_
      rintro u k3 ⟨y3, d3, rfl⟩
      have d3 := d1.trans (d2.trans d3)
      have e3 := d3.next
      have hrr : recR r = if (flagR (numR (numR r).2).2).1 = true then (⟨(numR r).1, (numR (numR r).2).1, true, []⟩, (flagR (numR (numR r).2).2).2)
        else (⟨(numR r).1, (numR (numR r).2).1, false, (bytesR (flagR (numR (numR r).2).2).2).1⟩, (bytesR (flagR (numR (numR r).2).2).2).2) := rfl
      generalize (flagR (numR (numR r).2).2).2 = r3 at y3 hrr
      generalize (numR (numR r).2).1 = rl at hrr ⊢
      generalize (numR r).1 = ra at hrr ⊢
      cases hz : (flagR (numR (numR r).2).2).1 with
      | true =>
        rw [hz, if_pos rfl] at hrr
        obtain ⟨hA, eA⟩ : ∃ y, y = (k3.new (.cells [.int .i64 0, .int .i64 0, .bool false, .slice none 0 0] true none)).set k3.next (.cells [.int .i64 ra, .int .i64 rl, .bool true, .slice none 0 0] true none) := ⟨_, rfl⟩
        have gA : Grow k3 hA := by rw [eA]; exact (Grow.new k3 _).set (Nat.le_refl _) _
        have nA : hA.next = k3.next + 1 := by rw [eA]; rfl
        have pA : hA.get k3.next = some (.cells [.int .i64 ra, .int .i64 rl, .bool true, .slice none 0 0] true none) := by rw [eA, get_set_same]
        have mk : k3.get h4.next = some (.cells [.int .i64 fr, .int .i64 to, .slice aw recs.length recs.length] true none) := (d3.get _ (by omega) (by omega) (by omega)).trans mq
        have mA := (gA.get _ (by omega)).trans mk
        obtain ⟨a2, n2, c2, h2, happ, k2, rest⟩ := fin ⟨ra, rl, true, []⟩ (.slice none 0 0) r3 hA hrr (d3.trans (.of gA)) mA (RowV.nil _ _) (fun c hc => by cases hc) (y3.grow gA hp)
        rw [nA, eA] at happ
        simp (maxSteps := 10000000) (disch := omega) only [vqA, tagOf, reduceIte, reduceCtorEq, reduceEqDiff, reduceAdd, reduceSub, reduceMul, reduceLT, reduceLeDiff, reduceToNat, Nat.reduceBEq, tqA, r0, r2, r4, r5, r6, r7, mk]
        rw [happ]
        obtain ⟨k', f1, recs', items', w', r', f2, f3, f4, f5, f6, f7, f8, f9, f10⟩ := rest
        simp (maxSteps := 10000000) (disch := omega) only [vqA, tagOf, reduceIte, reduceCtorEq, reduceEqDiff, reduceAdd, reduceSub, reduceMul, reduceLT, reduceLeDiff, reduceToNat, Nat.reduceBEq, tqA, r0, r2, r4, r5, r6, r7, k2]
        exact ⟨k', f1, recs', items', w', r', f2, f3, f4, f5, f6, f7, f8, by rw [f9], f10⟩
      | false =>
        rw [hz, if_neg (by decide)] at hrr
        obtain ⟨hA, eA⟩ : ∃ y, y = (k3.new (.cells [.int .i64 0, .int .i64 0, .bool false, .slice none 0 0] true none)).set k3.next (.cells [.int .i64 ra, .int .i64 rl, .bool false, .slice none 0 0] true none) := ⟨_, rfl⟩
        have gA : Grow k3 hA := by rw [eA]; exact (Grow.new k3 _).set (Nat.le_refl _) _
        have nA : hA.next = k3.next + 1 := by rw [eA]; rfl
        have pA : hA.get k3.next = some (.cells [.int .i64 ra, .int .i64 rl, .bool false, .slice none 0 0] true none) := by rw [eA, get_set_same]
        simp (maxSteps := 10000000) (disch := omega) only [vqA, tagOf, reduceIte, reduceCtorEq, reduceEqDiff, reduceAdd, reduceSub, reduceMul, reduceLT, reduceLeDiff, reduceToNat, Nat.reduceBEq, tqA, r0, r2, r4, r5, r6, r7]
        rw [← eA]
        refine (rbytes_ok _ p _ hA (y3.grow gA hp)).mono ?_
        rintro dw k5 ⟨y5, d5, hdw, odw⟩
        have n5' := d5.next
        have p5 : k5.get k3.next = _ := (d5.get _ (by omega) (by omega) (by omega)).trans pA
        have m5' : k5.get h4.next = _ := (d5.get _ (by omega) (by omega) (by omega)).trans ((gA.get _ (by omega)).trans ((d3.get _ (by omega) (by omega) (by omega)).trans mq))
        obtain ⟨ad, cd, hde⟩ := hdw.is
        rw [hde] at hdw odw ⊢
        have d7 : But p p h' k5 := d3.trans ((But.of gA).trans d5)
        have gS : ∀ x, Rdr h0.next (k5.set k3.next x) p (bytesR r3).2 := fun x => y5.keep (Nat.le_refl _) (fun c _ hcp _ => get_set_ne (by omega)) hp
        have dS : ∀ x, But p p h' (k5.set k3.next x) := fun x => ⟨d7.next, fun c hc h1 h2 => (get_set_ne (by omega)).trans (d7.get c hc h1 h2)⟩
        have rS : ∀ x, BRow (k5.set k3.next x) (.slice ad (bytesR r3).1.length cd) (bytesR r3).1 := fun x => RowV.keep hdw (Nat.le_refl _) fun c hc _ => get_set_ne (by have := odw c hc; omega)
        have mS : ∀ x, (k5.set k3.next x).get h4.next = _ := fun x => (get_set_ne (by omega)).trans m5'
        obtain ⟨a2, n2, c2, h2, happ, k2, rest⟩ := fin ⟨ra, rl, false, (bytesR r3).1⟩ (.slice ad (bytesR r3).1.length cd) (bytesR r3).2 _ hrr (dS (.cells [.int .i64 ra, .int .i64 rl, .bool false, .slice ad (bytesR r3).1.length cd] true none)) (mS _) (rS _) (fun c hc => ⟨(odw c hc).2, (odw c hc).1⟩) (gS _)
        rw [show ∀ x, (k5.set k3.next x).next = k5.next from fun _ => rfl] at happ
        simp (maxSteps := 10000000) (disch := omega) only [vqA, tagOf, reduceIte, reduceCtorEq, reduceEqDiff, reduceAdd, reduceSub, reduceMul, reduceLT, reduceLeDiff, reduceToNat, Nat.reduceBEq, tqA, r0, r2, r4, r5, r6, r7, p5, m5']
        rw [happ]
        obtain ⟨k', f1, recs', items', w', r', f2, f3, f4, f5, f6, f7, f8, f9, f10⟩ := rest
        simp (maxSteps := 10000000) (disch := omega) only [vqA, tagOf, reduceIte, reduceCtorEq, reduceEqDiff, reduceAdd, reduceSub, reduceMul, reduceLT, reduceLeDiff, reduceToNat, Nat.reduceBEq, tqA, r0, r2, r4, r5, r6, r7, k2]
        exact ⟨k', f1, recs', items', w', r', f2, f3, f4, f5, f6, f7, f8, by rw [f9], f10⟩
    · have hx : n ≤ recs.length ∨ (recs.length : Int) < n ∧ lf r - 1 = 0 := by omega
      have hstop := hR.stop (by rw [lf_left]; omega)
      have hvr : BRow h0 (.slice av b.length cv) b := hv.grow g0
      have bad : ∀ (H : Heap) (Y : Heap), (∀ d, goodD d = true → putD d ≠ b) → Grow h H → Grow h (H.set h.next (.cells [.int .i64 0, .int .i64 0, .slice none 0 0] true none)) ∧ ∃ x y, (.tuple ⟨[.agg ⟨[.int .i64 0, .int .i64 0, .slice none 0 0]⟩, .iface TA_ (.int .i64 2)]⟩ : Value) = .tuple ⟨[x, y]⟩ ∧ TakeQ b h.next Y x y .nilIface (.iface TA_ (.int .i64 2)) := fun H Y hn g => ⟨g.set (Nat.le_refl _) _, _, _, rfl, .inr ⟨hn, rfl, rfl⟩⟩
      rcases hx with c1 | ⟨c1, c2⟩ <;> (
        simp (maxSteps := 10000000) (disch := omega) only [vqA, tagOf, reduceIte, reduceCtorEq, reduceEqDiff, reduceAdd, reduceSub, reduceMul, reduceLT, reduceLeDiff, reduceToNat, Nat.reduceBEq, tqA, r0, r2, r4, r5, r6, r7, mq, hleft]
        refine (rbyte_ok _ p r h' xr).mono ?_
        rintro u k1 ⟨y1, d1, rfl⟩
        have e1 := d1.next
        have mk1 := (d1.get _ hnx (by omega) (by omega)).trans mq
        have gk1 : Grow h0 k1 := gr.but d1 hp
        have rk1 : RowV k1 4 (.slice aw recs.length recs.length) (items.flatMap recC) := RowV.keep how.row e1 fun c hc hlt => d1.get c hlt (by have := hbw c hc; omega) (by have := hbw c hc; omega)
        have hib1 : ∀ q ∈ items, BRow k1 q.2 q.1.data := fun q hq => RowV.keep (hib q hq).1 e1 fun c hc hlt => d1.get c hlt (by have := (hib q hq).2 c hc; omega) (by have := (hib q hq).2 c hc; omega)
        have hd1 : DRow k1 (.slice aw recs.length recs.length) recs := drow_of hit rk1 hib1
        simp (maxSteps := 10000000) (disch := omega) only [vqA, tagOf, reduceIte, reduceCtorEq, reduceEqDiff, reduceAdd, reduceSub, reduceMul, reduceLT, reduceLeDiff, reduceToNat, Nat.reduceBEq, tqA, r0, r2, r4, r5, r6, r7, mk1]
        refine (diffPut_ok ⟨fr, to, recs⟩ _ k1 hd1 (by show recs.length ≤ 100000000; omega)).mono ?_
        rintro u k2 ⟨g2, hq⟩
        have gk2 := gk1.trans g2
        have mh : k2.get h.next = _ := (gk2.get _ (by omega)).trans m0
        have mk2 := (g2.get _ (by omega)).trans mk1
        cases hg : goodD ⟨fr, to, recs⟩ with
        | false =>
          rw [hg, if_neg (by decide)] at hq
          subst hq
          simp (maxSteps := 10000000) (disch := omega) only [vqA, tagOf, reduceIte, reduceCtorEq, reduceEqDiff, reduceAdd, reduceSub, reduceMul, reduceLT, reduceLeDiff, reduceToNat, Nat.reduceBEq, tqA, r0, r2, r4, r5, r6, r7, mh]
          exact bad _ _ (fun d hd hb => by rw [(hstop d hd hb).1, hg] at hd; cases hd) (g0.trans gk2)
        | true =>
          rw [hg, if_pos rfl] at hq
          obtain ⟨wv, rfl, hrow, _⟩ := hq
          simp (maxSteps := 10000000) (disch := omega) only [vqA, tagOf, reduceIte, reduceCtorEq, reduceEqDiff, reduceAdd, reduceSub, reduceMul, reduceLT, reduceLeDiff, reduceToNat, Nat.reduceBEq, tqA, r0, r2, r4, r5, r6, r7]
          cases hTT : T with
          | false =>
            simp (maxSteps := 10000000) (disch := omega) only [vqA, tagOf, reduceIte, reduceCtorEq, reduceEqDiff, reduceAdd, reduceSub, reduceMul, reduceLT, reduceLeDiff, reduceToNat, Nat.reduceBEq, tqA, r0, r2, r4, r5, r6, r7, mh]
            refine bad _ _ (fun d hd hb => ?_) (g0.trans gk2)
            have := hT d hd hb
            rw [this] at eT
            rw [hTT] at eT
            exact absurd eT (by decide)
          | true =>
            have xe := end_ok _ p _ k2 (y1.grow g2 hp)
            by_cases c69 : (byteR r).1 = 69
            · have ec : (((byteR r).1.toNat : Nat) : Int) = 69 := by rw [c69]; rfl
              by_cases hE : (byteR r).2 = some []
              · rw [if_pos hE] at xe
                have hq := equalB_ok wv _ _ b k2 hrow (hvr.grow gk2) (Nat.le_trans (putD_le hg) (by decide))
                by_cases hpb : putD ⟨fr, to, recs⟩ = b
                · rw [beq_iff_eq.2 hpb] at hq
                  simp (maxSteps := 10000000) (disch := omega) only [vqA, tagOf, reduceIte, reduceCtorEq, reduceEqDiff, reduceAdd, reduceSub, reduceMul, reduceLT, reduceLeDiff, reduceToNat, Nat.reduceBEq, tqA, r0, r2, r4, r5, r6, r7, mh, xe, ec, hq, mk2]
                  have hnew : DNew h0.next k2 (.slice aw recs.length recs.length) recs := ⟨items, hit, rk1.grow g2, fun c hc => (how.lt hc).1, fun q hq => ⟨(hib1 q hq).grow g2, fun c hc => ((hib q hq).2 c hc).1⟩⟩
                  exact ⟨(g0.trans gk2).set (Nat.le_refl _) _, _, _, rfl, .inl ⟨⟨fr, to, recs⟩, _, hg, hpb, rfl, rfl, DNew.le (DNew.set hnew (c := h.next) (by omega) _) (by omega)⟩⟩
                · rw [beq_eq_false_iff_ne.2 hpb] at hq
                  simp (maxSteps := 10000000) (disch := omega) only [vqA, tagOf, reduceIte, reduceCtorEq, reduceEqDiff, reduceAdd, reduceSub, reduceMul, reduceLT, reduceLeDiff, reduceToNat, Nat.reduceBEq, tqA, r0, r2, r4, r5, r6, r7, mh, xe, ec, hq]
                  exact bad _ _ (fun d hd hb => hpb (by rw [← (hstop d hd hb).1]; exact hb)) (g0.trans gk2)
              · rw [if_neg hE] at xe
                simp (maxSteps := 10000000) (disch := omega) only [vqA, tagOf, reduceIte, reduceCtorEq, reduceEqDiff, reduceAdd, reduceSub, reduceMul, reduceLT, reduceLeDiff, reduceToNat, Nat.reduceBEq, tqA, r0, r2, r4, r5, r6, r7, mh, xe, ec]
                exact bad _ _ (fun d hd hb => hE (by rw [(hstop d hd hb).2])) (g0.trans gk2)
            · have ec : ¬ (((byteR r).1.toNat : Nat) : Int) = 69 := fun q => c69 (UInt8.toNat_inj.1 (by rw [show (69 : UInt8).toNat = 69 from rfl]; omega))
              simp (maxSteps := 10000000) (disch := omega) only [vqA, tagOf, reduceIte, reduceCtorEq, reduceEqDiff, reduceAdd, reduceSub, reduceMul, reduceLT, reduceLeDiff, reduceToNat, Nat.reduceBEq, tqA, r0, r2, r4, r5, r6, r7, mh, ec]
              exact bad _ _ (fun d hd hb => c69 (by rw [(hstop d hd hb).2])) (g0.trans gk2))
  · exact ⟨[], [], .slice none 0 0, r6, rfl, rfl, hR, by simp only [List.length_nil]; omega, (fun _ h => nomatch h), .nil _ _ _ _, (fun c hc => by cases hc), by simp (maxSteps := 10000000) (disch := omega) only [vqA, tagOf, reduceIte, reduceCtorEq, reduceEqDiff, reduceAdd, reduceSub, reduceMul, reduceLT, reduceLeDiff, reduceToNat, Nat.reduceBEq, tqA], by simp (maxSteps := 10000000) (disch := omega) only [vqA, tagOf, reduceIte, reduceCtorEq, reduceEqDiff, reduceAdd, reduceSub, reduceMul, reduceLT, reduceLeDiff, reduceToNat, Nat.reduceBEq, tqA], by simp (maxSteps := 10000000) (disch := omega) only [vqA, tagOf, reduceIte, reduceCtorEq, reduceEqDiff, reduceAdd, reduceSub, reduceMul, reduceLT, reduceLeDiff, reduceToNat, Nat.reduceBEq, tqA], by simp (maxSteps := 10000000) (disch := omega) only [vqA, tagOf, reduceIte, reduceCtorEq, reduceEqDiff, reduceAdd, reduceSub, reduceMul, reduceLT, reduceLeDiff, reduceToNat, Nat.reduceBEq, tqA], by simp (maxSteps := 10000000) (disch := omega) only [vqA, tagOf, reduceIte, reduceCtorEq, reduceEqDiff, reduceAdd, reduceSub, reduceMul, reduceLT, reduceLeDiff, reduceToNat, Nat.reduceBEq, tqA], by simp (maxSteps := 10000000) (disch := omega) only [vqA, tagOf, reduceIte, reduceCtorEq, reduceEqDiff, reduceAdd, reduceSub, reduceMul, reduceLT, reduceLeDiff, reduceToNat, Nat.reduceBEq, tqA], m6, x6, g6, by omega⟩
end Go.Proofs.Ytdmakachnphddaa.C
