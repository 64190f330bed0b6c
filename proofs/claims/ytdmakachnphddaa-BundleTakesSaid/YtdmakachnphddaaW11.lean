/- W11: the diff of a stream, as the document takes it. -/
import Derived.Test.YtdmakachnphddaaW10
import Derived.Test.YtdmakachnphddaaVgI
open Nat (reduceEqDiff reduceAdd reduceSub reduceMul reduceLT reduceLeDiff)
open Int (reduceToNat)
open Go Go.Vi Go.Bm
namespace Go.Proofs.Ytdmakachnphddaa.C
set_option linter.unusedSimpArgs false
set_option maxRecDepth 100000
set_option maxHeartbeats 40000000
theorem d_cv (p : Plan) (d : Option Tmp) (ty : TypeId) (r : List SOp) (j : Nat) (ρ : Fr) (h : Heap) (hs : List Heap) (rs : List HSeen) (Q : Qt) (x : Operand) :
    DR E p (⟨d, .convert Tc_ Tf_ x, ty, none⟩ :: r) j ρ h hs rs Q = dsliceQ E p d (.convert Tc_ Tf_ x) ty r j ρ h hs rs Q (convV E Tc_ Tf_ (evH ρ x)) (convR E Tc_ Tf_ (evH ρ x) h) := d_conv bt_bytes (by decide) ..
theorem h_cv (d : Option Tmp) (ty : TypeId) (x : Operand) : heavyOp (SOp.o ⟨d, .convert Tc_ Tf_ x, ty, none⟩) = false := heavy_conv (by decide) ..
theorem s_cv (p : Plan) (hs : List Heap) (j : Nat) (d : Option Tmp) (x : Operand) (ty : TypeId) (ρ : Fr) (v : Value) :
    seenH E p hs ⟨j, ⟨d, .convert Tc_ Tf_ x, ty, none⟩, ρ, v⟩ = seenAt (convR E Tc_ Tf_ (evH ρ x)) v (p.hi.getD j 0 + 1 - p.lo.getD j 0) (hs.drop (p.lo.getD j 0)) := seen_conv (by decide) ..
theorem n_cv (a : Option Addr) (n c : Nat) : convV E Tc_ Tf_ (.slice a n c) = none := bt_none bt_bytes ..
theorem r_cv {h : Heap} {x : Value} {l : List UInt8} (r : BRow h x l) : convR E Tc_ Tf_ x h = some (.string (strOf l)) := convR_row bt_bytes r
theorem fresh_copy (h0 : Heap) (v : Value) (b : List UInt8) (hv : BRow h0 v b) (hl : b.length ≤ 100000000) :
    ∃ a c hX, appendV E Tc_ (some Tc_) (.slice (some ⟨h0.next, 0, none⟩) 0 0) v (h0.new (.cells [] true none)) = some (.slice a b.length c, hX) ∧ Grow h0 hX ∧ BRow hX (.slice a b.length c) b ∧ (∀ k, blkOf (.slice a b.length c) = some k → k < hX.next ∧ h0.next ≤ k) ∧ Value.slice a b.length c ≠ voidS ∧ Cut1 hX (.slice a b.length c) := by
  have g0 := Grow.new h0 (.cells [] true none)
  by_cases he : b = []
  · subst he
    exact ⟨_, _, _, app_none0 (E := E) (b := h0.next) (o := 0) (len := 0) (cap := 0) Sa_ okSrc_bytes (RowV.grow hv g0) (Nat.le_refl _), g0, RowV.own (z := 1) (n := 0) (c := 0) (Nat.lt_succ_self _) (Nat.le_refl _) (get_new_same h0 (.cells [] true none)) (by decide), (fun k hk => by cases hk; exact ⟨Nat.lt_succ_self _, Nat.le_refl _⟩), sl_ne, fun k hk => by cases hk; exact ⟨_, _, _, get_new_same _ _, .inl rfl⟩⟩
  · have hpos : 0 < b.length := List.length_pos_iff.2 he
    refine ⟨_, _, _, app_own0 (E := E) (n := b.length) (b := h0.next) (wr := true) Sa_ okSrc_bytes (RowV.grow hv g0) (by simp) hpos (bytes_one b) (get_new_same _ _) (by omega) (by omega), g0.more _, .inr ⟨h0.next + 1, 0, b.length, b.length, b.map byteV, true, some (1, Te_), Nat.lt_succ_self _, rfl, Nat.le_refl _, by simp, get_new_same _ _, by simp, by rw [List.drop_zero, List.take_length]⟩, (fun k hk => by cases hk; exact ⟨Nat.lt_succ_self _, Nat.le_succ _⟩), sl_ne, (fun k hk => by cases hk; exact ⟨_, _, _, get_new_same _ _, .inr rfl⟩)⟩
theorem Rdr.bad {o : Nat} {h : Heap} {p : Nat} {r : Rd} (x : Rdr o h p r) : ∃ a c, h.get p = some (.cells [.slice a (lf r - 1) c, .bool r.isNone] true none) := by
  cases r with
  | none => exact ⟨_, _, x.2⟩
  | some l =>
    obtain ⟨_, _, v, hg, hv, _⟩ := x
    obtain ⟨a, c, rfl⟩ := hv.is
    exact ⟨a, c, hg⟩
theorem BRow.within {h : Heap} {d : Value} {l : List UInt8} {c : Nat} (x : BRow h d l) (hc : blkOf d = some c) (h0 : 0 < c) : c < h.next := by
  rcases x with ⟨rfl | rfl, _⟩ | ⟨b2, o2, n, c2, row, w, q, hb2, rfl, _⟩
  · cases hc
  · cases hc; exact absurd h0 (by decide)
  · cases hc; exact hb2
theorem refTake_ok (v : Value) (b : List UInt8) (h : Heap) (hv : BRow h v b) (hl : b.length ≤ 90000000) :
    Ret E FC_ [v] h (fun u h' => Grow h h' ∧ ∃ x y, u = .tuple ⟨[x, y]⟩ ∧ TakeQ b h.next h' x y (.bool true) (.bool false)) := by
  refine ret_fun Iy_ (by simp) ?_
  unfold Gv_
  obtain ⟨hT, hR⟩ := Rdn.start (b := b)
  obtain ⟨T, eT⟩ : ∃ T, T = ((bytesR (some b)).1 == [108, 97, 109, 105, 110, 97, 32, 100, 105, 102, 102, 32, 49]) := ⟨_, rfl⟩
  have lf1 := bytesR_lf (some b)
  have lf2 := numR_lf (bytesR (some b)).2
  have lf3 := numR_lf (numR (bytesR (some b)).2).2
  have lf4 := numR_lf (numR (numR (bytesR (some b)).2).2).2
  have g0 : Grow h (h.new (.cells [.int .i64 0, .int .i64 0, .slice none 0 0] true none)) := .new h _
  have n0 : (h.new (.cells [.int .i64 0, .int .i64 0, .slice none 0 0] true none)).next = h.next + 1 := rfl
  have m0 : (h.new (.cells [.int .i64 0, .int .i64 0, .slice none 0 0] true none)).get h.next = _ := get_new_same h _
  obtain ⟨aX, cX, hX, happX, gX, bX, oX, vX, cutX⟩ := fresh_copy _ v b (hv.grow g0) (by omega)
  rw [n0] at happX
  obtain ⟨av, cv, rfl⟩ := hv.is
  simp (maxSteps := 10000000) (disch := omega) only [vqA, tagOf, reduceIte, reduceCtorEq, reduceEqDiff, reduceAdd, reduceSub, reduceMul, reduceLT, reduceLeDiff, reduceToNat, Nat.reduceBEq, tqA]
  rw [happX]
  simp (maxSteps := 10000000) (disch := omega) only [vqA, tagOf, reduceIte, reduceCtorEq, reduceEqDiff, reduceAdd, reduceSub, reduceMul, reduceLT, reduceLeDiff, reduceToNat, Nat.reduceBEq, tqA]
  clear happX
  generalize h.new (.cells [.int .i64 0, .int .i64 0, .slice none 0 0] true none) = h0 at *
  obtain ⟨h1, e1⟩ : ∃ y, y = hX.new (.cells [.slice aX b.length cX, .bool false] true none) := ⟨_, rfl⟩
  obtain ⟨p, ep⟩ : ∃ p, p = hX.next := ⟨_, rfl⟩
  have hp : h0.next ≤ p := by rw [ep]; exact gX.next
  have g1 : Grow h0 h1 := by rw [e1]; exact gX.more _
  have x1 : Rdr h0.next h1 p (some b) := by
    rw [e1, ep]
    refine ⟨Nat.lt_succ_self _, by omega, _, get_new_same _ _, RowV.grow bX (.new hX _), oX, vX, fun k hk => ?_⟩
    obtain ⟨cs, w, q, e, hq⟩ := cutX k hk
    exact ⟨cs, w, q, (get_new_ne (by have := (oX k hk).1; omega)).trans e, hq⟩
  rw [← e1, ← ep]
  clear e1 ep bX oX vX cutX gX
  refine (qbytes_ok _ p _ h1 x1).mono ?_
  rintro u h2 ⟨x2, b2, hw2, _⟩
  simp (maxSteps := 10000000) (disch := omega) only [vqA, tagOf, reduceIte, reduceCtorEq, reduceEqDiff, reduceAdd, reduceSub, reduceMul, reduceLT, reduceLeDiff, reduceToNat, Nat.reduceBEq, tqA, text_bytes hw2]
  refine (qnum_ok _ p _ h2 x2).mono ?_
  rintro u h3 ⟨x3, b3, rfl⟩
  simp (maxSteps := 10000000) (disch := omega) only [vqA, tagOf, reduceIte, reduceCtorEq, reduceEqDiff, reduceAdd, reduceSub, reduceMul, reduceLT, reduceLeDiff, reduceToNat, Nat.reduceBEq, tqA]
  have g3 : Grow h0 h3 := g1.but (b2.trans b3) hp
  have hp3 := x3.lt
  have n3 := g3.next
  generalize (numR (bytesR (some b)).2).1 = fr at hR ⊢
  obtain ⟨h5, e5⟩ : ∃ y, y = (h3.new (.cells [.int .i64 0, .int .i64 0, .slice none 0 0] true none)).set h3.next (.cells [.int .i64 fr, .int .i64 0, .slice none 0 0] true none) := ⟨_, rfl⟩
  have g5 : Grow h3 h5 := by rw [e5]; exact (Grow.new h3 _).set (Nat.le_refl _) _
  have n5 : h5.next = h3.next + 1 := by rw [e5]; rfl
  have m5 : h5.get h3.next = some (.cells [.int .i64 fr, .int .i64 0, .slice none 0 0] true none) := by rw [e5, get_set_same]
  rw [← e5]
  have x5 := x3.grow g5 hp
  refine (qnum_ok _ p _ h5 x5).mono ?_
  rintro u h6 ⟨x6, b6, rfl⟩
  have n6 := b6.next
  have m6 : h6.get h3.next = some (.cells [.int .i64 fr, .int .i64 0, .slice none 0 0] true none) := (b6.get _ (by omega) (by omega) (by omega)).trans m5
  simp (maxSteps := 10000000) (disch := omega) only [vqA, tagOf, reduceIte, reduceCtorEq, reduceEqDiff, reduceAdd, reduceSub, reduceMul, reduceLT, reduceLeDiff, reduceToNat, Nat.reduceBEq, tqA, m6]
  generalize (numR (numR (bytesR (some b)).2).2).1 = to at hR ⊢
  have g6 : Grow h0 h6 := (g3.trans g5).but b6 hp
  have x7 : Rdr h0.next (h6.set h3.next (.cells [.int .i64 fr, .int .i64 to, .slice none 0 0] true none)) p _ := x6.keep (Nat.le_refl _) (fun c _ _ _ => get_set_ne (by omega)) hp
  have g7 : Grow h0 (h6.set h3.next (.cells [.int .i64 fr, .int .i64 to, .slice none 0 0] true none)) := g6.set (by omega) _
  have m7 : (h6.set h3.next (.cells [.int .i64 fr, .int .i64 to, .slice none 0 0] true none)).get h3.next = _ := get_set_same _ _ _
  have n7 : (h6.set h3.next (.cells [.int .i64 fr, .int .i64 to, .slice none 0 0] true none)).next = h6.next := rfl
  generalize (h6.set h3.next (.cells [.int .i64 fr, .int .i64 to, .slice none 0 0] true none)) = h7 at *
  refine (qnum_ok _ p _ h7 x7).mono ?_
  rintro u h8 ⟨x8, b8, rfl⟩
  have n8 := b8.next
  have m8 := (b8.get _ (by omega) (by omega) (by omega)).trans m7
  simp (maxSteps := 10000000) (disch := omega) only [vqA, tagOf, reduceIte, reduceCtorEq, reduceEqDiff, reduceAdd, reduceSub, reduceMul, reduceLT, reduceLeDiff, reduceToNat, Nat.reduceBEq, tqA]
  generalize (numR (numR (numR (bytesR (some b)).2).2).2).1 = n at hR ⊢
  have hp8 := x8.lt
  have g8 : Grow h0 h8 := g7.but b8 hp
  generalize hr6 : (numR (numR (numR (bytesR (some b)).2).2).2).2 = r6 at hR x8 lf4
  have hlb : lf (some b) = b.length + 1 := rfl
  obtain ⟨tt, ett⟩ : ∃ tt, tt = strOf (bytesR (some b)).1 := ⟨_, rfl⟩
  rw [← ett]
  refine r_loop (k := lf r6) (fun k ρ h' => ∃ (recs : List Rec) (items : List (Rec × Value)) (w : Value) (r : Rd), lf r = k ∧ items.map (·.1) = recs ∧ Rdn b fr to n recs r ∧ recs.length + lf r ≤ b.length + 1 ∧
    (∀ q ∈ items, BRow h' q.2 q.1.data ∧ ∀ c, blkOf q.2 = some c → h0.next ≤ c ∧ c ≠ p ∧ c ≠ h3.next ∧ blkOf w ≠ some c ∧ c < h'.next) ∧ Own h0 h' 4 Tm_ w (items.flatMap recC) ∧ (∀ c, blkOf w = some c → h3.next < c) ∧
    ρ 0 = .slice av b.length cv ∧ ρ 2 = .pointer (some ⟨h.next, 0, none⟩) ∧ ρ 4 = .pointer (some ⟨p, 0, none⟩) ∧ ρ 5 = .string tt ∧ ρ 6 = .pointer (some ⟨h3.next, 0, none⟩) ∧ ρ 7 = .int .i64 n ∧ ρ 8 = .int .i64 recs.length ∧
    h'.get h3.next = some (.cells [.int .i64 fr, .int .i64 to, w] true none) ∧ Rdr h0.next h' p r ∧ Grow h0 h' ∧ h3.next < h'.next) ?_ ?_
  · rintro k ρ h' ⟨recs, items, w, r, hk, hit, hR, hlen, hib, how, hbw, r0, r2, r4, r5, r6, r7, r8, mq, xr, gr, hnx⟩
    unfold GZ_
    have hil : items.length = recs.length := by rw [← hit, List.length_map]
    obtain ⟨aw, hew⟩ : ∃ a, w = .slice a recs.length recs.length := by
      rcases how with ⟨rfl, e⟩ | ⟨b9, n9, rfl, hn9, hz9, _⟩
      · have : items.length = 0 := by
          have := congrArg List.length e
          rw [flat_len (fun p _ => recC_len p), List.length_nil] at this
          omega
        exact ⟨none, by rw [show recs.length = 0 by omega]⟩
      · rw [flat_len (fun p _ => recC_len p)] at hz9
        exact ⟨_, by rw [show recs.length = n9 by omega]⟩
    subst hew
    obtain ⟨ab, cb, hbad⟩ := xr.bad
    by_cases hc : (recs.length : Int) < n ∧ r.isNone = false
    · obtain ⟨c1, c2⟩ := hc
      have c3 : 0 < lf r := by cases r with
        | none => cases c2
        | some l => exact Nat.succ_pos _
      have hxp := xr.lt
      have fin : ∀ (x : Rec) (dw : Value) (r' : Rd) (hA : Heap), recR r = (x, r') → But p p h' hA → hA.get h3.next = some (.cells [.int .i64 fr, .int .i64 to, .slice aw recs.length recs.length] true none) → BRow hA dw x.data → (∀ c, blkOf dw = some c → h'.next ≤ c) → Rdr h0.next hA p r' →
          ∃ a2 n2 c2 h2, appendV E To_ (some To_) (.slice aw recs.length recs.length) (.slice (some ⟨hA.next, 0, none⟩) 1 1) (hA.new (.cells [.int .i64 x.at_, .int .i64 x.len, .bool x.zero, dw] true none)) = some (.slice a2 n2 c2, h2) ∧ h2.get h3.next = some (.cells [.int .i64 fr, .int .i64 to, .slice aw recs.length recs.length] true none) ∧
          ∃ k' < k, ∃ (recs' : List Rec) (items : List (Rec × Value)) (w : Value) (r : Rd), lf r = k' ∧ items.map (·.1) = recs' ∧ Rdn b fr to n recs' r ∧ recs'.length + lf r ≤ b.length + 1 ∧
          (∀ q ∈ items, BRow (h2.set h3.next (.cells [.int .i64 fr, .int .i64 to, .slice a2 n2 c2] true none)) q.2 q.1.data ∧ ∀ c, blkOf q.2 = some c → h0.next ≤ c ∧ c ≠ p ∧ c ≠ h3.next ∧ blkOf w ≠ some c ∧ c < h2.next) ∧ Own h0 (h2.set h3.next (.cells [.int .i64 fr, .int .i64 to, .slice a2 n2 c2] true none)) 4 Tm_ w (items.flatMap recC) ∧ (∀ c, blkOf w = some c → h3.next < c) ∧
          (recs.length : Int) + 1 = recs'.length ∧ .slice a2 n2 c2 = w ∧ Rdr h0.next (h2.set h3.next (.cells [.int .i64 fr, .int .i64 to, .slice a2 n2 c2] true none)) p r ∧ Grow h0 (h2.set h3.next (.cells [.int .i64 fr, .int .i64 to, .slice a2 n2 c2] true none)) ∧ h3.next < h2.next := by
        intro x dw r' hA hrx bA mA hdw hdb xA
        have nA := bA.next
        have gA : Grow h0 hA := gr.but bA hp
        have owA : Own h0 hA 4 Tm_ (.slice aw recs.length recs.length) (items.flatMap recC) := how.keep nA fun c hc => bA.get c (how.lt hc).2 (by have := hbw c hc; omega) (by have := hbw c hc; omega)
        have o1 := hdw.one
        obtain ⟨w2, h2, happ, ow2, g2, hn2, hbk, hkeep⟩ := own_app Sb_ okSrc_plain (h := hA.new (.cells [.int .i64 x.at_, .int .i64 x.len, .bool x.zero, dw] true none))
          (owA.grow (.new hA _)) (gA.more _) (b2 := hA.next) (o2 := 0) (n := 1) (c2 := 1) (new := [.int .i64 x.at_, .int .i64 x.len, .bool x.zero, dw]) (by simp (maxSteps := 10000000) (disch := omega) only [vqA, tagOf, reduceIte, reduceCtorEq, reduceEqDiff, reduceAdd, reduceSub, reduceMul, reduceLT, reduceLeDiff, reduceToNat, Nat.reduceBEq, tqA]) (by omega) (by simp (maxSteps := 10000000) (disch := omega) only [vqA, tagOf, reduceIte, reduceCtorEq, reduceEqDiff, reduceAdd, reduceSub, reduceMul, reduceLT, reduceLeDiff, reduceToNat, Nat.reduceBEq, tqA, o1]) (by rw [flat_len (fun p _ => recC_len p)]; simp; omega) (by decide)
        obtain ⟨a2, n2, c2, rfl, _⟩ := ow2.row.is
        have hn2 : h2.next = hA.next + 2 := hn2
        have hbk : blkOf (.slice a2 n2 c2) = some (hA.next + 1) := hbk
        have hkeep : ∀ c, c < hA.next → blkOf (.slice aw recs.length recs.length) ≠ some c → h2.get c = hA.get c := fun c hc hne => (hkeep c (Nat.lt_succ_of_lt hc) hne).trans (get_new_ne (by omega))
        have hk4 : ∀ c, c ≤ h3.next → h2.get c = hA.get c := fun c hc => hkeep c (by omega) fun e => by have := hbw c e; omega
        refine ⟨a2, n2, c2, h2, happ, (hk4 _ (Nat.le_refl _)).trans mA, lf r', ?_, recs ++ [x], items ++ [(x, dw)], _, r', rfl, by rw [List.map_append, hit]; rfl, ?_, ?_, fun q hq => ?_, ?_, fun c hc => by rw [hbk] at hc; have := Option.some.inj hc; omega, by rw [List.length_append]; rfl, rfl, ?_, ?_, by omega⟩
        · have := recR_lf r
          rw [hrx] at this
          have : lf r' ≤ lf r - 1 := this
          omega
        · have := hR.step c1
          rw [hrx] at this
          exact this
        · have := recR_lf r
          rw [hrx] at this
          have : lf r' ≤ lf r - 1 := this
          rw [List.length_append, List.length_singleton]
          omega
        · rcases List.mem_append.1 hq with hq | hq
          · obtain ⟨q1, q2⟩ := hib q hq
            refine ⟨RowV.keep q1 (by show h'.next ≤ h2.next; omega) fun c hc hlt => ?_, fun c hc => ?_⟩
            · obtain ⟨s1, s2, s3, s4, s5⟩ := q2 c hc
              rw [get_set_ne (by omega), hkeep c (by omega) s4, bA.get c (by omega) (by omega) (by omega)]
            · obtain ⟨s1, s2, s3, s4, s5⟩ := q2 c hc
              exact ⟨s1, s2, s3, by rw [hbk]; intro e; have := Option.some.inj e; omega, by omega⟩
          · rw [List.mem_singleton] at hq
            subst hq
            have hin : ∀ c, blkOf dw = some c → c < hA.next := fun c hc => BRow.within hdw hc (by have := hdb c hc; omega)
            refine ⟨RowV.keep hdw (by show hA.next ≤ h2.next; omega) fun c hc hlt => ?_, fun c hc => ?_⟩
            · have := hdb c hc
              rw [get_set_ne (by omega), hkeep c (by omega) fun e => by have := (how.lt e).2; omega]
            · have := hdb c hc
              have := hin c hc
              exact ⟨by omega, by omega, by omega, by rw [hbk]; intro e; have := Option.some.inj e; omega, by omega⟩
        · rw [List.flatMap_append]
          refine Own.keep ow2 (Nat.le_refl _) fun c hc => get_set_ne fun e => ?_
          rw [hbk] at hc
          have := Option.some.inj hc
          omega
        · refine xA.keep (by show hA.next ≤ h2.next; omega) (fun c _ hcp hlt => ?_) hp
          rw [get_set_ne (by omega), hk4 c (by omega)]
        · exact ⟨by show h0.next ≤ h2.next; omega, fun c hc => by rw [get_set_ne (by omega), hk4 c (by omega), gA.get c hc]⟩
      have hbad : h'.get p = some (.cells [.slice ab (lf r - 1) cb, .bool false] true none) := by rw [hbad, c2]
      simp (maxSteps := 10000000) (disch := omega) only [vqA, tagOf, reduceIte, reduceCtorEq, reduceEqDiff, reduceAdd, reduceSub, reduceMul, reduceLT, reduceLeDiff, reduceToNat, Nat.reduceBEq, tqA, r0, r2, r4, r5, r6, r7, r8, mq, hbad]
      refine (qnum_ok _ p _ h' xr).mono ?_
      rintro u k1 ⟨y1, d1, rfl⟩
      have f1 := d1.next
      simp (maxSteps := 10000000) (disch := omega) only [vqA, tagOf, reduceIte, reduceCtorEq, reduceEqDiff, reduceAdd, reduceSub, reduceMul, reduceLT, reduceLeDiff, reduceToNat, Nat.reduceBEq, tqA, r0, r2, r4, r5, r6, r7, r8]
      have hrr : recR r = if (flagR (numR (numR r).2).2).1 = true then (⟨(numR r).1, (numR (numR r).2).1, true, []⟩, (flagR (numR (numR r).2).2).2)
        else (⟨(numR r).1, (numR (numR r).2).1, false, (bytesR (flagR (numR (numR r).2).2).2).1⟩, (bytesR (flagR (numR (numR r).2).2).2).2) := rfl
      generalize (numR r).1 = ra at hrr ⊢
      obtain ⟨q1, eq1⟩ : ∃ y, y = (k1.new (.cells [.int .i64 0, .int .i64 0, .bool false, .slice none 0 0] true none)).set k1.next (.cells [.int .i64 ra, .int .i64 0, .bool false, .slice none 0 0] true none) := ⟨_, rfl⟩
      have gq1 : Grow k1 q1 := by rw [eq1]; exact (Grow.new k1 _).set (Nat.le_refl _) _
      have nq1 : q1.next = k1.next + 1 := by rw [eq1]; rfl
      have mq1 : q1.get k1.next = some (.cells [.int .i64 ra, .int .i64 0, .bool false, .slice none 0 0] true none) := by rw [eq1, get_set_same]
      rw [← eq1]
      have dq1 : But p p h' q1 := d1.trans (.of gq1)
      refine (qnum_ok _ p _ q1 (y1.grow gq1 hp)).mono ?_
      rintro u k2 ⟨y2, d2, rfl⟩
      have f2 := d2.next
      have m2 := (d2.get _ (by omega) (by omega) (by omega)).trans mq1
      simp (maxSteps := 10000000) (disch := omega) only [vqA, tagOf, reduceIte, reduceCtorEq, reduceEqDiff, reduceAdd, reduceSub, reduceMul, reduceLT, reduceLeDiff, reduceToNat, Nat.reduceBEq, tqA, r0, r2, r4, r5, r6, r7, r8, m2]
      generalize (numR (numR r).2).1 = rl at hrr ⊢
      have hset : ∀ (k : Heap) (r : Rd) (x : Blk), Rdr h0.next k p r → Rdr h0.next (k.set k1.next x) p r := fun k r x y => y.keep (Nat.le_refl _) (fun c _ hcp _ => get_set_ne (by omega)) hp
      have bset : ∀ (k : Heap) (x : Blk), But p p h' k → But p p h' (k.set k1.next x) := fun k x d => ⟨d.next, fun c hc h1 h2 => (get_set_ne (by omega)).trans (d.get c hc h1 h2)⟩
      have y2 := hset _ _ (.cells [.int .i64 ra, .int .i64 rl, .bool false, .slice none 0 0] true none) y2
      have d2 := bset _ (.cells [.int .i64 ra, .int .i64 rl, .bool false, .slice none 0 0] true none) (dq1.trans d2)
      have m2 : (k2.set k1.next (.cells [.int .i64 ra, .int .i64 rl, .bool false, .slice none 0 0] true none)).get k1.next = _ := get_set_same _ _ _
      have f2 : k1.next < (k2.set k1.next (.cells [.int .i64 ra, .int .i64 rl, .bool false, .slice none 0 0] true none)).next := by show k1.next < k2.next; omega
      generalize (k2.set k1.next (.cells [.int .i64 ra, .int .i64 rl, .bool false, .slice none 0 0] true none)) = q2 at *
      refine (qflag_ok _ p _ q2 y2).mono ?_
      rintro u k3 ⟨y3, d3, rfl⟩
      have f3 := d3.next
      have m3 := (d3.get _ f2 (by omega) (by omega)).trans m2
      have d3 := d2.trans d3
      have mk : k3.get h3.next = _ := (d3.get _ (by omega) (by omega) (by omega)).trans mq
      generalize (flagR (numR (numR r).2).2).2 = r3 at y3 hrr
      cases hz : (flagR (numR (numR r).2).2).1 with
      | true =>
        rw [hz, if_pos rfl] at hrr
        obtain ⟨a2, n2, c2, h2, happ, k9, rest⟩ := fin ⟨ra, rl, true, []⟩ (.slice none 0 0) r3 _ hrr (bset _ (.cells [.int .i64 ra, .int .i64 rl, .bool true, .slice none 0 0] true none) d3) ((get_set_ne (by omega)).trans mk) (RowV.nil _ _) (fun c hc => by cases hc) (hset _ _ _ y3)
        rw [show ∀ x, (k3.set k1.next x).next = k3.next from fun _ => rfl] at happ
        simp (maxSteps := 10000000) (disch := omega) only [vqA, tagOf, reduceIte, reduceCtorEq, reduceEqDiff, reduceAdd, reduceSub, reduceMul, reduceLT, reduceLeDiff, reduceToNat, Nat.reduceBEq, tqA, r0, r2, r4, r5, r6, r7, r8, m3, mk]
        rw [happ]
        obtain ⟨k', f1, recs', items', w', r', f2, f3, f4, f5, f6, f7, f8, f9, f10, f11⟩ := rest
        simp (maxSteps := 10000000) (disch := omega) only [vqA, tagOf, reduceIte, reduceCtorEq, reduceEqDiff, reduceAdd, reduceSub, reduceMul, reduceLT, reduceLeDiff, reduceToNat, Nat.reduceBEq, tqA, r0, r2, r4, r5, r6, r7, r8, k9]
        exact ⟨k', f1, recs', items', w', r', f2, f3, f4, f5, f6, f7, f8, by rw [f9], by rw [f10], f11⟩
      | false =>
        rw [hz, if_neg (by decide)] at hrr
        simp (maxSteps := 10000000) (disch := omega) only [vqA, tagOf, reduceIte, reduceCtorEq, reduceEqDiff, reduceAdd, reduceSub, reduceMul, reduceLT, reduceLeDiff, reduceToNat, Nat.reduceBEq, tqA, r0, r2, r4, r5, r6, r7, r8, m3]
        refine (qbytes_ok _ p _ _ (hset _ _ _ y3)).mono ?_
        rintro dw k5 ⟨y5, d5, hdw, odw⟩
        have n5' : k3.next ≤ k5.next := d5.next
        obtain ⟨ad, cd, hde⟩ := hdw.is
        rw [hde] at hdw odw ⊢
        have p5 : k5.get k1.next = some (.cells [.int .i64 ra, .int .i64 rl, .bool false, .slice none 0 0] true none) := (d5.get _ (by show k1.next < k3.next; omega) (by omega) (by omega)).trans (get_set_same _ _ _)
        have m5' : k5.get h3.next = _ := (d5.get _ (by show h3.next < k3.next; omega) (by omega) (by omega)).trans ((get_set_ne (by omega)).trans mk)
        have d7 : But p p h' k5 := (bset _ _ d3).trans d5
        have d9 := d3.next
        have odw : ∀ c, blkOf (.slice ad (bytesR r3).1.length cd) = some c → k3.next ≤ c := odw
        have rS : ∀ x, BRow (k5.set k1.next x) (.slice ad (bytesR r3).1.length cd) (bytesR r3).1 := fun x => RowV.keep hdw (Nat.le_refl _) fun c hc _ => get_set_ne (by have := odw c hc; omega)
        obtain ⟨a2, n2, c2, h2, happ, k9, rest⟩ := fin ⟨ra, rl, false, (bytesR r3).1⟩ (.slice ad (bytesR r3).1.length cd) (bytesR r3).2 _ hrr (bset _ (.cells [.int .i64 ra, .int .i64 rl, .bool false, .slice ad (bytesR r3).1.length cd] true none) d7) ((get_set_ne (by omega)).trans m5') (rS _) (fun c hc => by have := odw c hc; omega) (hset _ _ _ y5)
        rw [show ∀ x, (k5.set k1.next x).next = k5.next from fun _ => rfl] at happ
        simp (maxSteps := 10000000) (disch := omega) only [vqA, tagOf, reduceIte, reduceCtorEq, reduceEqDiff, reduceAdd, reduceSub, reduceMul, reduceLT, reduceLeDiff, reduceToNat, Nat.reduceBEq, tqA, r0, r2, r4, r5, r6, r7, r8, p5, m5']
        rw [happ]
        obtain ⟨k', f1, recs', items', w', r', f2, f3, f4, f5, f6, f7, f8, f9, f10, f11⟩ := rest
        simp (maxSteps := 10000000) (disch := omega) only [vqA, tagOf, reduceIte, reduceCtorEq, reduceEqDiff, reduceAdd, reduceSub, reduceMul, reduceLT, reduceLeDiff, reduceToNat, Nat.reduceBEq, tqA, r0, r2, r4, r5, r6, r7, r8, k9]
        exact ⟨k', f1, recs', items', w', r', f2, f3, f4, f5, f6, f7, f8, by rw [f9], by rw [f10], f11⟩
    · obtain ⟨fl, hbad, hx⟩ : ∃ fl, h'.get p = some (.cells [.slice ab (lf r - 1) cb, .bool fl] true none) ∧ (n ≤ recs.length ∨ (recs.length : Int) < n ∧ fl = true) := by
        refine ⟨_, hbad, ?_⟩
        cases r with
        | none => by_cases q : n ≤ recs.length; exact .inl q; exact .inr ⟨by omega, rfl⟩
        | some l => exact .inl (by have : ¬ ((recs.length : Int) < n) := fun q => hc ⟨q, rfl⟩; omega)
      have hstop := hR.stop (by
        cases r with
        | none => exact .inr rfl
        | some l => exact .inl (by have : ¬ ((recs.length : Int) < n) := fun q => hc ⟨q, rfl⟩; omega))
      have hvr : BRow h0 (.slice av b.length cv) b := hv.grow g0
      have bad : ∀ (H : Heap) (Y : Heap), (∀ d, goodD d = true → putD d ≠ b) → Grow h H → Grow h (H.set h.next (.cells [.int .i64 0, .int .i64 0, .slice none 0 0] true none)) ∧ ∃ x y, (.tuple ⟨[.agg ⟨[.int .i64 0, .int .i64 0, .slice none 0 0]⟩, .bool false]⟩ : Value) = .tuple ⟨[x, y]⟩ ∧ TakeQ b h.next Y x y (.bool true) (.bool false) := fun H Y hn g => ⟨g.set (Nat.le_refl _) _, _, _, rfl, .inr ⟨hn, rfl, rfl⟩⟩
      rw [ett] at r5
      have mh := (gr.get _ (by omega)).trans m0
      rcases hx with c1 | ⟨c1, rfl⟩ <;> (
        cases hTT : T with
        | false =>
          rw [hTT] at eT
          have hT2 := eT.symm
          simp (maxSteps := 10000000) (disch := omega) only [vqA, tagOf, reduceIte, reduceCtorEq, reduceEqDiff, reduceAdd, reduceSub, reduceMul, reduceLT, reduceLeDiff, reduceToNat, Nat.reduceBEq, tqA, r0, r2, r4, r5, r6, r7, r8, mq, hbad, hT2, mh, h_cv]
          refine bad _ _ (fun d hd hb => ?_) (g0.trans gr)
          have := hT d hd hb
          rw [this] at eT
          exact absurd eT (by decide)
        | true =>
          rw [hTT] at eT
          have hT2 := eT.symm
          simp (maxSteps := 10000000) (disch := omega) only [vqA, tagOf, reduceIte, reduceCtorEq, reduceEqDiff, reduceAdd, reduceSub, reduceMul, reduceLT, reduceLeDiff, reduceToNat, Nat.reduceBEq, tqA, r0, r2, r4, r5, r6, r7, r8, mq, hbad, hT2, h_cv, d_cv, s_cv, n_cv]
          refine (qbyte_ok _ p r h' xr).mono ?_
          rintro u k1 ⟨y1, d1, rfl⟩
          have e1 := d1.next
          have mk1 := (d1.get _ hnx (by omega) (by omega)).trans mq
          have gk1 : Grow h0 k1 := gr.but d1 hp
          have mh1 := (gk1.get _ (by omega)).trans m0
          have rk1 : RowV k1 4 (.slice aw recs.length recs.length) (items.flatMap recC) := RowV.keep how.row e1 fun c hc hlt => d1.get c hlt (by have := hbw c hc; omega) (by have := hbw c hc; omega)
          have hib1 : ∀ q ∈ items, BRow k1 q.2 q.1.data := fun q hq => RowV.keep (hib q hq).1 e1 fun c hc hlt => d1.get c hlt (by have := (hib q hq).2 c hc; omega) (by have := (hib q hq).2 c hc; omega)
          have hd1 : DRow k1 (.slice aw recs.length recs.length) recs := drow_of hit rk1 hib1
          obtain ⟨ab1, cb1, hbad1⟩ := y1.bad
          by_cases c69 : (byteR r).1 = 69
          · have ec : (((byteR r).1.toNat : Nat) : Int) = 69 := by rw [c69]; rfl
            cases hE : (byteR r).2 with
            | none =>
              rw [hE, show (none : Rd).isNone = true from rfl] at hbad1
              simp (maxSteps := 10000000) (disch := omega) only [vqA, tagOf, reduceIte, reduceCtorEq, reduceEqDiff, reduceAdd, reduceSub, reduceMul, reduceLT, reduceLeDiff, reduceToNat, Nat.reduceBEq, tqA, r0, r2, r4, r5, r6, r7, r8, mk1, hbad1, ec, mh1, h_cv, d_cv, s_cv, n_cv]
              exact bad _ _ (fun d hd hb => by have := (hstop d hd hb).2; rw [this] at hE; cases hE) (g0.trans gk1)
            | some l =>
              rw [hE, show (some l : Rd).isNone = false from rfl, show lf (some l) - 1 = l.length from rfl] at hbad1
              cases l with
              | cons c l =>
                have hpos : 0 < (c :: l).length := by simp
                generalize (c :: l).length = L at hbad1 hpos
                simp (maxSteps := 10000000) (disch := omega) only [vqA, tagOf, reduceIte, reduceCtorEq, reduceEqDiff, reduceAdd, reduceSub, reduceMul, reduceLT, reduceLeDiff, reduceToNat, Nat.reduceBEq, tqA, r0, r2, r4, r5, r6, r7, r8, mk1, hbad1, ec, mh1, h_cv, d_cv, s_cv, n_cv]
                exact bad _ _ (fun d hd hb => by have := (hstop d hd hb).2; rw [this] at hE; cases hE) (g0.trans gk1)
              | nil =>
                rw [List.length_nil] at hbad1
                have go := fun Q => (refGood_ok ⟨fr, to, recs⟩ _ k1 hd1 (by show recs.length ≤ 100000000; omega)).mono (Q' := Q)
                simp (maxSteps := 10000000) (disch := omega) only [vqA, tagOf, reduceIte, reduceCtorEq, reduceEqDiff, reduceAdd, reduceSub, reduceMul, reduceLT, reduceLeDiff, reduceToNat, Nat.reduceBEq, tqA, r0, r2, r4, r5, r6, r7, r8, mk1, hbad1, ec, h_cv, d_cv, s_cv, n_cv]
                refine go _ ?_
                rintro u k2 ⟨g2, rfl⟩
                have gk2 := gk1.trans g2
                have e2 := g2.next
                have mk2 := (g2.get _ (by omega)).trans mk1
                have mh2 := (gk2.get _ (by omega)).trans m0
                cases hg : goodD ⟨fr, to, recs⟩ with
                | false =>
                  simp (maxSteps := 10000000) (disch := omega) only [vqA, tagOf, reduceIte, reduceCtorEq, reduceEqDiff, reduceAdd, reduceSub, reduceMul, reduceLT, reduceLeDiff, reduceToNat, Nat.reduceBEq, tqA, r0, r2, r4, r5, r6, r7, r8, mk1, mk2, mh2, hbad1, h_cv, d_cv, s_cv, n_cv]
                  exact bad _ _ (fun d hd hb => by rw [(hstop d hd hb).1, hg] at hd; cases hd) (g0.trans gk2)
                | true =>
                  have pu := fun Q => (refPut_ok ⟨fr, to, recs⟩ _ k2 (hd1.grow g2) (by show recs.length ≤ 100000000; omega) hg).mono (Q' := Q)
                  simp (maxSteps := 10000000) (disch := omega) only [vqA, tagOf, reduceIte, reduceCtorEq, reduceEqDiff, reduceAdd, reduceSub, reduceMul, reduceLT, reduceLeDiff, reduceToNat, Nat.reduceBEq, tqA, r0, r2, r4, r5, r6, r7, r8, mk1, mk2, hbad1, h_cv, d_cv, s_cv, n_cv]
                  refine pu _ ?_
                  rintro u k3 ⟨g3, hrow⟩
                  have gk3 := gk2.trans g3
                  have mk3 := (g3.get _ (by omega)).trans mk2
                  have mh3 := (gk3.get _ (by omega)).trans m0
                  have hpr : BRow k3 u (putD ⟨fr, to, recs⟩) := hrow.row
                  have cu := r_cv hpr
                  have cv2 := r_cv (hvr.grow gk2)
                  have cv3 := r_cv (hvr.grow gk3)
                  obtain ⟨au, cu', eu⟩ := hpr.is
                  rw [eu] at cu ⊢
                  by_cases hpb : putD ⟨fr, to, recs⟩ = b
                  · have hq := beq_iff_eq.2 hpb
                    simp (maxSteps := 10000000) (disch := omega) only [vqA, tagOf, reduceIte, reduceCtorEq, reduceEqDiff, reduceAdd, reduceSub, reduceMul, reduceLT, reduceLeDiff, reduceToNat, Nat.reduceBEq, tqA, r0, r2, r4, r5, r6, r7, r8, mk1, mk2, mk3, mh3, hbad1, cu, cv2, cv3, hq, h_cv, d_cv, s_cv, n_cv]
                    have hnew : DNew h0.next k3 (.slice aw recs.length recs.length) recs := ⟨items, hit, (rk1.grow g2).grow g3, fun c hc => (how.lt hc).1, fun q hq => ⟨((hib1 q hq).grow g2).grow g3, fun c hc => ((hib q hq).2 c hc).1⟩⟩
                    exact ⟨(g0.trans gk3).set (Nat.le_refl _) _, _, _, rfl, .inl ⟨⟨fr, to, recs⟩, _, hg, hpb, rfl, rfl, DNew.le (DNew.set hnew (c := h.next) (by omega) _) (by omega)⟩⟩
                  · have hq := beq_eq_false_iff_ne.2 hpb
                    simp (maxSteps := 10000000) (disch := omega) only [vqA, tagOf, reduceIte, reduceCtorEq, reduceEqDiff, reduceAdd, reduceSub, reduceMul, reduceLT, reduceLeDiff, reduceToNat, Nat.reduceBEq, tqA, r0, r2, r4, r5, r6, r7, r8, mk1, mk2, mk3, mh3, hbad1, cu, cv2, cv3, hq, h_cv, d_cv, s_cv, n_cv]
                    exact bad _ _ (fun d hd hb => hpb (by rw [← (hstop d hd hb).1]; exact hb)) (g0.trans gk3)
          · have ec : ¬ (((byteR r).1.toNat : Nat) : Int) = 69 := fun q => c69 (UInt8.toNat_inj.1 (by rw [show (69 : UInt8).toNat = 69 from rfl]; omega))
            simp (maxSteps := 10000000) (disch := omega) only [vqA, tagOf, reduceIte, reduceCtorEq, reduceEqDiff, reduceAdd, reduceSub, reduceMul, reduceLT, reduceLeDiff, reduceToNat, Nat.reduceBEq, tqA, r0, r2, r4, r5, r6, r7, r8, mk1, ec, mh1, h_cv, d_cv, s_cv, n_cv]
            exact bad _ _ (fun d hd hb => c69 (by rw [(hstop d hd hb).2])) (g0.trans gk1))
  · exact ⟨[], [], .slice none 0 0, r6, rfl, rfl, hR, by simp only [List.length_nil]; omega, (fun _ h => nomatch h), .nil _ _ _ _, (fun c hc => by cases hc), by simp (maxSteps := 10000000) (disch := omega) only [vqA, tagOf, reduceIte, reduceCtorEq, reduceEqDiff, reduceAdd, reduceSub, reduceMul, reduceLT, reduceLeDiff, reduceToNat, Nat.reduceBEq, tqA], by simp (maxSteps := 10000000) (disch := omega) only [vqA, tagOf, reduceIte, reduceCtorEq, reduceEqDiff, reduceAdd, reduceSub, reduceMul, reduceLT, reduceLeDiff, reduceToNat, Nat.reduceBEq, tqA], by simp (maxSteps := 10000000) (disch := omega) only [vqA, tagOf, reduceIte, reduceCtorEq, reduceEqDiff, reduceAdd, reduceSub, reduceMul, reduceLT, reduceLeDiff, reduceToNat, Nat.reduceBEq, tqA], by simp (maxSteps := 10000000) (disch := omega) only [vqA, tagOf, reduceIte, reduceCtorEq, reduceEqDiff, reduceAdd, reduceSub, reduceMul, reduceLT, reduceLeDiff, reduceToNat, Nat.reduceBEq, tqA], by simp (maxSteps := 10000000) (disch := omega) only [vqA, tagOf, reduceIte, reduceCtorEq, reduceEqDiff, reduceAdd, reduceSub, reduceMul, reduceLT, reduceLeDiff, reduceToNat, Nat.reduceBEq, tqA], by simp (maxSteps := 10000000) (disch := omega) only [vqA, tagOf, reduceIte, reduceCtorEq, reduceEqDiff, reduceAdd, reduceSub, reduceMul, reduceLT, reduceLeDiff, reduceToNat, Nat.reduceBEq, tqA], by simp (maxSteps := 10000000) (disch := omega) only [vqA, tagOf, reduceIte, reduceCtorEq, reduceEqDiff, reduceAdd, reduceSub, reduceMul, reduceLT, reduceLeDiff, reduceToNat, Nat.reduceBEq, tqA]; rfl, m8, x8, g8, by omega⟩
end Go.Proofs.Ytdmakachnphddaa.C
