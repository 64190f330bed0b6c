/- B9m: the document's Merge. -/
import Derived.Test.YthkpbhdljbdliaaB9r
import Derived.Test.YthkpbhdljbdliaaB7
open Go Go.Vi Go.Bm
namespace Go.Proofs.Ythkpbhdljbdliaa.C
set_option linter.unusedSimpArgs false
set_option maxRecDepth 100000
set_option maxHeartbeats 40000000
structure Gat (h0 h : Heap) (po : Nat) (fr to : Int) (rw w : Value) (row : List UInt8) (items : List (Rec × Value)) : Prop where
  or_ : Own h0 h 1 t_uint8 rw (row.map byteV)
  ow : Own h0 h 4 t_laminaref17_Record w (items.flatMap recC)
  p : h.get po = some (.cells [.int .i64 fr, .int .i64 to, w] true none)
  it : ∀ p ∈ items, BRow h p.2 p.1.data ∧ ∀ b, blkOf p.2 = some b → blkOf w ≠ some b ∧ blkOf rw ≠ some b ∧ b ≠ po ∧ h0.next ≤ b ∧ b < h.next
  ne : ∀ b, blkOf rw = some b → blkOf w ≠ some b ∧ b ≠ po
  nw : blkOf w ≠ some po
  lt : h0.next ≤ po ∧ po < h.next
  g : Grow h0 h
theorem Gat.grow {h0 h h' : Heap} {po : Nat} {fr to : Int} {rw w : Value} {row : List UInt8} {items : List (Rec × Value)} (x : Gat h0 h po fr to rw w row items) (g : Grow h h') : Gat h0 h' po fr to rw w row items := by
  have := g.next
  have := x.lt
  exact ⟨x.or_.grow g, x.ow.grow g, (g.get _ x.lt.2).trans x.p, fun p hp => ⟨(x.it p hp).1.grow g, fun b hb => by obtain ⟨q1, q2, q3, q4, q5⟩ := (x.it p hp).2 b hb; exact ⟨q1, q2, q3, q4, by omega⟩⟩, x.ne, x.nw, by omega, x.g.trans g⟩
theorem Gat.push {h0 h : Heap} {po : Nat} {fr to : Int} {rw w : Value} {row : List UInt8} {items : List (Rec × Value)} (x : Gat h0 h po fr to rw w row items) (c : UInt8) (hl : row.length ≤ 100000) :
    ∃ rw' h', appendV E t_s_uint8 (some t_s_uint8) rw (.slice (some ⟨h.next, 0, none⟩) 1 1) (h.new (.cells [.int .u8 c.toNat] true none)) = some (rw', h') ∧ Gat h0 h' po fr to rw' w (row ++ [c]) items := by
  obtain ⟨rw2, h2, happ, ow2, g2, hn2, hbk, hkeep⟩ := own_app sl_s_uint8 okSrc_bytes (h := h.new (.cells [.int .u8 c.toNat] true none)) (x.or_.grow (.new h _)) (x.g.more _) (b2 := h.next) (o2 := 0) (n := 1) (c2 := 1) (new := [byteV c]) (by simp (maxSteps := 10000000) (disch := omega) only [vq0, vq1, vq2, vq3, vq4, vq5, tagOf, reduceIte, reduceCtorEq, Nat.reduceEqDiff, Nat.reduceAdd, Nat.reduceSub, Nat.reduceMul, Nat.reduceLT, Nat.reduceLeDiff, Int.reduceToNat, Nat.reduceBEq, tq1, tq2, tq3]; rfl) (by omega) rfl (by simp; omega) (by decide)
  have hn2 : h2.next = h.next + 1 + 1 := hn2
  have hbk : blkOf rw2 = some (h.next + 1) := hbk
  have hk : ∀ b, b < h.next → blkOf rw ≠ some b → h2.get b = h.get b := fun b hb hne => by rw [hkeep b (Nat.lt_succ_of_lt hb) hne, get_new_ne (by omega)]
  obtain ⟨l1, l2⟩ := x.lt
  refine ⟨rw2, h2, happ, by rw [List.map_append]; exact ow2, x.ow.keep (by omega) fun b hb => hk b (x.ow.lt hb).2 fun e => (x.ne b e).1 hb, (hk po l2 fun e => (x.ne po e).2 rfl).trans x.p, fun p hp => ⟨RowV.keep (x.it p hp).1 (by omega) fun b hb hlt => hk b hlt ((x.it p hp).2 b hb).2.1, fun b hb => ?_⟩, fun b hb => ?_, x.nw, ⟨l1, by omega⟩, g2⟩
  · obtain ⟨q1, q2, q3, q4, q5⟩ := (x.it p hp).2 b hb
    exact ⟨q1, fun e => by rw [hbk] at e; have := Option.some.inj e; omega, q3, q4, by omega⟩
  · rw [hbk] at hb
    have := Option.some.inj hb
    exact ⟨fun e => by have := (x.ow.lt e).2; omega, by omega⟩
theorem zero_take (row : List UInt8) (j : Nat) (c : UInt8) (h : row[j]? = some c) : ((row.take (j + 1)).all fun x => x == 0) = (((row.take j).all fun x => x == 0) && (c == 0)) := by
  rw [List.take_add_one, h, List.all_append]
  simp
theorem mT_ok (h0 h : Heap) (ρ : Fr) (po i : Nat) (fr to : Int) (rw w : Value) (row : List UInt8) (items : List (Rec × Value)) (x : Gat h0 h po fr to rw w row items) (hr : row.length ≤ i) (hi : i ≤ 4096) (hil : items.length ≤ 5000)
    (r5 : ρ 5 = .pointer (some ⟨po, 0, none⟩)) (r6 : ρ 6 = rw) (r7 : ρ 7 = .int .i64 (i : Int)) :
    R E mT ρ h (fun y ρ' h' => y = .normal ∧ ρ' 2 = ρ 2 ∧ ρ' 3 = ρ 3 ∧ ρ' 4 = ρ 4 ∧ ρ' 5 = ρ 5 ∧ ρ' 7 = ρ 7 ∧ ∃ w' items', ρ' 6 = .slice none 0 0 ∧ Gat h0 h' po fr to (.slice none 0 0) w' [] items' ∧ items'.map (·.1) = items.map (·.1) ++ if row = [] then [] else [mkRec (i - row.length) row]) := by
  unfold mT
  obtain ⟨a, c, hrw⟩ := BRow.is (l := row) x.or_.row
  by_cases hrow : row = []
  · have hnil : rw = .slice none 0 0 := by
      rcases x.or_ with ⟨e, _⟩ | ⟨b, n, e, hn, hl, _⟩
      · exact e
      · rw [hrow] at hl; simp at hl; omega
    subst hnil
    have hx := x
    rw [hrow] at hx
    simp (maxSteps := 10000000) (disch := omega) only [vq0, vq1, vq2, vq3, vq4, vq5, tagOf, reduceIte, reduceCtorEq, Nat.reduceEqDiff, Nat.reduceAdd, Nat.reduceSub, Nat.reduceMul, Nat.reduceLT, Nat.reduceLeDiff, Int.reduceToNat, Nat.reduceBEq, tq1, tq2, tq3, r5, r6, r7, hrow]
    exact ⟨w, items, hx, rfl⟩
  · rw [if_neg hrow]
    have hpos : 0 < row.length := List.length_pos_iff.2 hrow
    subst hrw
    have hal : Own h0 h 1 t_uint8 (.slice a row.length c) (row.map byteV) := x.or_
    have hbr : BRow h (.slice a row.length c) row := x.or_.row
    obtain ⟨bR, oR, cR, eR, hbR, hel⟩ := hbr.elems hrow
    cases eR
    obtain ⟨A, hA⟩ : ∃ A : Nat, (i : Int) - (row.length : Int) = (A : Int) := ⟨i - row.length, by omega⟩
    have hAi : A = i - row.length := by omega
    have hxp := x.p
    simp (maxSteps := 10000000) (disch := omega) only [vq0, vq1, vq2, vq3, vq4, vq5, tagOf, reduceIte, reduceCtorEq, Nat.reduceEqDiff, Nat.reduceAdd, Nat.reduceSub, Nat.reduceMul, Nat.reduceLT, Nat.reduceLeDiff, Int.reduceToNat, Nat.reduceBEq, tq1, tq2, tq3, r5, r6, r7, hA]
    have fin2 : ∀ (zr : Bool) (dv : Value) (data : List UInt8) (h2 : Heap), mkRec A row = ⟨A, row.length, zr, data⟩ → Grow h h2 → BRow h2 dv data → oneCell dv = true → (∀ b, blkOf dv = some b → bR = b) →
        ∃ aw nw cw h3, appendV E t_s_laminaref17_Record (some t_s_laminaref17_Record) w (.slice (some ⟨h2.next, 0, none⟩) 1 1) (h2.new (.cells [.int .i64 (A : Int), .int .i64 row.length, .bool zr, dv] true none)) = some (.slice aw nw cw, h3) ∧ h3.get po = some (.cells [.int .i64 fr, .int .i64 to, w] true none) ∧
          Gat h0 (h3.set po (.cells [.int .i64 fr, .int .i64 to, .slice aw nw cw] true none)) po fr to (.slice none 0 0) (.slice aw nw cw) [] (items ++ [(mkRec A row, dv)]) := by
      intro zr dv data h2 hm g2 hdv hone hdb
      obtain ⟨w2, h3, happ, ow2, g3, hn3, hbk, hkeep⟩ := own_app sl_s_laminaref17_Record okSrc_plain (h := h2.new (.cells [.int .i64 (A : Int), .int .i64 row.length, .bool zr, dv] true none)) (x.ow.grow (g2.trans (.new h2 _))) ((x.g.trans g2).more _) (b2 := h2.next) (o2 := 0) (n := 1) (c2 := 1) (new := [.int .i64 (A : Int), .int .i64 row.length, .bool zr, dv])
        (by simp (maxSteps := 10000000) (disch := omega) only [vq0, vq1, vq2, vq3, vq4, vq5, tagOf, reduceIte, reduceCtorEq, Nat.reduceEqDiff, Nat.reduceAdd, Nat.reduceSub, Nat.reduceMul, Nat.reduceLT, Nat.reduceLeDiff, Int.reduceToNat, Nat.reduceBEq, tq1, tq2, tq3]) (by omega) (by simp (maxSteps := 10000000) (disch := omega) only [vq0, vq1, vq2, vq3, vq4, vq5, tagOf, reduceIte, reduceCtorEq, Nat.reduceEqDiff, Nat.reduceAdd, Nat.reduceSub, Nat.reduceMul, Nat.reduceLT, Nat.reduceLeDiff, Int.reduceToNat, Nat.reduceBEq, tq1, tq2, tq3, hone]) (by rw [flat_len (fun p _ => recC_len p)]; simp; omega) (by decide)
      have hn3 : h3.next = h2.next + 1 + 1 := hn3
      have hbk : blkOf w2 = some (h2.next + 1) := hbk
      have hn2 := g2.next
      obtain ⟨l1, l2⟩ := x.lt
      have hk : ∀ b, b < h.next → blkOf w ≠ some b → h3.get b = h.get b := fun b hb hne => by rw [hkeep b (Nat.lt_succ_of_lt (Nat.lt_of_lt_of_le hb hn2)) hne, get_new_ne (by omega), g2.get b hb]
      obtain ⟨aw, nw, cw, rfl, _⟩ := ow2.row.is
      refine ⟨aw, nw, cw, h3, happ, (hk po l2 x.nw).trans x.p, .nil _ _ _ _, ?_, get_set_same _ _ _, fun p hp => ?_, (fun b hb => by cases hb), (fun e => by rw [hbk] at e; have := Option.some.inj e; omega), ⟨l1, by show po < h3.next; omega⟩, g3.set l1 _⟩
      · rw [List.flatMap_append]
        refine Own.keep (h := h3) ?_ (Nat.le_refl _) fun b hb => get_set_ne fun e => ?_
        · rw [hm]; exact ow2
        · rw [hbk] at hb
          have := Option.some.inj hb
          omega
      · rcases List.mem_append.1 hp with hp | hp
        · obtain ⟨q0, q1⟩ := x.it p hp
          refine ⟨RowV.keep q0 (by show h.next ≤ h3.next; omega) fun b hb hlt => by rw [get_set_ne (q1 b hb).2.2.1, hk b hlt (q1 b hb).1], fun b hb => ⟨fun e => ?_, (fun e => by cases e), (q1 b hb).2.2.1, (q1 b hb).2.2.2.1, by have := (q1 b hb).2.2.2.2; show b < h3.next; omega⟩⟩
          rw [hbk] at e
          have := Option.some.inj e
          have := (q1 b hb).2.2.2.2
          omega
        · rw [List.mem_singleton] at hp
          subst hp
          have hne := x.ne bR rfl
          have hR0 := (hal.lt (b := bR) rfl).1
          refine ⟨?_, fun b hb => ?_⟩
          · rw [hm]
            exact RowV.keep hdv (by show h2.next ≤ h3.next; omega) fun b hb _ => by
              have := hdb b hb
              subst this
              rw [get_set_ne hne.2, hkeep bR (by show bR < h2.next + 1; omega) hne.1, get_new_ne (by omega)]
          · have := hdb b hb
            subst this
            exact ⟨(fun e => by rw [hbk] at e; have := Option.some.inj e; omega), (fun e => by cases e), hne.2, hR0, by show bR < h3.next; omega⟩
    refine r_loop (k := row.length) (fun k ρ1 h1 => ∃ (j : Nat), j + k = row.length ∧ ρ1 2 = ρ 2 ∧ ρ1 3 = ρ 3 ∧ ρ1 4 = ρ 4 ∧ ρ1 5 = ρ 5 ∧ ρ1 7 = ρ 7 ∧ ρ1 6 = .slice (some ⟨bR, oR, none⟩) row.length c ∧ ρ1 10 = .pointer (some ⟨h.next, 0, none⟩) ∧ ρ1 11 = .int .i64 (j : Int) ∧
      Grow h h1 ∧ h1.next = h.next + 1 ∧ h1.get h.next = some (.cells [.int .i64 (A : Int), .int .i64 row.length, .bool ((row.take j).all fun x => x == 0), .slice none 0 0] true none)) ?_ ?_
    · rintro k ρ1 h1 ⟨j, hk, s2, s3, s4, s5, s7, s6, s10, s11, g1, hn1, hp1⟩
      unfold g_laminaref23_Merge_L0
      rcases Nat.lt_or_ge j row.length with hj | hj
      · have hc := List.getElem?_eq_getElem hj
        have hzt := zero_take row j _ hc
        have he := hel j _ hc
        rw [← g1.get bR hbR] at he
        generalize row[j] = y at hc hzt he
        have fin : ∀ (z : Bool), z = ((row.take (j + 1)).all fun x => x == 0) → ∃ k' < k, ∃ j', j' + k' = row.length ∧ (Value.int .i64 ((j : Int) + 1) = .int .i64 (j' : Int)) ∧ Grow h (h1.set h.next (.cells [.int .i64 (A : Int), .int .i64 row.length, .bool z, .slice none 0 0] true none)) ∧
            some (Blk.cells [.int .i64 (A : Int), .int .i64 row.length, .bool z, .slice none 0 0] true none) = some (Blk.cells [.int .i64 (A : Int), .int .i64 row.length, .bool ((row.take j').all fun x => x == 0), .slice none 0 0] true none) := fun z hz =>
          ⟨k - 1, by omega, j + 1, by omega, rfl, g1.set (Nat.le_refl _) _, by rw [hz]⟩
        cases hz : ((row.take j).all fun x => x == 0) with
        | false =>
          rw [hz] at hp1 hzt
          simp (maxSteps := 10000000) (disch := omega) only [vq0, vq1, vq2, vq3, vq4, vq5, tagOf, reduceIte, reduceCtorEq, Nat.reduceEqDiff, Nat.reduceAdd, Nat.reduceSub, Nat.reduceMul, Nat.reduceLT, Nat.reduceLeDiff, Int.reduceToNat, Nat.reduceBEq, tq1, tq2, tq3, s5, s6, s7, s10, s11, hp1]
          obtain ⟨k', q1, j', q2, q3, q4, q5⟩ := fin false (by rw [hzt]; rfl)
          exact ⟨k', q1, j', q2, s2, s3, s4, q3, q4, hn1, q5⟩
        | true =>
          rw [hz] at hp1 hzt
          rw [Bool.true_and] at hzt
          by_cases hy : y = 0
          · have hy0 : (y.toNat : Int) = 0 := by rw [hy]; rfl
            have hyb : (y == 0) = true := by rw [hy]; rfl
            rw [hy0] at he
            simp (maxSteps := 10000000) (disch := omega) only [vq0, vq1, vq2, vq3, vq4, vq5, tagOf, reduceIte, reduceCtorEq, Nat.reduceEqDiff, Nat.reduceAdd, Nat.reduceSub, Nat.reduceMul, Nat.reduceLT, Nat.reduceLeDiff, Int.reduceToNat, Nat.reduceBEq, tq1, tq2, tq3, s5, s6, s7, s10, s11, hp1, he]
            obtain ⟨k', q1, j', q2, q3, q4, q5⟩ := fin true (by rw [hzt, hyb])
            exact ⟨k', q1, j', q2, s2, s3, s4, q3, q4, hn1, q5⟩
          · have hy0 : y.toNat ≠ 0 := fun q => hy (UInt8.toNat_inj.1 q)
            have hyb : (y == 0) = false := by rw [beq_eq_false_iff_ne]; exact hy
            simp (maxSteps := 10000000) (disch := omega) only [vq0, vq1, vq2, vq3, vq4, vq5, tagOf, reduceIte, reduceCtorEq, Nat.reduceEqDiff, Nat.reduceAdd, Nat.reduceSub, Nat.reduceMul, Nat.reduceLT, Nat.reduceLeDiff, Int.reduceToNat, Nat.reduceBEq, tq1, tq2, tq3, s5, s6, s7, s10, s11, hp1, he]
            obtain ⟨k', q1, j', q2, q3, q4, q5⟩ := fin false (by rw [hzt, hyb])
            exact ⟨k', q1, j', q2, s2, s3, s4, q3, q4, hn1, q5⟩
      · rw [List.take_of_length_le hj] at hp1
        have hany : anyB row = !(row.all fun x => x == 0) := by
          unfold anyB
          rw [List.not_all_eq_any_not]
          rfl
        have hxp1 : h1.get po = _ := (g1.get po x.lt.2).trans hxp
        cases hz : (row.all fun x => x == 0) with
        | false =>
          rw [hz] at hp1 hany
          have hm : mkRec A row = ⟨A, row.length, false, row⟩ := by unfold mkRec; rw [hany]; rfl
          have hlt := x.lt.2
          obtain ⟨aw, nw, cw, h3, happ, hpo, hgat⟩ := fin2 false (.slice (some ⟨bR, oR, none⟩) row.length c) row (h1.set h.next (.cells [.int .i64 (A : Int), .int .i64 row.length, .bool false, .slice (some ⟨bR, oR, none⟩) row.length c] true none)) hm (g1.set (Nat.le_refl _) _) (hbr.grow (g1.set (Nat.le_refl _) _)) rfl (fun b hb => by simpa [blkOf] using hb)
          have e1 : (h1.set h.next (.cells [.int .i64 (A : Int), .int .i64 row.length, .bool false, .slice (some ⟨bR, oR, none⟩) row.length c] true none)).next = h1.next := rfl
          rw [e1] at happ
          simp (maxSteps := 10000000) (disch := omega) only [vq0, vq1, vq2, vq3, vq4, vq5, tagOf, reduceIte, reduceCtorEq, Nat.reduceEqDiff, Nat.reduceAdd, Nat.reduceSub, Nat.reduceMul, Nat.reduceLT, Nat.reduceLeDiff, Int.reduceToNat, Nat.reduceBEq, tq1, tq2, tq3, s5, s6, s7, s10, s11, hp1, r5, hxp1]
          rw [happ]
          simp (maxSteps := 10000000) (disch := omega) only [vq0, vq1, vq2, vq3, vq4, vq5, tagOf, reduceIte, reduceCtorEq, Nat.reduceEqDiff, Nat.reduceAdd, Nat.reduceSub, Nat.reduceMul, Nat.reduceLT, Nat.reduceLeDiff, Int.reduceToNat, Nat.reduceBEq, tq1, tq2, tq3, s5, s6, s7, s10, s11, hpo, r5]
          exact ⟨s2, s3, s4, r7, _, _, hgat, by rw [List.map_append, hAi]; rfl⟩
        | true =>
          rw [hz] at hp1 hany
          have hm : mkRec A row = ⟨A, row.length, true, []⟩ := by unfold mkRec; rw [hany]; rfl
          have hlt := x.lt.2
          obtain ⟨aw, nw, cw, h3, happ, hpo, hgat⟩ := fin2 true (.slice none 0 0) [] h1 hm g1 (RowV.nil _ _) rfl (fun b hb => by cases hb)
          simp (maxSteps := 10000000) (disch := omega) only [vq0, vq1, vq2, vq3, vq4, vq5, tagOf, reduceIte, reduceCtorEq, Nat.reduceEqDiff, Nat.reduceAdd, Nat.reduceSub, Nat.reduceMul, Nat.reduceLT, Nat.reduceLeDiff, Int.reduceToNat, Nat.reduceBEq, tq1, tq2, tq3, s5, s6, s7, s10, s11, hp1, r5, hxp1]
          rw [happ]
          simp (maxSteps := 10000000) (disch := omega) only [vq0, vq1, vq2, vq3, vq4, vq5, tagOf, reduceIte, reduceCtorEq, Nat.reduceEqDiff, Nat.reduceAdd, Nat.reduceSub, Nat.reduceMul, Nat.reduceLT, Nat.reduceLeDiff, Int.reduceToNat, Nat.reduceBEq, tq1, tq2, tq3, s5, s6, s7, s10, s11, hpo, r5]
          exact ⟨s2, s3, s4, r7, _, _, hgat, by rw [List.map_append, hAi]; rfl⟩
    · exact ⟨0, by omega, by simp (maxSteps := 10000000) (disch := omega) only [vq0, vq1, vq2, vq3, vq4, vq5, tagOf, reduceIte, reduceCtorEq, Nat.reduceEqDiff, Nat.reduceAdd, Nat.reduceSub, Nat.reduceMul, Nat.reduceLT, Nat.reduceLeDiff, Int.reduceToNat, Nat.reduceBEq, tq1, tq2, tq3], by simp (maxSteps := 10000000) (disch := omega) only [vq0, vq1, vq2, vq3, vq4, vq5, tagOf, reduceIte, reduceCtorEq, Nat.reduceEqDiff, Nat.reduceAdd, Nat.reduceSub, Nat.reduceMul, Nat.reduceLT, Nat.reduceLeDiff, Int.reduceToNat, Nat.reduceBEq, tq1, tq2, tq3], by simp (maxSteps := 10000000) (disch := omega) only [vq0, vq1, vq2, vq3, vq4, vq5, tagOf, reduceIte, reduceCtorEq, Nat.reduceEqDiff, Nat.reduceAdd, Nat.reduceSub, Nat.reduceMul, Nat.reduceLT, Nat.reduceLeDiff, Int.reduceToNat, Nat.reduceBEq, tq1, tq2, tq3], by simp (maxSteps := 10000000) (disch := omega) only [vq0, vq1, vq2, vq3, vq4, vq5, tagOf, reduceIte, reduceCtorEq, Nat.reduceEqDiff, Nat.reduceAdd, Nat.reduceSub, Nat.reduceMul, Nat.reduceLT, Nat.reduceLeDiff, Int.reduceToNat, Nat.reduceBEq, tq1, tq2, tq3, r5], by simp (maxSteps := 10000000) (disch := omega) only [vq0, vq1, vq2, vq3, vq4, vq5, tagOf, reduceIte, reduceCtorEq, Nat.reduceEqDiff, Nat.reduceAdd, Nat.reduceSub, Nat.reduceMul, Nat.reduceLT, Nat.reduceLeDiff, Int.reduceToNat, Nat.reduceBEq, tq1, tq2, tq3, r7], by simp (maxSteps := 10000000) (disch := omega) only [vq0, vq1, vq2, vq3, vq4, vq5, tagOf, reduceIte, reduceCtorEq, Nat.reduceEqDiff, Nat.reduceAdd, Nat.reduceSub, Nat.reduceMul, Nat.reduceLT, Nat.reduceLeDiff, Int.reduceToNat, Nat.reduceBEq, tq1, tq2, tq3, r6], by simp (maxSteps := 10000000) (disch := omega) only [vq0, vq1, vq2, vq3, vq4, vq5, tagOf, reduceIte, reduceCtorEq, Nat.reduceEqDiff, Nat.reduceAdd, Nat.reduceSub, Nat.reduceMul, Nat.reduceLT, Nat.reduceLeDiff, Int.reduceToNat, Nat.reduceBEq, tq1, tq2, tq3], by simp (maxSteps := 10000000) (disch := omega) only [vq0, vq1, vq2, vq3, vq4, vq5, tagOf, reduceIte, reduceCtorEq, Nat.reduceEqDiff, Nat.reduceAdd, Nat.reduceSub, Nat.reduceMul, Nat.reduceLT, Nat.reduceLeDiff, Int.reduceToNat, Nat.reduceBEq, tq1, tq2, tq3]; rfl, (Grow.new h _).set (Nat.le_refl _) _, rfl, by simp (maxSteps := 10000000) (disch := omega) only [vq0, vq1, vq2, vq3, vq4, vq5, tagOf, reduceIte, reduceCtorEq, Nat.reduceEqDiff, Nat.reduceAdd, Nat.reduceSub, Nat.reduceMul, Nat.reduceLT, Nat.reduceLeDiff, Int.reduceToNat, Nat.reduceBEq, tq1, tq2, tq3]⟩
theorem refMerge_ok (a b : Dif) (va vb : Value) (h : Heap) (ha : DRow h va a.recs) (hb : DRow h vb b.recs) (ga : goodD a = true) (gb : goodD b = true) (hLa : a.recs.length ≤ 1000000) (hLb : b.recs.length ≤ 1000000) :
    Ret E f_laminaref23_Merge [.agg ⟨difC a va⟩, .agg ⟨difC b vb⟩] h (fun v h' => Grow h h' ∧ ∃ w, v = .agg ⟨difC (mergeD a b) w⟩ ∧ DRow h' w (mergeD a b).recs) := by
  refine ret_fun is_laminaref23_Merge (by simp) ?_
  unfold g_laminaref23_Merge
  rw [mL_is]
  have hda : difC a va = [.int .i64 a.fr, .int .i64 a.to, va] := rfl
  have hdb : difC b vb = [.int .i64 b.fr, .int .i64 b.to, vb] := rfl
  have oa := ha.one
  have ob := hb.one
  have hb2 := (good_of gb).2.1
  obtain ⟨N, hN⟩ : ∃ N : Nat, b.to = (N : Int) := ⟨b.to.toNat, by omega⟩
  have hmd : mergeD a b = ⟨a.fr, (N : Int), runsP (mergeS a b) N (N + 1) 0⟩ := by unfold mergeD; rw [hN]; rfl
  have hrs := runs_same (mergeS a b) N (N + 1) 0 (by omega) (by omega)
  rw [Nat.sub_zero] at hrs
  have hmC : ∀ w, difC (mergeD a b) w = [.int .i64 a.fr, .int .i64 (N : Int), w] := fun w => by rw [hmd]; rfl
  have hmr : (mergeD a b).recs = runsA (cutS N (mergeS a b)) (N + 1) 0 [] := by rw [hmd]; exact hrs
  rw [hmr, hda, hdb]
  simp only [hmC]
  rw [hN]
  have k0 := (((Grow.new h (.cells [.int .i64 a.fr, .int .i64 a.to, va] true none)).more (.cells [.int .i64 b.fr, .int .i64 (N : Int), vb] true none)).more (.cells [.int .i64 0, .int .i64 0, .slice none 0 0] true none))
  obtain ⟨hB, eB⟩ : ∃ x, x = (((h.new (.cells [.int .i64 a.fr, .int .i64 a.to, va] true none)).new (.cells [.int .i64 b.fr, .int .i64 (N : Int), vb] true none)).new (.cells [.int .i64 0, .int .i64 0, .slice none 0 0] true none)) := ⟨_, rfl⟩
  have pa : hB.get h.next = some (.cells [.int .i64 a.fr, .int .i64 a.to, va] true none) := by rw [eB]; simp (maxSteps := 10000000) (disch := omega) only [vq0, vq1, vq2, vq3, vq4, vq5, tagOf, reduceIte, reduceCtorEq, Nat.reduceEqDiff, Nat.reduceAdd, Nat.reduceSub, Nat.reduceMul, Nat.reduceLT, Nat.reduceLeDiff, Int.reduceToNat, Nat.reduceBEq, tq1, tq2, tq3]
  have pb : hB.get (h.next + 1) = some (.cells [.int .i64 b.fr, .int .i64 (N : Int), vb] true none) := by rw [eB]; simp (maxSteps := 10000000) (disch := omega) only [vq0, vq1, vq2, vq3, vq4, vq5, tagOf, reduceIte, reduceCtorEq, Nat.reduceEqDiff, Nat.reduceAdd, Nat.reduceSub, Nat.reduceMul, Nat.reduceLT, Nat.reduceLeDiff, Int.reduceToNat, Nat.reduceBEq, tq1, tq2, tq3]
  have pc : hB.get (h.next + 1 + 1) = some (.cells [.int .i64 0, .int .i64 0, .slice none 0 0] true none) := by rw [eB]; simp (maxSteps := 10000000) (disch := omega) only [vq0, vq1, vq2, vq3, vq4, vq5, tagOf, reduceIte, reduceCtorEq, Nat.reduceEqDiff, Nat.reduceAdd, Nat.reduceSub, Nat.reduceMul, Nat.reduceLT, Nat.reduceLeDiff, Int.reduceToNat, Nat.reduceBEq, tq1, tq2, tq3]
  have nB : hB.next = h.next + 1 + 1 + 1 := by rw [eB]; rfl
  have gB : Grow h hB := by rw [eB]; exact k0
  have glen : ∀ (i : Nat) (row : List UInt8) (items : List (Rec × Value)), items.map (·.1) ++ runsA (cutS N (mergeS a b)) (N + 1 - i) i row = runsA (cutS N (mergeS a b)) (N + 1) 0 [] → items.length ≤ N + 1 := fun i row items he => by
    have h1 := congrArg List.length he
    have h2 := runs_len (mergeS a b) N (N + 1) 0
    rw [hrs] at h2
    rw [List.length_append, List.length_map] at h1
    omega
  simp (maxSteps := 10000000) (disch := omega) only [vq0, vq1, vq2, vq3, vq4, vq5, tagOf, reduceIte, reduceCtorEq, Nat.reduceEqDiff, Nat.reduceAdd, Nat.reduceSub, Nat.reduceMul, Nat.reduceLT, Nat.reduceLeDiff, Int.reduceToNat, Nat.reduceBEq, tq1, tq2, tq3, oa, ob]
  rw [← eB]
  refine r_loop (k := N + 1) (fun k ρ h' => ∃ (i : Nat) (rw w : Value) (row : List UInt8) (items : List (Rec × Value)), i + k = N + 1 ∧ row.length ≤ i ∧ items.map (·.1) ++ runsA (cutS N (mergeS a b)) (N + 1 - i) i row = runsA (cutS N (mergeS a b)) (N + 1) 0 [] ∧
    Gat hB h' (h.next + 1 + 1 + 1) a.fr N rw w row items ∧ ρ 2 = .pointer (some ⟨h.next, 0, none⟩) ∧ ρ 3 = .pointer (some ⟨h.next + 1, 0, none⟩) ∧ ρ 4 = .pointer (some ⟨h.next + 1 + 1, 0, none⟩) ∧ ρ 5 = .pointer (some ⟨h.next + 1 + 1 + 1, 0, none⟩) ∧ ρ 6 = rw ∧ ρ 7 = .int .i64 (i : Int)) ?_ ?_
  · rintro k ρ h' ⟨i, rw, w, row, items, hk, hrl, hru, x, r2, r3, r4, r5, r6, r7⟩
    have hil := glen _ _ _ hru
    have ga' := gB.trans x.g
    have pa' := (x.g.get _ (by omega)).trans pa
    have pb' := (x.g.get _ (by omega)).trans pb
    have pc' := (x.g.get _ (by omega)).trans pc
    have hnx := x.g.next
    unfold mL
    rcases Nat.lt_or_ge N i with hi | hi
    · have he : N + 1 - i = 0 := by omega
      rw [he, runsA, List.append_nil] at hru
      obtain ⟨aw, nw, cw, rfl, _⟩ := x.ow.row.is
      have hxp := x.p
      simp (maxSteps := 10000000) (disch := omega) only [vq0, vq1, vq2, vq3, vq4, vq5, tagOf, reduceIte, reduceCtorEq, Nat.reduceEqDiff, Nat.reduceAdd, Nat.reduceSub, Nat.reduceMul, Nat.reduceLT, Nat.reduceLeDiff, Int.reduceToNat, Nat.reduceBEq, tq1, tq2, tq3, r2, r3, r4, r5, r6, r7, pb', pc', hxp]
      refine ⟨ga'.set (by omega) _, _, rfl, items, hru, RowV.keep x.ow.row (Nat.le_refl _) fun c hc _ => get_set_ne ?_, fun p hp => RowV.keep (x.it p hp).1 (Nat.le_refl _) fun c hc _ => get_set_ne ?_⟩
      · have := (x.ow.lt hc).1
        omega
      · have := ((x.it p hp).2 c hc).2.2.2.1
        omega
    · simp (maxSteps := 10000000) (disch := omega) only [vq0, vq1, vq2, vq3, vq4, vq5, tagOf, reduceIte, reduceCtorEq, Nat.reduceEqDiff, Nat.reduceAdd, Nat.reduceSub, Nat.reduceMul, Nat.reduceLT, Nat.reduceLeDiff, Int.reduceToNat, Nat.reduceBEq, tq1, tq2, tq3, r2, r3, r4, r5, r6, r7, pb']
      refine (mA_ok a b va vb h h' _ N i hN (by omega) hi ga gb ha hb hLa hLb ga' (pa := h.next) (pb := h.next + 1) (by simp (maxSteps := 10000000) (disch := omega) only [vq0, vq1, vq2, vq3, vq4, vq5, tagOf, reduceIte, reduceCtorEq, Nat.reduceEqDiff, Nat.reduceAdd, Nat.reduceSub, Nat.reduceMul, Nat.reduceLT, Nat.reduceLeDiff, Int.reduceToNat, Nat.reduceBEq, tq1, tq2, tq3, r2]) (by simp (maxSteps := 10000000) (disch := omega) only [vq0, vq1, vq2, vq3, vq4, vq5, tagOf, reduceIte, reduceCtorEq, Nat.reduceEqDiff, Nat.reduceAdd, Nat.reduceSub, Nat.reduceMul, Nat.reduceLT, Nat.reduceLeDiff, Int.reduceToNat, Nat.reduceBEq, tq1, tq2, tq3, r3]) (by simp (maxSteps := 10000000) (disch := omega) only [vq0, vq1, vq2, vq3, vq4, vq5, tagOf, reduceIte, reduceCtorEq, Nat.reduceEqDiff, Nat.reduceAdd, Nat.reduceSub, Nat.reduceMul, Nat.reduceLT, Nat.reduceLeDiff, Int.reduceToNat, Nat.reduceBEq, tq1, tq2, tq3, r7]) (by simp (maxSteps := 10000000) (disch := omega) only [vq0, vq1, vq2, vq3, vq4, vq5, tagOf, reduceIte, reduceCtorEq, Nat.reduceEqDiff, Nat.reduceAdd, Nat.reduceSub, Nat.reduceMul, Nat.reduceLT, Nat.reduceLeDiff, Int.reduceToNat, Nat.reduceBEq, tq1, tq2, tq3]) (by simp (maxSteps := 10000000) (disch := omega) only [vq0, vq1, vq2, vq3, vq4, vq5, tagOf, reduceIte, reduceCtorEq, Nat.reduceEqDiff, Nat.reduceAdd, Nat.reduceSub, Nat.reduceMul, Nat.reduceLT, Nat.reduceLeDiff, Int.reduceToNat, Nat.reduceBEq, tq1, tq2, tq3]) pa' (by rw [hN]; exact pb') (by omega) (by omega)).mono ?_
      rintro e ρ2 h2 ⟨rfl, g2, f2, f3, f4, f5, f6, f7, f8, f9⟩
      have x2 := x.grow g2
      have hsp : N + 1 - i = (N - i) + 1 := by omega
      have hsp2 : N + 1 - (i + 1) = N - i := by omega
      rw [hsp, runsA] at hru
      simp (maxSteps := 10000000) (disch := omega) only [vq0, vq1, vq2, vq3, vq4, vq5, tagOf, reduceIte, reduceCtorEq, Nat.reduceEqDiff, Nat.reduceAdd, Nat.reduceSub, Nat.reduceMul, Nat.reduceLT, Nat.reduceLeDiff, Int.reduceToNat, Nat.reduceBEq, tq1, tq2, tq3, r2, r3, r4, r5, r6, r7] at f2 f3 f4 f5 f6 f7
      cases hS : cutS N (mergeS a b) i with
      | some y =>
        rw [hS] at f8 f9 hru
        simp only [Option.getD_some, Option.isSome_some] at f8 f9
        simp only at hru
        obtain ⟨rw2, h3, happ, x3⟩ := x2.push y (by omega)
        simp (maxSteps := 10000000) (disch := omega) only [vq0, vq1, vq2, vq3, vq4, vq5, tagOf, reduceIte, reduceCtorEq, Nat.reduceEqDiff, Nat.reduceAdd, Nat.reduceSub, Nat.reduceMul, Nat.reduceLT, Nat.reduceLeDiff, Int.reduceToNat, Nat.reduceBEq, tq1, tq2, tq3, f2, f3, f4, f5, f6, f7, f8, f9]
        rw [happ]
        simp (maxSteps := 10000000) (disch := omega) only [vq0, vq1, vq2, vq3, vq4, vq5, tagOf, reduceIte, reduceCtorEq, Nat.reduceEqDiff, Nat.reduceAdd, Nat.reduceSub, Nat.reduceMul, Nat.reduceLT, Nat.reduceLeDiff, Int.reduceToNat, Nat.reduceBEq, tq1, tq2, tq3, f2, f3, f4, f5, f6, f7, f8, f9]
        exact ⟨k - 1, by omega, i + 1, rw2, w, row ++ [y], items, by omega, by rw [List.length_append]; simp; omega, by rw [hsp2]; exact hru, x3, rfl, rfl⟩
      | none =>
        rw [hS] at f8 f9 hru
        simp only [Option.isSome_none] at f9
        simp only at hru
        simp (maxSteps := 10000000) (disch := omega) only [vq0, vq1, vq2, vq3, vq4, vq5, tagOf, reduceIte, reduceCtorEq, Nat.reduceEqDiff, Nat.reduceAdd, Nat.reduceSub, Nat.reduceMul, Nat.reduceLT, Nat.reduceLeDiff, Int.reduceToNat, Nat.reduceBEq, tq1, tq2, tq3, f2, f3, f4, f5, f6, f7, f8, f9]
        refine (mT_ok hB h2 _ (h.next + 1 + 1 + 1) i a.fr N rw w row items x2 hrl (by omega) (by omega) (by simp (maxSteps := 10000000) (disch := omega) only [vq0, vq1, vq2, vq3, vq4, vq5, tagOf, reduceIte, reduceCtorEq, Nat.reduceEqDiff, Nat.reduceAdd, Nat.reduceSub, Nat.reduceMul, Nat.reduceLT, Nat.reduceLeDiff, Int.reduceToNat, Nat.reduceBEq, tq1, tq2, tq3, f5]) (by simp (maxSteps := 10000000) (disch := omega) only [vq0, vq1, vq2, vq3, vq4, vq5, tagOf, reduceIte, reduceCtorEq, Nat.reduceEqDiff, Nat.reduceAdd, Nat.reduceSub, Nat.reduceMul, Nat.reduceLT, Nat.reduceLeDiff, Int.reduceToNat, Nat.reduceBEq, tq1, tq2, tq3, f6]) (by simp (maxSteps := 10000000) (disch := omega) only [vq0, vq1, vq2, vq3, vq4, vq5, tagOf, reduceIte, reduceCtorEq, Nat.reduceEqDiff, Nat.reduceAdd, Nat.reduceSub, Nat.reduceMul, Nat.reduceLT, Nat.reduceLeDiff, Int.reduceToNat, Nat.reduceBEq, tq1, tq2, tq3, f7])).mono ?_
        rintro e ρ3 h3 ⟨rfl, t2, t3, t4, t5, t7, w', items', t6, x3, hits⟩
        simp (maxSteps := 10000000) (disch := omega) only [vq0, vq1, vq2, vq3, vq4, vq5, tagOf, reduceIte, reduceCtorEq, Nat.reduceEqDiff, Nat.reduceAdd, Nat.reduceSub, Nat.reduceMul, Nat.reduceLT, Nat.reduceLeDiff, Int.reduceToNat, Nat.reduceBEq, tq1, tq2, tq3, f2, f3, f4, f5, f6, f7] at t2 t3 t4 t5 t7
        simp (maxSteps := 10000000) (disch := omega) only [vq0, vq1, vq2, vq3, vq4, vq5, tagOf, reduceIte, reduceCtorEq, Nat.reduceEqDiff, Nat.reduceAdd, Nat.reduceSub, Nat.reduceMul, Nat.reduceLT, Nat.reduceLeDiff, Int.reduceToNat, Nat.reduceBEq, tq1, tq2, tq3, t2, t3, t4, t5, t6, t7]
        exact ⟨k - 1, by omega, i + 1, .slice none 0 0, w', [], items', by omega, by simp, by rw [hsp2, hits, List.append_assoc]; exact hru, x3, rfl, rfl⟩
  · refine ⟨0, _, _, [], [], by omega, by simp, by simp, ⟨.nil _ _ _ _, .nil _ _ _ _, get_set_same _ _ _, (fun p hp => by cases hp), (fun b hb => by cases hb), (fun e => by cases e), ⟨by omega, by show _ < hB.next + 1; omega⟩, (Grow.new hB _).set (by omega) _⟩, by simp (maxSteps := 10000000) (disch := omega) only [vq0, vq1, vq2, vq3, vq4, vq5, tagOf, reduceIte, reduceCtorEq, Nat.reduceEqDiff, Nat.reduceAdd, Nat.reduceSub, Nat.reduceMul, Nat.reduceLT, Nat.reduceLeDiff, Int.reduceToNat, Nat.reduceBEq, tq1, tq2, tq3], by simp (maxSteps := 10000000) (disch := omega) only [vq0, vq1, vq2, vq3, vq4, vq5, tagOf, reduceIte, reduceCtorEq, Nat.reduceEqDiff, Nat.reduceAdd, Nat.reduceSub, Nat.reduceMul, Nat.reduceLT, Nat.reduceLeDiff, Int.reduceToNat, Nat.reduceBEq, tq1, tq2, tq3], by simp (maxSteps := 10000000) (disch := omega) only [vq0, vq1, vq2, vq3, vq4, vq5, tagOf, reduceIte, reduceCtorEq, Nat.reduceEqDiff, Nat.reduceAdd, Nat.reduceSub, Nat.reduceMul, Nat.reduceLT, Nat.reduceLeDiff, Int.reduceToNat, Nat.reduceBEq, tq1, tq2, tq3], by simp (maxSteps := 10000000) (disch := omega) only [vq0, vq1, vq2, vq3, vq4, vq5, tagOf, reduceIte, reduceCtorEq, Nat.reduceEqDiff, Nat.reduceAdd, Nat.reduceSub, Nat.reduceMul, Nat.reduceLT, Nat.reduceLeDiff, Int.reduceToNat, Nat.reduceBEq, tq1, tq2, tq3], by simp (maxSteps := 10000000) (disch := omega) only [vq0, vq1, vq2, vq3, vq4, vq5, tagOf, reduceIte, reduceCtorEq, Nat.reduceEqDiff, Nat.reduceAdd, Nat.reduceSub, Nat.reduceMul, Nat.reduceLT, Nat.reduceLeDiff, Int.reduceToNat, Nat.reduceBEq, tq1, tq2, tq3], by simp (maxSteps := 10000000) (disch := omega) only [vq0, vq1, vq2, vq3, vq4, vq5, tagOf, reduceIte, reduceCtorEq, Nat.reduceEqDiff, Nat.reduceAdd, Nat.reduceSub, Nat.reduceMul, Nat.reduceLT, Nat.reduceLeDiff, Int.reduceToNat, Nat.reduceBEq, tq1, tq2, tq3]; rfl⟩
end Go.Proofs.Ythkpbhdljbdliaa.C
