/- B9r: what the document says of two diffs put together. -/
import Derived.Test.YthkpbhdljbdliaaB6
import Derived.Test.YthkpbhdljbdliaaPl
import Derived.Test.YthkpbhdljbdliaaBc
open Go Go.Vi Go.Bm
namespace Go.Proofs.Ythkpbhdljbdliaa.C
set_option linter.unusedSimpArgs false
set_option maxRecDepth 100000
set_option maxHeartbeats 40000000
def tellV (o : Option UInt8) : Value := match o with
  | some c => .tuple ⟨[.int .u8 c.toNat, .bool true]⟩
  | none => .tuple ⟨[.int .u8 0, .bool false]⟩
theorem tells_ok (d : Dif) (v : Value) (n : Nat) (h : Heap) (hd : DRow h v d.recs) (hn : n ≤ 4096) (hL : d.recs.length ≤ 1000000) (hg : ∀ r ∈ d.recs, 0 ≤ r.at_ ∧ 1 ≤ r.len ∧ r.at_ + r.len ≤ 4096 ∧ (r.data.length : Int) = if r.zero then 0 else r.len) :
    Ret E f_laminaref23_tells [.agg ⟨difC d v⟩, .int .i64 n] h (fun u h' => Grow h h' ∧ u = tellV (tellsL d.recs n)) := by
  refine ret_fun is_laminaref23_tells (by simp) ?_
  have hda : difC d v = [.int .i64 d.fr, .int .i64 d.to, v] := rfl
  have ov := hd.one
  have gn : ∀ b1, Grow h (h.new b1) := fun b1 => .new h b1
  unfold g_laminaref23_tells
  rw [hda]
  obtain ⟨a, c, rfl⟩ := hd.is
  simp (maxSteps := 10000000) (disch := omega) only [vq0, vq1, vq2, vq3, vq4, vq5, tagOf, reduceIte, reduceCtorEq, Nat.reduceEqDiff, Nat.reduceAdd, Nat.reduceSub, Nat.reduceMul, Nat.reduceLT, Nat.reduceLeDiff, Int.reduceToNat, Nat.reduceBEq, tq1, tq2, tq3, ov]
  refine r_loop (k := d.recs.length) (fun k ρ h' => ∃ (i : Nat), i + k = d.recs.length ∧ tellsL d.recs n = tellsL (d.recs.drop i) n ∧ ρ 1 = .int .i64 (n : Int) ∧ ρ 2 = .pointer (some ⟨h.next, 0, none⟩) ∧ ρ 6 = .int .i64 (i : Int) ∧
    h'.get h.next = some (.cells [.int .i64 d.fr, .int .i64 d.to, .slice a d.recs.length c] true none) ∧ Grow h h' ∧ h.next < h'.next) ?_ ?_
  · rintro k ρ h' ⟨i, hk, ht, r1, r2, r6, m0, gr, hlt⟩
    unfold g_laminaref23_tells_L0
    rcases Nat.lt_or_ge i d.recs.length with hi | hi
    · have hr : d.recs[i]? = some d.recs[i] := List.getElem?_eq_getElem hi
      rw [List.drop_eq_getElem_cons hi, tellsL] at ht
      have hgi := hg _ (List.getElem_mem hi)
      have hne : d.recs ≠ [] := fun e => by rw [e] at hi; simp at hi
      obtain ⟨b, o, c', he, hb, hel⟩ := hd.elems hne
      cases he
      obtain ⟨dv, hc, hbr⟩ := hel i _ hr
      have o1 := hbr.one
      rw [← gr.get b hb] at hc
      generalize d.recs[i] = r at hr ht hc hbr hgi
      obtain ⟨q1, q2, q3, q4⟩ := hgi
      have g2 : ∀ b x, Grow h' ((h'.new b).set h'.next x) := fun b x => (Grow.new h' b).set (Nat.le_refl _) x
      by_cases c1 : (n : Int) ≥ r.at_
      · by_cases c2 : (n : Int) - r.at_ < r.len
        · have hrec : recAt r n = some (if r.zero then 0 else r.data.getD (n - r.at_.toNat) 0) := if_pos ⟨c1, by omega⟩
          rw [hrec] at ht
          rw [ht]
          cases hz : r.zero
          · rw [hz] at q4
            have q4 : (r.data.length : Int) = r.len := q4
            have hdn : r.data ≠ [] := fun e => by rw [e] at q4; simp at q4; omega
            obtain ⟨b2, o2, c2', rfl, hb2, hel2⟩ := hbr.elems hdn
            have hil : ((n : Int) - r.at_).toNat < r.data.length := by omega
            have hx := hel2 ((n : Int) - r.at_).toNat _ (List.getElem?_eq_getElem hil)
            rw [← gr.get b2 hb2] at hx
            have hxs : ∀ b x, cellAt (((h'.new b).set h'.next x).get b2) (o2 + ((n : Int) - r.at_).toNat) = some (.int .u8 (r.data[((n : Int) - r.at_).toNat].toNat)) := fun b x => by
              rw [(g2 b x).get b2 (by have := gr.next; omega)]; exact hx
            have hval : r.data.getD (n - r.at_.toNat) 0 = r.data[((n : Int) - r.at_).toNat] := by
              have e : n - r.at_.toNat = ((n : Int) - r.at_).toNat := by omega
              rw [e, List.getD_eq_getElem?_getD, List.getElem?_eq_getElem hil]
              rfl
            simp (maxSteps := 10000000) (disch := omega) only [vq0, vq1, vq2, vq3, vq4, vq5, tagOf, reduceIte, reduceCtorEq, Nat.reduceEqDiff, Nat.reduceAdd, Nat.reduceSub, Nat.reduceMul, Nat.reduceLT, Nat.reduceLeDiff, Int.reduceToNat, Nat.reduceBEq, tq1, tq2, tq3, r1, r2, r6, m0, hc, o1, hz, hx]
            refine ⟨gr.trans (g2 _ _), ?_⟩
            unfold tellV
            simp only [Bool.false_eq_true, if_false]
            rw [hval]
          · simp (maxSteps := 10000000) (disch := omega) only [vq0, vq1, vq2, vq3, vq4, vq5, tagOf, reduceIte, reduceCtorEq, Nat.reduceEqDiff, Nat.reduceAdd, Nat.reduceSub, Nat.reduceMul, Nat.reduceLT, Nat.reduceLeDiff, Int.reduceToNat, Nat.reduceBEq, tq1, tq2, tq3, r1, r2, r6, m0, hc, o1, hz]
            exact ⟨gr.trans (g2 _ _), rfl⟩
        · rw [show recAt r n = none from if_neg (by omega)] at ht
          simp (maxSteps := 10000000) (disch := omega) only [vq0, vq1, vq2, vq3, vq4, vq5, tagOf, reduceIte, reduceCtorEq, Nat.reduceEqDiff, Nat.reduceAdd, Nat.reduceSub, Nat.reduceMul, Nat.reduceLT, Nat.reduceLeDiff, Int.reduceToNat, Nat.reduceBEq, tq1, tq2, tq3, r1, r2, r6, m0, hc, o1]
          exact ⟨k - 1, by omega, i + 1, by omega, ht, rfl, gr.trans (g2 _ _), by omega⟩
      · rw [show recAt r n = none from if_neg (by omega)] at ht
        simp (maxSteps := 10000000) (disch := omega) only [vq0, vq1, vq2, vq3, vq4, vq5, tagOf, reduceIte, reduceCtorEq, Nat.reduceEqDiff, Nat.reduceAdd, Nat.reduceSub, Nat.reduceMul, Nat.reduceLT, Nat.reduceLeDiff, Int.reduceToNat, Nat.reduceBEq, tq1, tq2, tq3, r1, r2, r6, m0, hc, o1]
        exact ⟨k - 1, by omega, i + 1, by omega, ht, rfl, gr.trans (g2 _ _), by omega⟩
    · rw [List.drop_of_length_le hi, tellsL] at ht
      rw [ht]
      simp (maxSteps := 10000000) (disch := omega) only [vq0, vq1, vq2, vq3, vq4, vq5, tagOf, reduceIte, reduceCtorEq, Nat.reduceEqDiff, Nat.reduceAdd, Nat.reduceSub, Nat.reduceMul, Nat.reduceLT, Nat.reduceLeDiff, Int.reduceToNat, Nat.reduceBEq, tq1, tq2, tq3, r1, r2, r6, m0]
      exact ⟨gr, rfl⟩
  · exact ⟨0, by omega, rfl, by simp (maxSteps := 10000000) (disch := omega) only [vq0, vq1, vq2, vq3, vq4, vq5, tagOf, reduceIte, reduceCtorEq, Nat.reduceEqDiff, Nat.reduceAdd, Nat.reduceSub, Nat.reduceMul, Nat.reduceLT, Nat.reduceLeDiff, Int.reduceToNat, Nat.reduceBEq, tq1, tq2, tq3], by simp (maxSteps := 10000000) (disch := omega) only [vq0, vq1, vq2, vq3, vq4, vq5, tagOf, reduceIte, reduceCtorEq, Nat.reduceEqDiff, Nat.reduceAdd, Nat.reduceSub, Nat.reduceMul, Nat.reduceLT, Nat.reduceLeDiff, Int.reduceToNat, Nat.reduceBEq, tq1, tq2, tq3], by simp (maxSteps := 10000000) (disch := omega) only [vq0, vq1, vq2, vq3, vq4, vq5, tagOf, reduceIte, reduceCtorEq, Nat.reduceEqDiff, Nat.reduceAdd, Nat.reduceSub, Nat.reduceMul, Nat.reduceLT, Nat.reduceLeDiff, Int.reduceToNat, Nat.reduceBEq, tq1, tq2, tq3]; rfl, get_new_same _ _, gn _, Nat.lt_succ_self _⟩
theorem mA_ok (a b : Dif) (va vb : Value) (h0 h : Heap) (ρ : Fr) (N i : Nat) (hN : b.to = (N : Int)) (hN1 : N ≤ 4096) (hi : i ≤ N) (ga : goodD a = true) (gb : goodD b = true) (ha : DRow h0 va a.recs) (hb : DRow h0 vb b.recs) (hLa : a.recs.length ≤ 1000000) (hLb : b.recs.length ≤ 1000000)
    (g0 : Grow h0 h) {pa pb : Nat} (r2 : ρ 2 = .pointer (some ⟨pa, 0, none⟩)) (r3 : ρ 3 = .pointer (some ⟨pb, 0, none⟩)) (r7 : ρ 7 = .int .i64 (i : Int)) (r8 : ρ 8 = .int .u8 0) (r9 : ρ 9 = .bool false) (hpa : h.get pa = some (.cells [.int .i64 a.fr, .int .i64 a.to, va] true none)) (hpb : h.get pb = some (.cells [.int .i64 b.fr, .int .i64 b.to, vb] true none)) (lpa : pa < h.next) (lpb : pb < h.next) :
    R E mA ρ h (fun x ρ' h' => x = .normal ∧ Grow h h' ∧ ρ' 2 = ρ 2 ∧ ρ' 3 = ρ 3 ∧ ρ' 4 = ρ 4 ∧ ρ' 5 = ρ 5 ∧ ρ' 6 = ρ 6 ∧ ρ' 7 = ρ 7 ∧ ρ' 8 = .int .u8 ((cutS N (mergeS a b) i).getD 0).toNat ∧ ρ' 9 = .bool (cutS N (mergeS a b) i).isSome) := by
  have gla := goodL_at (good_of ga).2.2 (Int.le_refl 0)
  have glb := goodL_at (good_of gb).2.2 (Int.le_refl 0)
  have hA2 := (good_of ga).2.1
  have hA1 := (good_of ga).1
  have oa := ha.one
  have ob := hb.one
  have hda : difC a va = [.int .i64 a.fr, .int .i64 a.to, va] := rfl
  have hdb : difC b vb = [.int .i64 b.fr, .int .i64 b.to, vb] := rfl
  unfold mA
  rw [hN] at hpb
  rcases Nat.lt_or_ge i N with hlt | hge
  · rw [cutS_lt hlt, mergeS_is ga gb]
    have tb := fun Q => (tells_ok b vb i h (hb.grow g0) (by omega) hLb (fun r hr => by obtain ⟨c1, c2, c3, c4⟩ := glb r hr; exact ⟨c1, c2, by omega, c4⟩)).mono (Q' := Q)
    rw [hdb, hN] at tb
    simp (maxSteps := 10000000) (disch := omega) only [vq0, vq1, vq2, vq3, vq4, vq5, tagOf, reduceIte, reduceCtorEq, Nat.reduceEqDiff, Nat.reduceAdd, Nat.reduceSub, Nat.reduceMul, Nat.reduceLT, Nat.reduceLeDiff, Int.reduceToNat, Nat.reduceBEq, tq1, tq2, tq3, r2, r3, r7, r8, r9, hpb, ob]
    refine tb _ ?_
    rintro u h1 ⟨g1, rfl⟩
    have q2 := (g1.get pa lpa).trans hpa
    have ta := fun Q => (tells_ok a va i h1 (ha.grow (g0.trans g1)) (by omega) hLa (fun r hr => by obtain ⟨c1, c2, c3, c4⟩ := gla r hr; exact ⟨c1, c2, by omega, c4⟩)).mono (Q' := Q)
    rw [hda] at ta
    cases hqb : tellsL b.recs i with
    | some x =>
      unfold tellV
      simp (maxSteps := 10000000) (disch := omega) only [vq0, vq1, vq2, vq3, vq4, vq5, tagOf, reduceIte, reduceCtorEq, Nat.reduceEqDiff, Nat.reduceAdd, Nat.reduceSub, Nat.reduceMul, Nat.reduceLT, Nat.reduceLeDiff, Int.reduceToNat, Nat.reduceBEq, tq1, tq2, tq3, r2, r3, r7, r8, r9, q2]
      exact ⟨g1, rfl, rfl⟩
    | none =>
      unfold tellV
      simp (maxSteps := 10000000) (disch := omega) only [vq0, vq1, vq2, vq3, vq4, vq5, tagOf, reduceIte, reduceCtorEq, Nat.reduceEqDiff, Nat.reduceAdd, Nat.reduceSub, Nat.reduceMul, Nat.reduceLT, Nat.reduceLeDiff, Int.reduceToNat, Nat.reduceBEq, tq1, tq2, tq3, r2, r3, r7, r8, r9, q2, oa]
      refine ta _ ?_
      rintro u h2 ⟨g2, rfl⟩
      have p2 := (g2.get pa (Nat.lt_of_lt_of_le lpa g1.next)).trans q2
      cases hqa : tellsL a.recs i with
      | some x =>
        unfold tellV
        simp (maxSteps := 10000000) (disch := omega) only [vq0, vq1, vq2, vq3, vq4, vq5, tagOf, reduceIte, reduceCtorEq, Nat.reduceEqDiff, Nat.reduceAdd, Nat.reduceSub, Nat.reduceMul, Nat.reduceLT, Nat.reduceLeDiff, Int.reduceToNat, Nat.reduceBEq, tq1, tq2, tq3, r2, r3, r7, r8, r9, p2]
        exact ⟨g1.trans g2, rfl, rfl⟩
      | none =>
        unfold tellV
        by_cases c1 : a.to ≤ (i : Int)
        · by_cases c2 : (i : Int) < a.fr
          · rw [if_pos ⟨c1, c2⟩]
            simp (maxSteps := 10000000) (disch := omega) only [vq0, vq1, vq2, vq3, vq4, vq5, tagOf, reduceIte, reduceCtorEq, Nat.reduceEqDiff, Nat.reduceAdd, Nat.reduceSub, Nat.reduceMul, Nat.reduceLT, Nat.reduceLeDiff, Int.reduceToNat, Nat.reduceBEq, tq1, tq2, tq3, r2, r3, r7, r8, r9, p2]
            exact ⟨g1.trans g2, rfl, rfl⟩
          · rw [if_neg (by omega)]
            simp (maxSteps := 10000000) (disch := omega) only [vq0, vq1, vq2, vq3, vq4, vq5, tagOf, reduceIte, reduceCtorEq, Nat.reduceEqDiff, Nat.reduceAdd, Nat.reduceSub, Nat.reduceMul, Nat.reduceLT, Nat.reduceLeDiff, Int.reduceToNat, Nat.reduceBEq, tq1, tq2, tq3, r2, r3, r7, r8, r9, p2]
            exact ⟨g1.trans g2, rfl, rfl⟩
        · rw [if_neg (by omega)]
          simp (maxSteps := 10000000) (disch := omega) only [vq0, vq1, vq2, vq3, vq4, vq5, tagOf, reduceIte, reduceCtorEq, Nat.reduceEqDiff, Nat.reduceAdd, Nat.reduceSub, Nat.reduceMul, Nat.reduceLT, Nat.reduceLeDiff, Int.reduceToNat, Nat.reduceBEq, tq1, tq2, tq3, r2, r3, r7, r8, r9, p2]
          exact ⟨g1.trans g2, rfl, rfl⟩
  · rw [cutS_ge hge]
    simp (maxSteps := 10000000) (disch := omega) only [vq0, vq1, vq2, vq3, vq4, vq5, tagOf, reduceIte, reduceCtorEq, Nat.reduceEqDiff, Nat.reduceAdd, Nat.reduceSub, Nat.reduceMul, Nat.reduceLT, Nat.reduceLeDiff, Int.reduceToNat, Nat.reduceBEq, tq1, tq2, tq3, r2, r3, r7, r8, r9, hpb]
    exact ⟨.refl h, rfl, rfl⟩
end Go.Proofs.Ythkpbhdljbdliaa.C
