/- W9: the document's reader: bytes, numbers, flags, rows. -/
import Derived.Test.YtdmakachnphddaaW8
open Nat (reduceEqDiff reduceAdd reduceSub reduceMul reduceLT reduceLeDiff)
open Int (reduceToNat)
open Go Go.Vi Go.Bm
namespace Go.Proofs.Ytdmakachnphddaa.C
set_option linter.unusedSimpArgs false
set_option maxRecDepth 100000
set_option maxHeartbeats 40000000
theorem byteR_take (r : Rd) : byteR r = ((tkR r 1).1.getD 0 0, (tkR r 1).2) ∧ ((tkR r 1).2 = none → (tkR r 1).1 = []) ∧ ∀ l, (tkR r 1).2 = some l → ∃ b, (tkR r 1).1 = [b] := by
  match r with
  | none => exact ⟨rfl, fun _ => rfl, fun l h => by cases h⟩
  | some [] => exact ⟨rfl, fun _ => rfl, fun l h => by cases h⟩
  | some (b :: l) =>
    rw [tkR_one]
    exact ⟨rfl, (fun h => by cases h), fun _ _ => ⟨b, rfl⟩⟩
theorem numR_take (r : Rd) : ((tkR r 8).2 = none → numR r = (0, none) ∧ (tkR r 8).1 = []) ∧ ∀ l, (tkR r 8).2 = some l → ∃ m : List UInt8, m.length = 8 ∧ (tkR r 8).1 = m ∧ numR r = (intN m, some l) := by
  cases r with
  | none => exact ⟨fun _ => ⟨rfl, rfl⟩, fun l h => by cases h⟩
  | some l =>
    have hn : numR (some l) = if l.length < 8 then (0, none) else (intN (l.take 8), some (l.drop 8)) := rfl
    rw [tkR_eight, hn]
    by_cases hc : l.length < 8
    · simp only [if_pos hc]
      exact ⟨fun _ => ⟨trivial, trivial⟩, fun l h => by cases h⟩
    · simp only [if_neg hc]
      refine ⟨(fun h => by cases h), fun l' h => ?_⟩
      cases h
      exact ⟨l.take 8, by rw [List.length_take]; omega, rfl, rfl⟩
theorem qbyte_ok (o p : Nat) (r : Rd) (h : Heap) (x : Rdr o h p r) : Ret E Fk_ [.pointer (some ⟨p, 0, none⟩)] h (fun u h' => Rdr o h' p (byteR r).2 ∧ But p p h h' ∧ u = .int .u8 (byteR r).1.toNat) := by
  refine ret_fun Ic_ (by simp) ?_
  unfold Gj_
  simp (maxSteps := 10000000) (disch := omega) only [vqA, tagOf, reduceIte, reduceCtorEq, reduceEqDiff, reduceAdd, reduceSub, reduceMul, reduceLT, reduceLeDiff, reduceToNat, Nat.reduceBEq, tqA]
  refine (qtake_ok o p r 1 h x).mono ?_
  rintro u h1 ⟨x1, b1, hw, ow⟩
  obtain ⟨hb, he, hs⟩ := byteR_take r
  cases hr : (tkR r 1).2 with
  | none =>
    rw [hr, he hr] at hb
    rw [hr] at x1
    rw [he hr] at hw
    obtain ⟨a, c, rfl⟩ := hw.is
    simp (maxSteps := 10000000) (disch := omega) only [vqA, tagOf, reduceIte, reduceCtorEq, reduceEqDiff, reduceAdd, reduceSub, reduceMul, reduceLT, reduceLeDiff, reduceToNat, Nat.reduceBEq, tqA, List.length_nil]
    rw [hb]
    exact ⟨x1, b1, rfl⟩
  | some l =>
    obtain ⟨b, h0⟩ := hs l hr
    rw [hr, h0] at hb
    rw [hr] at x1
    rw [h0] at hw
    obtain ⟨b2, o2, c2, rfl, hb2, hel⟩ := hw.elems (by simp)
    have he := hel 0 b rfl
    rw [Nat.add_zero] at he
    simp (maxSteps := 10000000) (disch := omega) only [vqA, tagOf, reduceIte, reduceCtorEq, reduceEqDiff, reduceAdd, reduceSub, reduceMul, reduceLT, reduceLeDiff, reduceToNat, Nat.reduceBEq, tqA, he]
    rw [hb]
    exact ⟨x1, b1, rfl⟩
theorem qflag_ok (o p : Nat) (r : Rd) (h : Heap) (x : Rdr o h p r) : Ret E Fy_ [.pointer (some ⟨p, 0, none⟩)] h (fun u h' => Rdr o h' p (flagR r).2 ∧ But p p h h' ∧ u = .bool (flagR r).1) := by
  refine ret_fun IA_ (by simp) ?_
  unfold Gm_
  simp (maxSteps := 10000000) (disch := omega) only [vqA, tagOf, reduceIte, reduceCtorEq, reduceEqDiff, reduceAdd, reduceSub, reduceMul, reduceLT, reduceLeDiff, reduceToNat, Nat.reduceBEq, tqA]
  refine (qbyte_ok o p r h x).mono ?_
  rintro u h1 ⟨x1, b1, rfl⟩
  unfold flagR
  have hlt := x1.lt
  by_cases hc : (byteR r).1.toNat > 1
  · simp only [if_pos hc]
    generalize (byteR r).1 = c at hc
    obtain ⟨v, b, hg⟩ := x1.cells
    simp (maxSteps := 10000000) (disch := omega) only [vqA, tagOf, reduceIte, reduceCtorEq, reduceEqDiff, reduceAdd, reduceSub, reduceMul, reduceLT, reduceLeDiff, reduceToNat, Nat.reduceBEq, tqA, hg]
    exact ⟨⟨hlt, by simp (maxSteps := 10000000) (disch := omega) only [vqA, tagOf, reduceIte, reduceCtorEq, reduceEqDiff, reduceAdd, reduceSub, reduceMul, reduceLT, reduceLeDiff, reduceToNat, Nat.reduceBEq, tqA]⟩, (b1.setx _).setx _⟩
  · simp only [if_neg hc]
    generalize (byteR r).1 = c at hc
    by_cases h1 : c = 1
    · subst h1
      have e : ((1 : UInt8).toNat : Int) = 1 := rfl
      rw [e]
      simp (maxSteps := 10000000) (disch := omega) only [vqA, tagOf, reduceIte, reduceCtorEq, reduceEqDiff, reduceAdd, reduceSub, reduceMul, reduceLT, reduceLeDiff, reduceToNat, Nat.reduceBEq, tqA]
      exact ⟨x1, b1⟩
    · have e1 : ¬ (c.toNat : Int) = 1 := fun q => by
        have q2 : c.toNat = (1 : UInt8).toNat := by
          rw [show (1 : UInt8).toNat = 1 from rfl]
          omega
        exact h1 (UInt8.toNat_inj.1 q2)
      have hb : (c == 1) = false := by rw [beq_eq_false_iff_ne]; exact h1
      rw [hb]
      simp (maxSteps := 10000000) (disch := omega) only [vqA, tagOf, reduceIte, reduceCtorEq, reduceEqDiff, reduceAdd, reduceSub, reduceMul, reduceLT, reduceLeDiff, reduceToNat, Nat.reduceBEq, tqA]
      exact ⟨x1, b1⟩
theorem qnum_ok (o p : Nat) (r : Rd) (h : Heap) (x : Rdr o h p r) : Ret E Fc_ [.pointer (some ⟨p, 0, none⟩)] h (fun u h' => Rdr o h' p (numR r).2 ∧ But p p h h' ∧ u = .int .i64 (numR r).1) := by
  refine ret_fun IQ_ (by simp) ?_
  unfold G3_
  simp (maxSteps := 10000000) (disch := omega) only [vqA, tagOf, reduceIte, reduceCtorEq, reduceEqDiff, reduceAdd, reduceSub, reduceMul, reduceLT, reduceLeDiff, reduceToNat, Nat.reduceBEq, tqA]
  refine (qtake_ok o p r 8 h x).mono ?_
  rintro u h1 ⟨x1, b1, hw, ow⟩
  obtain ⟨he, hs⟩ := numR_take r
  have cv : ∀ n : Int, convV E Tw_ Ta_ (.int .u64 n) = some (.int .i64 (IntKind.i64.wrap n)) := fun n => by kernel_rfl
  cases hr : (tkR r 8).2 with
  | none =>
    obtain ⟨hn, h0⟩ := he hr
    rw [hr] at x1
    rw [h0] at hw
    rw [hn]
    obtain ⟨a, c, rfl⟩ := hw.is
    simp (maxSteps := 10000000) (disch := omega) only [vqA, tagOf, reduceIte, reduceCtorEq, reduceEqDiff, reduceAdd, reduceSub, reduceMul, reduceLT, reduceLeDiff, reduceToNat, Nat.reduceBEq, tqA]
    refine r_loop (k := 0) (fun k ρ h' => h' = h1 ∧ ρ 4 = .int .u64 0 ∧ ρ 5 = .int .i64 (-1)) ?_ ?_
    · rintro k ρ h' ⟨rfl, r4, r5⟩
      unfold Ga_
      simp (maxSteps := 10000000) (disch := omega) only [vqA, tagOf, reduceIte, reduceCtorEq, reduceEqDiff, reduceAdd, reduceSub, reduceMul, reduceLT, reduceLeDiff, reduceToNat, Nat.reduceBEq, tqA, r4, r5, cv]
      exact ⟨x1, b1⟩
    · exact ⟨rfl, by simp (maxSteps := 10000000) (disch := omega) only [vqA, tagOf, reduceIte, reduceCtorEq, reduceEqDiff, reduceAdd, reduceSub, reduceMul, reduceLT, reduceLeDiff, reduceToNat, Nat.reduceBEq, tqA], by simp (maxSteps := 10000000) (disch := omega) only [vqA, tagOf, reduceIte, reduceCtorEq, reduceEqDiff, reduceAdd, reduceSub, reduceMul, reduceLT, reduceLeDiff, reduceToNat, Nat.reduceBEq, tqA]; rfl⟩
  | some l =>
    obtain ⟨m, h8, hm, hnm⟩ := hs l hr
    rw [hm] at hw
    rw [hr] at x1
    rw [hnm]
    obtain ⟨b2, o2, c2, rfl, hb2, hel⟩ := hw.elems (by intro e; rw [e] at h8; cases h8)
    simp (maxSteps := 10000000) (disch := omega) only [vqA, tagOf, reduceIte, reduceCtorEq, reduceEqDiff, reduceAdd, reduceSub, reduceMul, reduceLT, reduceLeDiff, reduceToNat, Nat.reduceBEq, tqA]
    rw [h8]
    refine r_loop (k := 8) (fun k ρ h' => h' = h1 ∧ k ≤ 8 ∧ ρ 3 = .slice (some ⟨b2, o2, none⟩) 8 c2 ∧ ρ 4 = .int .u64 (valN (m.drop k) : Int) ∧ ρ 5 = .int .i64 ((k : Int) - 1)) ?_ ?_
    · rintro k ρ h' ⟨rfl, hk, r3, r4, r5⟩
      unfold Ga_
      rcases Nat.eq_zero_or_pos k with rfl | hkp
      · rw [List.drop_zero] at r4
        simp (maxSteps := 10000000) (disch := omega) only [vqA, tagOf, reduceIte, reduceCtorEq, reduceEqDiff, reduceAdd, reduceSub, reduceMul, reduceLT, reduceLeDiff, reduceToNat, Nat.reduceBEq, tqA, r3, r4, r5, cv]
        exact ⟨x1, b1, rfl⟩
      · obtain ⟨i, rfl⟩ : ∃ i, k = i + 1 := ⟨k - 1, by omega⟩
        have hx := List.getElem?_eq_getElem (l := m) (i := i) (by omega)
        have he := hel i _ hx
        have hdr : m.drop i = m[i] :: m.drop (i + 1) := List.drop_eq_getElem_cons (by omega)
        generalize m[i] = c at hx he hdr
        have hcl := c.toNat_lt
        have hv := valN_lt (m.drop (i + 1))
        rw [List.length_drop, h8] at hv
        have h7 : valN (m.drop (i + 1)) < 72057594037927936 := Nat.lt_of_lt_of_le hv (by
          rw [show (72057594037927936 : Nat) = 256 ^ 7 from rfl]
          exact Nat.pow_le_pow_right (by decide) (by omega))
        have r5' : ρ 5 = .int .i64 (i : Int) := by rw [r5]; congr 1; omega
        have hd : valN (m.drop i) = c.toNat + 256 * valN (m.drop (i + 1)) := by rw [hdr]; rfl
        generalize valN (m.drop (i + 1)) = V at h7 hd r4
        have hml : arithV .mul .u64 256 (V : Int) = some (.int .u64 ((256 * V : Nat) : Int)) := by
          show some (Value.int .u64 (IntKind.u64.wrap (256 * (V : Int)))) = _
          rw [wru64 (by omega) (by omega)]
          rfl
        have cb : convV E Te_ Tw_ (.int .u8 (c.toNat : Int)) = some (.int .u64 (c.toNat : Int)) := by
          rw [show convV E Te_ Tw_ (.int .u8 (c.toNat : Int)) = some (.int .u64 (IntKind.u64.wrap (c.toNat : Int))) from by kernel_rfl, wru64 (by omega) (by omega)]
        have had : arithV .add .u64 ((256 * V : Nat) : Int) (c.toNat : Int) = some (.int .u64 ((c.toNat + 256 * V : Nat) : Int)) := by
          show some (Value.int .u64 (IntKind.u64.wrap (((256 * V : Nat) : Int) + (c.toNat : Int)))) = _
          rw [wru64 (by omega) (by omega), show ((256 * V : Nat) : Int) + (c.toNat : Int) = ((c.toNat + 256 * V : Nat) : Int) by omega]
        simp (maxSteps := 10000000) (disch := omega) only [vqA, tagOf, reduceIte, reduceCtorEq, reduceEqDiff, reduceAdd, reduceSub, reduceMul, reduceLT, reduceLeDiff, reduceToNat, Nat.reduceBEq, tqA, r3, r4, r5', he, hml, cb, had]
        exact ⟨i, Nat.lt_succ_self _, by omega, by rw [hd], rfl⟩
    · exact ⟨rfl, Nat.le_refl _, by simp (maxSteps := 10000000) (disch := omega) only [vqA, tagOf, reduceIte, reduceCtorEq, reduceEqDiff, reduceAdd, reduceSub, reduceMul, reduceLT, reduceLeDiff, reduceToNat, Nat.reduceBEq, tqA], by simp (maxSteps := 10000000) (disch := omega) only [vqA, tagOf, reduceIte, reduceCtorEq, reduceEqDiff, reduceAdd, reduceSub, reduceMul, reduceLT, reduceLeDiff, reduceToNat, Nat.reduceBEq, tqA]; rw [List.drop_of_length_le (by omega)]; rfl, by simp (maxSteps := 10000000) (disch := omega) only [vqA, tagOf, reduceIte, reduceCtorEq, reduceEqDiff, reduceAdd, reduceSub, reduceMul, reduceLT, reduceLeDiff, reduceToNat, Nat.reduceBEq, tqA]⟩
theorem qbytes_ok (o p : Nat) (r : Rd) (h : Heap) (x : Rdr o h p r) : Ret E Fg_ [.pointer (some ⟨p, 0, none⟩)] h (fun u h' => Rdr o h' p (bytesR r).2 ∧ But p p h h' ∧ BRow h' u (bytesR r).1 ∧ ∀ b, blkOf u = some b → h.next ≤ b) := by
  refine ret_fun ID_ (by simp) ?_
  unfold GW_
  simp (maxSteps := 10000000) (disch := omega) only [vqA, tagOf, reduceIte, reduceCtorEq, reduceEqDiff, reduceAdd, reduceSub, reduceMul, reduceLT, reduceLeDiff, reduceToNat, Nat.reduceBEq, tqA]
  refine (qnum_ok o p r h x).mono ?_
  rintro u h1 ⟨x1, b1, rfl⟩
  unfold bytesR
  cases hr : (numR r).2 with
  | none =>
    rw [hr] at x1
    have hg := x1.2
    simp (maxSteps := 10000000) (disch := omega) only [vqA, tagOf, reduceIte, reduceCtorEq, reduceEqDiff, reduceAdd, reduceSub, reduceMul, reduceLT, reduceLeDiff, reduceToNat, Nat.reduceBEq, tqA, hg]
    exact ⟨x1, b1, RowV.nil _ _, fun b hb => by cases hb⟩
  | some l =>
    rw [hr] at x1
    have x1' := x1
    obtain ⟨hp, hl, v, hg, hv, ho, hne, hcut⟩ := x1
    simp (maxSteps := 10000000) (disch := omega) only [vqA, tagOf, reduceIte, reduceCtorEq, reduceEqDiff, reduceAdd, reduceSub, reduceMul, reduceLT, reduceLeDiff, reduceToNat, Nat.reduceBEq, tqA, hg]
    refine (qtake_ok o p _ _ h1 x1').mono ?_
    rintro u h2 ⟨x2, b2, hw, ow⟩
    simp (maxSteps := 10000000) (disch := omega) only [vqA, tagOf, reduceIte, reduceCtorEq, reduceEqDiff, reduceAdd, reduceSub, reduceMul, reduceLT, reduceLeDiff, reduceToNat, Nat.reduceBEq, tqA]
    exact ⟨x2, b1.trans b2, hw, fun b hb => Nat.le_trans b1.next (ow b hb)⟩
end Go.Proofs.Ytdmakachnphddaa.C
