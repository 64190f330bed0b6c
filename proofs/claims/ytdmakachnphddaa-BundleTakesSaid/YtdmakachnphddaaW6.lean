/- W6: the program's reader: bytes, numbers, flags, rows. -/
import Derived.Test.YtdmakachnphddaaW5
open Nat (reduceEqDiff reduceAdd reduceSub reduceMul reduceLT reduceLeDiff)
open Int (reduceToNat)
open Go Go.Vi Go.Bm
namespace Go.Proofs.Ytdmakachnphddaa.C
set_option linter.unusedSimpArgs false
set_option maxRecDepth 100000
set_option maxHeartbeats 40000000
theorem tkR_one (b : UInt8) (l : List UInt8) : tkR (some (b :: l)) 1 = ([b], some l) := by
  unfold tkR
  simp only []
  rw [if_neg (by rw [List.length_cons]; omega)]
  rfl
theorem rbyte_ok (o p : Nat) (r : Rd) (h : Heap) (x : Rdr o h p r) : Ret E Fn_ [.pointer (some ⟨p, 0, none⟩)] h (fun u h' => Rdr o h' p (byteR r).2 ∧ But p p h h' ∧ u = .int .u8 (byteR r).1.toNat) := by
  refine ret_fun Iz_ (by simp) ?_
  unfold Ge_
  simp (maxSteps := 10000000) (disch := omega) only [vqA, tagOf, reduceIte, reduceCtorEq, reduceEqDiff, reduceAdd, reduceSub, reduceMul, reduceLT, reduceLeDiff, reduceToNat, Nat.reduceBEq, tqA]
  refine (take_ok o p r 1 h x).mono ?_
  rintro u h1 ⟨x1, b1, w, rfl, hw, ow⟩
  have hb : byteR r = (((tkR r 1).1.getD 0 0), (tkR r 1).2) := by
    match r with
    | none => rfl
    | some [] => rfl
    | some (b :: l) => rw [tkR_one]; rfl
  cases hr : (tkR r 1).2 with
  | none =>
    have h0 : (tkR r 1).1 = [] := by
      match r, hr with
      | none, _ => rfl
      | some [], _ => rfl
      | some (b :: l), hr => rw [tkR_one] at hr; cases hr
    rw [hr, h0] at hb
    rw [hr] at x1
    simp (maxSteps := 10000000) (disch := omega) only [vqA, tagOf, reduceIte, reduceCtorEq, reduceEqDiff, reduceAdd, reduceSub, reduceMul, reduceLT, reduceLeDiff, reduceToNat, Nat.reduceBEq, tqA, Option.isSome_none]
    rw [hb]
    exact ⟨x1, b1, rfl⟩
  | some l =>
    obtain ⟨b, h0⟩ : ∃ b, (tkR r 1).1 = [b] := by
      match r, hr with
      | some (b :: l), hr => exact ⟨b, by rw [tkR_one]⟩
    rw [hr, h0] at hb
    rw [hr] at x1
    rw [h0] at hw
    obtain ⟨b2, o2, c2, rfl, hb2, hel⟩ := hw.elems (by simp)
    have he := hel 0 b rfl
    rw [Nat.add_zero] at he
    simp (maxSteps := 10000000) (disch := omega) only [vqA, tagOf, reduceIte, reduceCtorEq, reduceEqDiff, reduceAdd, reduceSub, reduceMul, reduceLT, reduceLeDiff, reduceToNat, Nat.reduceBEq, tqA, Option.isSome_some, he]
    rw [hb]
    exact ⟨x1, b1, rfl⟩
theorem Rdr.cells {h : Heap} {o p : Nat} {r : Rd} (x : Rdr o h p r) : ∃ v b, h.get p = some (.cells [v, .bool b] true none) := by
  cases r with
  | none => exact ⟨_, _, x.2⟩
  | some l => obtain ⟨_, _, v, hg, _⟩ := x; exact ⟨v, false, hg⟩
theorem rflag_ok (o p : Nat) (r : Rd) (h : Heap) (x : Rdr o h p r) : Ret E Fw_ [.pointer (some ⟨p, 0, none⟩)] h (fun u h' => Rdr o h' p (flagR r).2 ∧ But p p h h' ∧ u = .bool (flagR r).1) := by
  refine ret_fun If_ (by simp) ?_
  unfold GO_
  simp (maxSteps := 10000000) (disch := omega) only [vqA, tagOf, reduceIte, reduceCtorEq, reduceEqDiff, reduceAdd, reduceSub, reduceMul, reduceLT, reduceLeDiff, reduceToNat, Nat.reduceBEq, tqA]
  refine (rbyte_ok o p r h x).mono ?_
  rintro u h1 ⟨x1, b1, rfl⟩
  unfold flagR
  by_cases hc : (byteR r).1.toNat > 1
  · simp only [if_pos hc]
    generalize (byteR r).1 = c at hc
    simp (maxSteps := 10000000) (disch := omega) only [vqA, tagOf, reduceIte, reduceCtorEq, reduceEqDiff, reduceAdd, reduceSub, reduceMul, reduceLT, reduceLeDiff, reduceToNat, Nat.reduceBEq, tqA]
    obtain ⟨v, b, hg⟩ := x1.cells
    refine (fail_ok o p v h1 x1.lt b hg).mono ?_
    rintro u h2 ⟨x2, b2⟩
    simp (maxSteps := 10000000) (disch := omega) only [vqA, tagOf, reduceIte, reduceCtorEq, reduceEqDiff, reduceAdd, reduceSub, reduceMul, reduceLT, reduceLeDiff, reduceToNat, Nat.reduceBEq, tqA]
    exact ⟨x2, b1.trans b2⟩
  · simp only [if_neg hc]
    generalize (byteR r).1 = c at hc
    by_cases h1 : c = 1
    · subst h1
      have e : ((1 : UInt8).toNat : Int) = 1 := rfl
      rw [e]
      simp (maxSteps := 10000000) (disch := omega) only [vqA, tagOf, reduceIte, reduceCtorEq, reduceEqDiff, reduceAdd, reduceSub, reduceMul, reduceLT, reduceLeDiff, reduceToNat, Nat.reduceBEq, tqA]
      exact ⟨x1, b1⟩
    · have e1 : ¬ (c.toNat : Int) = 1 := fun q => by
        have q2 : c.toNat = (1 : UInt8).toNat := by
          rw [show (1 : UInt8).toNat = 1 from rfl]
          omega
        exact h1 (UInt8.toNat_inj.1 q2)
      have hb : (c == 1) = false := by rw [beq_eq_false_iff_ne]; exact h1
      rw [hb]
      simp (maxSteps := 10000000) (disch := omega) only [vqA, tagOf, reduceIte, reduceCtorEq, reduceEqDiff, reduceAdd, reduceSub, reduceMul, reduceLT, reduceLeDiff, reduceToNat, Nat.reduceBEq, tqA]
      exact ⟨x1, b1⟩
theorem tkR_eight (l : List UInt8) : tkR (some l) 8 = if l.length < 8 then ([], none) else (l.take 8, some (l.drop 8)) := by
  unfold tkR
  simp only []
  by_cases h : l.length < 8
  · rw [if_pos h, if_pos (.inr (by omega))]
  · rw [if_neg h, if_neg (by omega)]
    rfl
theorem rnum_ok (o p : Nat) (r : Rd) (h : Heap) (x : Rdr o h p r) : Ret E Fd_ [.pointer (some ⟨p, 0, none⟩)] h (fun u h' => Rdr o h' p (numR r).2 ∧ But p p h h' ∧ u = .int .i64 (numR r).1) := by
  refine ret_fun Id_ (by simp) ?_
  unfold G5_
  simp (maxSteps := 10000000) (disch := omega) only [vqA, tagOf, reduceIte, reduceCtorEq, reduceEqDiff, reduceAdd, reduceSub, reduceMul, reduceLT, reduceLeDiff, reduceToNat, Nat.reduceBEq, tqA]
  refine (take_ok o p r 8 h x).mono ?_
  rintro u h1 ⟨x1, b1, w, rfl, hw, ow⟩
  have hn : numR r = match r with
    | none => (0, none)
    | some l => if l.length < 8 then (0, none) else (intN (l.take 8), some (l.drop 8)) := by cases r <;> rfl
  have hbad : (tkR r 8).2 = none → numR r = (0, none) := fun hr => by
    cases r with
    | none => rfl
    | some l =>
      rw [tkR_eight] at hr
      rw [hn]
      by_cases hc : l.length < 8
      · simp only [if_pos hc]
      · rw [if_neg hc] at hr; cases hr
  cases hr : (tkR r 8).2 with
  | none =>
    rw [hr] at x1
    rw [hbad hr]
    simp (maxSteps := 10000000) (disch := omega) only [vqA, tagOf, reduceIte, reduceCtorEq, reduceEqDiff, reduceAdd, reduceSub, reduceMul, reduceLT, reduceLeDiff, reduceToNat, Nat.reduceBEq, tqA, Option.isSome_none]
    exact ⟨x1, b1⟩
  | some l =>
    obtain ⟨m, h8, hm, hnm⟩ : ∃ m : List UInt8, m.length = 8 ∧ (tkR r 8).1 = m ∧ numR r = (intN m, some l) := by
      cases r with
      | none => cases hr
      | some l' =>
        rw [tkR_eight] at hr ⊢
        rw [hn]
        by_cases hc : l'.length < 8
        · rw [if_pos hc] at hr; cases hr
        · rw [if_neg hc] at hr
          cases hr
          refine ⟨l'.take 8, by rw [List.length_take]; omega, by rw [if_neg hc], by simp only [if_neg hc]⟩
    rw [hm] at hw
    rw [hr] at x1
    rw [hnm]
    obtain ⟨b2, o2, c2, rfl, hb2, hel⟩ := hw.elems (by intro e; rw [e] at h8; cases h8)
    simp (maxSteps := 10000000) (disch := omega) only [vqA, tagOf, reduceIte, reduceCtorEq, reduceEqDiff, reduceAdd, reduceSub, reduceMul, reduceLT, reduceLeDiff, reduceToNat, Nat.reduceBEq, tqA, Option.isSome_some]
    rw [h8]
    refine r_loop (k := 8) (fun k ρ h' => h' = h1 ∧ ∃ (i : Nat), i + k = 8 ∧ ρ 5 = .int .i64 (intN (m.take i)) ∧ ρ 15 = .slice (some ⟨b2, o2, none⟩) 8 c2 ∧ ρ 16 = .int .i64 8 ∧ ρ 17 = .int .i64 (i : Int)) ?_ ?_
    · rintro k ρ h' ⟨rfl, i, hk, r5, r15, r16, r17⟩
      unfold Gak_
      rcases Nat.lt_or_ge i 8 with hi | hi
      · have hx := List.getElem?_eq_getElem (l := m) (i := i) (by omega)
        have he := hel i _ hx
        have htk : m.take (i + 1) = m.take i ++ [m[i]] := by rw [List.take_add_one, hx]; rfl
        generalize m[i] = c at hx he htk
        have hcl := c.toNat_lt
        have hor := or_byte (m.take i) c (by rw [List.length_take]; omega)
        have hlen : (m.take i).length = i := by rw [List.length_take]; omega
        rw [hlen] at hor
        have hsh : arithV .shl .i64 (c.toNat : Int) (8 * (i : Int)) = some (.int .i64 (IntKind.i64.wrap ((c.toNat : Int) * 2 ^ (min (8 * (i : Int)).toNat 64)))) := by
          show (if 8 * (i : Int) < 0 then none else some (Value.int .i64 (IntKind.i64.wrap ((c.toNat : Int) * 2 ^ (min (8 * (i : Int)).toNat 64))))) = _
          rw [if_neg (by omega)]
        have hoa : ∀ a b, arithV .or .i64 a b = bitV .or .i64 a b := fun _ _ => rfl
        simp (maxSteps := 10000000) (disch := omega) only [vqA, tagOf, reduceIte, reduceCtorEq, reduceEqDiff, reduceAdd, reduceSub, reduceMul, reduceLT, reduceLeDiff, reduceToNat, Nat.reduceBEq, tqA, r5, r15, r16, r17, he, hsh, hoa, hor]
        exact ⟨k - 1, by omega, i + 1, by omega, by rw [htk], rfl⟩
      · rw [List.take_of_length_le (by omega)] at r5
        simp (maxSteps := 10000000) (disch := omega) only [vqA, tagOf, reduceIte, reduceCtorEq, reduceEqDiff, reduceAdd, reduceSub, reduceMul, reduceLT, reduceLeDiff, reduceToNat, Nat.reduceBEq, tqA, r5, r15, r16, r17]
        exact ⟨x1, b1⟩
    · exact ⟨rfl, 0, by omega, by simp (maxSteps := 10000000) (disch := omega) only [vqA, tagOf, reduceIte, reduceCtorEq, reduceEqDiff, reduceAdd, reduceSub, reduceMul, reduceLT, reduceLeDiff, reduceToNat, Nat.reduceBEq, tqA]; rfl, by simp (maxSteps := 10000000) (disch := omega) only [vqA, tagOf, reduceIte, reduceCtorEq, reduceEqDiff, reduceAdd, reduceSub, reduceMul, reduceLT, reduceLeDiff, reduceToNat, Nat.reduceBEq, tqA, h8], by simp (maxSteps := 10000000) (disch := omega) only [vqA, tagOf, reduceIte, reduceCtorEq, reduceEqDiff, reduceAdd, reduceSub, reduceMul, reduceLT, reduceLeDiff, reduceToNat, Nat.reduceBEq, tqA]; rfl, by simp (maxSteps := 10000000) (disch := omega) only [vqA, tagOf, reduceIte, reduceCtorEq, reduceEqDiff, reduceAdd, reduceSub, reduceMul, reduceLT, reduceLeDiff, reduceToNat, Nat.reduceBEq, tqA]; rfl⟩
end Go.Proofs.Ytdmakachnphddaa.C
