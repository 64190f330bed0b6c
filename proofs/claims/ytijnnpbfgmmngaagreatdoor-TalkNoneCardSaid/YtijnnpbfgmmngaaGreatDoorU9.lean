/- U9: the document's answer: bytes of hex, numbers. -/
import Derived.Test.YtijnnpbfgmmngaaGreatDoorU8
open Go Go.Vi Go.Tk
namespace Go.Proofs.YtijnnpbfgmmngaaGreatDoor.C
set_option linter.unusedSimpArgs false
set_option maxRecDepth 100000
set_option maxHeartbeats 40000000
theorem refBytes_ok (w : List UInt8) (hw : w.length ≤ 100000) (h : Heap) :
    Ret E f_laminaref25_bytes [.string (strOf w)] h (fun v h' => Grow h h' ∧ ∃ d l ok, v = .tuple ⟨[d, .bool ok]⟩ ∧ isRowB h h' d l ∧ (dataOf w).isSome = ok ∧ ∀ m, dataOf w = some m → l = m) := by
  refine ret_fun is_laminaref25_bytes (by simp) ?_
  unfold g_laminaref25_bytes
  by_cases h45 : w = [45]
  · subst h45
    simp (maxSteps := 10000000) (disch := omega) only [vq0, vq1, vq2, vq3, vq4, vq5, tagOf, reduceIte, reduceCtorEq, Nat.reduceEqDiff, Nat.reduceAdd, Nat.reduceSub, Nat.reduceMul, Nat.reduceLT, Nat.reduceLeDiff, Int.reduceToNat, Nat.reduceBEq, tq1, tq2, tq3]
    exact ⟨.refl _, _, [], _, rfl, .nil _ _ _ _, rfl, fun m hm => by cases hm; rfl⟩
  have hb : (w == [45]) = false := by rw [beq_eq_false_iff_ne]; exact h45
  have hd : dataOf w = if w = [] then none else bytesL w := by unfold dataOf; rw [if_neg h45]
  by_cases hodd : w.length % 2 = 1
  · have hbl : ∀ (n : Nat) (w : List UInt8), w.length = 2 * n + 1 → bytesL w = none := by
      intro n
      induction n with
      | zero =>
        intro w hl
        cases w with
        | nil => simp at hl
        | cons a r => cases r with
          | nil => rfl
          | cons b r => simp at hl
      | succ n ih =>
        intro w hl
        cases w with
        | nil => simp at hl
        | cons a r => cases r with
          | nil => rfl
          | cons b r =>
            unfold bytesL
            rw [ih r (by simp at hl; omega)]
            cases digOf a <;> cases digOf b <;> rfl
    have hdn : dataOf w = none := by
      rw [hd, hbl (w.length / 2) w (by omega)]
      split <;> rfl
    simp (maxSteps := 10000000) (disch := omega) only [vq0, vq1, vq2, vq3, vq4, vq5, tagOf, reduceIte, reduceCtorEq, Nat.reduceEqDiff, Nat.reduceAdd, Nat.reduceSub, Nat.reduceMul, Nat.reduceLT, Nat.reduceLeDiff, Int.reduceToNat, Nat.reduceBEq, tq1, tq2, tq3, hb]
    exact ⟨.refl _, _, [], false, rfl, .nil _ _ _ _, by rw [hdn]; rfl, fun m hm => by rw [hdn] at hm; cases hm⟩
  by_cases hnil : w = []
  · subst hnil
    simp (maxSteps := 10000000) (disch := omega) only [vq0, vq1, vq2, vq3, vq4, vq5, tagOf, reduceIte, reduceCtorEq, Nat.reduceEqDiff, Nat.reduceAdd, Nat.reduceSub, Nat.reduceMul, Nat.reduceLT, Nat.reduceLeDiff, Int.reduceToNat, Nat.reduceBEq, tq1, tq2, tq3, hb]
    exact ⟨.refl _, _, [], false, rfl, .nil _ _ _ _, rfl, fun m hm => by cases hm⟩
  have hne : (w == []) = false := by rw [beq_eq_false_iff_ne]; exact hnil
  rw [if_neg hnil] at hd
  simp (maxSteps := 10000000) (disch := omega) only [vq0, vq1, vq2, vq3, vq4, vq5, tagOf, reduceIte, reduceCtorEq, Nat.reduceEqDiff, Nat.reduceAdd, Nat.reduceSub, Nat.reduceMul, Nat.reduceLT, Nat.reduceLeDiff, Int.reduceToNat, Nat.reduceBEq, tq1, tq2, tq3, hb, hne]
  refine r_loop (k := w.length) (fun k ρ h' => ∃ (j : Nat) (d : Value) (m : List UInt8), 2 * j + k = w.length ∧ m.length = j ∧ bytesL w = (bytesL (w.drop (2 * j))).map (m ++ ·) ∧ ρ 0 = .string (strOf w) ∧ ρ 5 = .int .i64 ((2 * j : Nat) : Int) ∧ ρ 4 = d ∧ isRowB h h' d m ∧ Grow h h') ?_ ?_
  · rintro k ρ h' ⟨j, d, m, hk, hm, hbl, h0, h5, h4, hr, gr⟩
    unfold g_laminaref25_bytes_L0
    rcases Nat.lt_or_ge (2 * j) w.length with hlt | hge
    · have ha : w[2 * j]? = some w[2 * j] := List.getElem?_eq_getElem (by omega)
      have hb : w[2 * j + 1]? = some w[2 * j + 1] := List.getElem?_eq_getElem (by omega)
      rw [List.drop_eq_getElem_cons (show 2 * j < w.length by omega), List.drop_eq_getElem_cons (show 2 * j + 1 < w.length by omega)] at hbl
      generalize w[2 * j] = a at ha hbl
      generalize w[2 * j + 1] = b at hb hbl
      have ia : w[(((2 * j : Nat) : Int)).toNat]? = some a := by rw [Int.toNat_natCast]; exact ha
      have ib : w[(((2 * j : Nat) : Int) + 1).toNat]? = some b := by rw [show (((2 * j : Nat) : Int) + 1).toNat = 2 * j + 1 from by omega]; exact hb
      have hbad : (bytesL (a :: b :: w.drop (2 * j + 1 + 1))) = none → dataOf w = none := fun hn => by
        rw [hd, hbl, hn]; rfl
      simp (maxSteps := 10000000) (disch := omega) only [vq0, vq1, vq2, vq3, vq4, vq5, tagOf, reduceIte, reduceCtorEq, Nat.reduceEqDiff, Nat.reduceAdd, Nat.reduceSub, Nat.reduceMul, Nat.reduceLT, Nat.reduceLeDiff, Int.reduceToNat, Nat.reduceBEq, tq1, tq2, tq3, h0, h5, ia, ib, byteV_at, (refDigit_ok _ _).eq]
      rcases dig_cases a with ⟨da, qa⟩ | ⟨x, da, qa, hx⟩
      · simp (maxSteps := 10000000) (disch := omega) only [vq0, vq1, vq2, vq3, vq4, vq5, tagOf, reduceIte, reduceCtorEq, Nat.reduceEqDiff, Nat.reduceAdd, Nat.reduceSub, Nat.reduceMul, Nat.reduceLT, Nat.reduceLeDiff, Int.reduceToNat, Nat.reduceBEq, tq1, tq2, tq3, h0, h5, ia, ib, byteV_at, (refDigit_ok _ _).eq, qa]
        refine ⟨gr, _, [], false, rfl, .nil _ _ _ _, ?_, fun m hm => ?_⟩
        · rw [hbad (by unfold bytesL; rw [da])]; rfl
        · rw [hbad (by unfold bytesL; rw [da])] at hm; cases hm
      · rcases dig_cases b with ⟨db, qb⟩ | ⟨y, db, qb, hy⟩
        · simp (maxSteps := 10000000) (disch := omega) only [vq0, vq1, vq2, vq3, vq4, vq5, tagOf, reduceIte, reduceCtorEq, Nat.reduceEqDiff, Nat.reduceAdd, Nat.reduceSub, Nat.reduceMul, Nat.reduceLT, Nat.reduceLeDiff, Int.reduceToNat, Nat.reduceBEq, tq1, tq2, tq3, h0, h5, ia, ib, byteV_at, (refDigit_ok _ _).eq, qa, qb]
          refine ⟨gr, _, [], false, rfl, .nil _ _ _ _, ?_, fun m hm => ?_⟩
          · rw [hbad (by unfold bytesL; rw [da, db])]; rfl
          · rw [hbad (by unfold bytesL; rw [da, db])] at hm; cases hm
        · simp (maxSteps := 10000000) (disch := omega) only [vq0, vq1, vq2, vq3, vq4, vq5, tagOf, reduceIte, reduceCtorEq, Nat.reduceEqDiff, Nat.reduceAdd, Nat.reduceSub, Nat.reduceMul, Nat.reduceLT, Nat.reduceLeDiff, Int.reduceToNat, Nat.reduceBEq, tq1, tq2, tq3, h0, h5, ia, ib, byteV_at, (refDigit_ok _ _).eq, qa, qb, h4]
          obtain ⟨d2, h2, happ, o2, g2, _⟩ := own_app sl_s_uint8 okSrc_bytes (h := h'.new (.cells [.int .u8 (16 * (x : Int) + y)] true none)) (hr.grow (.new _ _)) (gr.more _) (b2 := h'.next) (o2 := 0) (n := 1) (c2 := 1)
            (new := [.int .u8 (16 * (x : Int) + y)]) (by rw [get_new_same]; rfl) (by omega) rfl (by simp; omega) (by omega)
          rw [happ]
          simp (maxSteps := 10000000) (disch := omega) only [vq0, vq1, vq2, vq3, vq4, vq5, tagOf, reduceIte, reduceCtorEq, Nat.reduceEqDiff, Nat.reduceAdd, Nat.reduceSub, Nat.reduceMul, Nat.reduceLT, Nat.reduceLeDiff, Int.reduceToNat, Nat.reduceBEq, tq1, tq2, tq3, h0, h5]
          refine ⟨k - 2, by omega, j + 1, d2, m ++ [UInt8.ofNat (16 * x + y)], by omega, by simp; omega, ?_, by rw [show ((2 * (j + 1) : Nat) : Int) = ((2 * j : Nat) : Int) + 2 from by omega], rfl, ?_, g2⟩
          · rw [hbl, show 2 * (j + 1) = 2 * j + 1 + 1 from by omega]
            conv => lhs; unfold bytesL
            rw [da, db]
            cases bytesL (w.drop (2 * j + 1 + 1)) <;> simp
          · have hbv : byteV (UInt8.ofNat (16 * x + y)) = .int .u8 (16 * (x : Int) + y) := by
              unfold byteV
              rw [UInt8.toNat_ofNat', Nat.mod_eq_of_lt (by omega)]
              congr 1
            unfold isRowB
            rw [List.map_append, List.map_cons, List.map_nil, hbv]
            exact o2
    · have hb1 : bytesL w = some m := by
        rw [hbl, List.drop_eq_nil_of_le hge]
        simp [bytesL]
      simp (maxSteps := 10000000) (disch := omega) only [vq0, vq1, vq2, vq3, vq4, vq5, tagOf, reduceIte, reduceCtorEq, Nat.reduceEqDiff, Nat.reduceAdd, Nat.reduceSub, Nat.reduceMul, Nat.reduceLT, Nat.reduceLeDiff, Int.reduceToNat, Nat.reduceBEq, tq1, tq2, tq3, h0, h5, h4]
      exact ⟨gr, _, m, true, rfl, hr, by rw [hd, hb1]; rfl, fun m2 hm2 => by rw [hd, hb1] at hm2; cases hm2; rfl⟩
  · exact ⟨0, _, [], by omega, rfl, by simp, by simp (maxSteps := 10000000) (disch := omega) only [vq0, vq1, vq2, vq3, vq4, vq5, tagOf, reduceIte, reduceCtorEq, Nat.reduceEqDiff, Nat.reduceAdd, Nat.reduceSub, Nat.reduceMul, Nat.reduceLT, Nat.reduceLeDiff, Int.reduceToNat, Nat.reduceBEq, tq1, tq2, tq3], by simp (maxSteps := 10000000) (disch := omega) only [vq0, vq1, vq2, vq3, vq4, vq5, tagOf, reduceIte, reduceCtorEq, Nat.reduceEqDiff, Nat.reduceAdd, Nat.reduceSub, Nat.reduceMul, Nat.reduceLT, Nat.reduceLeDiff, Int.reduceToNat, Nat.reduceBEq, tq1, tq2, tq3]; rfl, rfl, by simp (maxSteps := 10000000) (disch := omega) only [vq0, vq1, vq2, vq3, vq4, vq5, tagOf, reduceIte, reduceCtorEq, Nat.reduceEqDiff, Nat.reduceAdd, Nat.reduceSub, Nat.reduceMul, Nat.reduceLT, Nat.reduceLeDiff, Int.reduceToNat, Nat.reduceBEq, tq1, tq2, tq3]; exact .nil _ _ _ _, .refl _⟩
def m64 (n : Nat) : Nat := n % 18446744073709551616
theorem m64_of {n : Nat} (h : n < 18446744073709551616) : m64 n = n := Nat.mod_eq_of_lt h
theorem m64_lt (n : Nat) : m64 n < 18446744073709551616 := Nat.mod_lt _ (by decide)
def uR (acc : Nat) (l : List UInt8) : Nat := l.foldl (fun a b => m64 (m64 (10 * a) + (b.toNat - 48))) acc
theorem uR_cons (acc : Nat) (b : UInt8) (r : List UInt8) : uR acc (b :: r) = uR (m64 (m64 (10 * acc) + (b.toNat - 48))) r := by
  unfold uR
  rw [List.foldl_cons]
theorem uR_ev : ∀ (l : List UInt8) (acc : Nat), evD acc l < 18446744073709551616 → uR acc l = evD acc l := by
  intro l
  induction l with
  | nil => intro acc _; rfl
  | cons b r ih =>
    intro acc h
    rw [evD_cons] at h ⊢
    have hge := evD_ge r (acc * 10 + (b.toNat - 48))
    rw [uR_cons, m64_of (n := 10 * acc) (by omega), m64_of (by omega), show 10 * acc + (b.toNat - 48) = acc * 10 + (b.toNat - 48) from by omega]
    exact ih _ h
end Go.Proofs.YtijnnpbfgmmngaaGreatDoor.C
