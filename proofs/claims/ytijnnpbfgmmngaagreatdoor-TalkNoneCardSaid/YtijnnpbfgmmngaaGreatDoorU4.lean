/- U4: bytes of hex. -/
import Derived.Test.YtijnnpbfgmmngaaGreatDoorU3
open Go Go.Vi Go.Tk
namespace Go.Proofs.YtijnnpbfgmmngaaGreatDoor.C
set_option linter.unusedSimpArgs false
set_option maxRecDepth 100000
set_option maxHeartbeats 40000000
theorem byteV_at (c : UInt8) : byteV c = .int .u8 (c.toNat : Int) := rfl
theorem okSrc_bytes : okSrc E (some t_s_uint8) = some true := by kernel_rfl
def isRowB (h0 h : Heap) (d : Value) (l : List UInt8) : Prop := Own h0 h 1 t_uint8 d (l.map byteV)
theorem bytesOf_ok (w : List UInt8) (hw : w.length ≤ 100000) (h : Heap) :
    Ret E f_talk_bytesOf [.string (strOf w)] h (fun v h' => Grow h h' ∧ ∃ d l ok, v = .tuple ⟨[d, .bool ok]⟩ ∧ isRowB h h' d l ∧ (dataOf w).isSome = ok ∧ ∀ m, dataOf w = some m → l = m) := by
  refine ret_fun is_talk_bytesOf (by simp) ?_
  unfold g_talk_bytesOf
  by_cases h45 : w = [45]
  · subst h45
    simp (maxSteps := 10000000) (disch := omega) only [vq0, vq1, vq2, vq3, vq4, vq5, tagOf, reduceIte, reduceCtorEq, Nat.reduceEqDiff, Nat.reduceAdd, Nat.reduceSub, Nat.reduceMul, Nat.reduceLT, Nat.reduceLeDiff, Int.reduceToNat, Nat.reduceBEq, tq1, tq2, tq3]
    exact ⟨.refl _, _, [], _, rfl, .nil _ _ _ _, rfl, fun m hm => by cases hm; rfl⟩
  · have hb : (w == [45]) = false := by rw [beq_eq_false_iff_ne]; exact h45
    have hd : dataOf w = if w = [] then none else bytesL w := by unfold dataOf; rw [if_neg h45]
    simp (maxSteps := 10000000) (disch := omega) only [vq0, vq1, vq2, vq3, vq4, vq5, tagOf, reduceIte, reduceCtorEq, Nat.reduceEqDiff, Nat.reduceAdd, Nat.reduceSub, Nat.reduceMul, Nat.reduceLT, Nat.reduceLeDiff, Int.reduceToNat, Nat.reduceBEq, tq1, tq2, tq3, hb]
    refine r_loop (k := w.length) (fun k ρ h' => ∃ (j : Nat) (d : Value) (m : List UInt8), 2 * j + k = w.length ∧ m.length = j ∧ bytesL w = (bytesL (w.drop (2 * j))).map (m ++ ·) ∧ ρ 0 = .string (strOf w) ∧ ρ 5 = .int .i64 ((2 * j : Nat) : Int) ∧ ρ 4 = d ∧ isRowB h h' d m ∧ Grow h h') ?_ ?_
    · rintro k ρ h' ⟨j, d, m, hk, hm, hbl, h0, h5, h4, hr, gr⟩
      unfold g_talk_bytesOf_L0
      rcases Nat.lt_or_ge (2 * j + 1) w.length with hlt | hge
      · have ha : w[2 * j]? = some w[2 * j] := List.getElem?_eq_getElem (by omega)
        have hb : w[2 * j + 1]? = some w[2 * j + 1] := List.getElem?_eq_getElem (by omega)
        rw [List.drop_eq_getElem_cons (show 2 * j < w.length by omega), List.drop_eq_getElem_cons (show 2 * j + 1 < w.length by omega)] at hbl
        generalize w[2 * j] = a at ha hbl
        generalize w[2 * j + 1] = b at hb hbl
        have ia : w[(((2 * j : Nat) : Int)).toNat]? = some a := by rw [Int.toNat_natCast]; exact ha
        have ib : w[(((2 * j : Nat) : Int) + 1).toNat]? = some b := by rw [show (((2 * j : Nat) : Int) + 1).toNat = 2 * j + 1 from by omega]; exact hb
        simp (maxSteps := 10000000) (disch := omega) only [vq0, vq1, vq2, vq3, vq4, vq5, tagOf, reduceIte, reduceCtorEq, Nat.reduceEqDiff, Nat.reduceAdd, Nat.reduceSub, Nat.reduceMul, Nat.reduceLT, Nat.reduceLeDiff, Int.reduceToNat, Nat.reduceBEq, tq1, tq2, tq3, h0, h5, ia, ib, byteV_at, indexByte_ret]
        have hbad : (bytesL (a :: b :: w.drop (2 * j + 1 + 1))) = none → dataOf w = none := fun hn => by
          rw [hd, hbl, hn]
          split <;> rfl
        rcases dig_cases a with ⟨da, qa⟩ | ⟨x, da, qa, hx⟩
        · simp (maxSteps := 10000000) (disch := omega) only [vq0, vq1, vq2, vq3, vq4, vq5, tagOf, reduceIte, reduceCtorEq, Nat.reduceEqDiff, Nat.reduceAdd, Nat.reduceSub, Nat.reduceMul, Nat.reduceLT, Nat.reduceLeDiff, Int.reduceToNat, Nat.reduceBEq, tq1, tq2, tq3, h0, h5, qa, veq_int]
          refine ⟨gr, _, [], false, rfl, .nil _ _ _ _, ?_, fun m hm => ?_⟩
          · rw [hbad (by unfold bytesL; rw [da])]; rfl
          · rw [hbad (by unfold bytesL; rw [da])] at hm; cases hm
        · rcases dig_cases b with ⟨db, qb⟩ | ⟨y, db, qb, hy⟩
          · simp (maxSteps := 10000000) (disch := omega) only [vq0, vq1, vq2, vq3, vq4, vq5, tagOf, reduceIte, reduceCtorEq, Nat.reduceEqDiff, Nat.reduceAdd, Nat.reduceSub, Nat.reduceMul, Nat.reduceLT, Nat.reduceLeDiff, Int.reduceToNat, Nat.reduceBEq, tq1, tq2, tq3, h0, h5, qa, qb, veq_int]
            refine ⟨gr, _, [], false, rfl, .nil _ _ _ _, ?_, fun m hm => ?_⟩
            · rw [hbad (by unfold bytesL; rw [da, db])]; rfl
            · rw [hbad (by unfold bytesL; rw [da, db])] at hm; cases hm
          · simp (maxSteps := 10000000) (disch := omega) only [vq0, vq1, vq2, vq3, vq4, vq5, tagOf, reduceIte, reduceCtorEq, Nat.reduceEqDiff, Nat.reduceAdd, Nat.reduceSub, Nat.reduceMul, Nat.reduceLT, Nat.reduceLeDiff, Int.reduceToNat, Nat.reduceBEq, tq1, tq2, tq3, h0, h5, qa, qb, veq_int, h4, shl_ok hx, or_ok hx hy]
            obtain ⟨d2, h2, happ, o2, g2, _⟩ := own_app sl_s_uint8 okSrc_bytes (h := h'.new (.cells [.int .u8 ((16 * x + y : Nat) : Int)] true none)) (hr.grow (.new _ _)) (gr.more _) (b2 := h'.next) (o2 := 0) (n := 1) (c2 := 1)
              (new := [.int .u8 ((16 * x + y : Nat) : Int)]) (by rw [get_new_same]; rfl) (by omega) rfl (by simp; omega) (by omega)
            rw [happ]
            simp (maxSteps := 10000000) (disch := omega) only [vq0, vq1, vq2, vq3, vq4, vq5, tagOf, reduceIte, reduceCtorEq, Nat.reduceEqDiff, Nat.reduceAdd, Nat.reduceSub, Nat.reduceMul, Nat.reduceLT, Nat.reduceLeDiff, Int.reduceToNat, Nat.reduceBEq, tq1, tq2, tq3, h0, h5]
            refine ⟨k - 2, by omega, j + 1, d2, m ++ [UInt8.ofNat (16 * x + y)], by omega, by simp; omega, ?_, by rw [show ((2 * (j + 1) : Nat) : Int) = ((2 * j : Nat) : Int) + 2 from by omega], rfl, ?_, g2⟩
            · rw [hbl, show 2 * (j + 1) = 2 * j + 1 + 1 from by omega]
              conv => lhs; unfold bytesL
              rw [da, db]
              cases bytesL (w.drop (2 * j + 1 + 1)) <;> simp
            · have hbv : byteV (UInt8.ofNat (16 * x + y)) = .int .u8 ((16 * x + y : Nat) : Int) := by
                unfold byteV
                rw [UInt8.toNat_ofNat', Nat.mod_eq_of_lt (by omega)]
              unfold isRowB
              rw [List.map_append, List.map_cons, List.map_nil, hbv]
              exact o2
      · rcases Nat.lt_or_ge (2 * j) w.length with hodd | heven
        · have hb1 : bytesL w = none := by
            rw [hbl, List.drop_eq_getElem_cons hodd, List.drop_eq_nil_of_le (by omega)]
            rfl
          have hdn : dataOf w = none := by rw [hd, hb1]; split <;> rfl
          rcases hr with ⟨rfl, hl⟩ | ⟨b, n, rfl, hn, hnl, hq1, hq2, hq3⟩
          · simp (maxSteps := 10000000) (disch := omega) only [vq0, vq1, vq2, vq3, vq4, vq5, tagOf, reduceIte, reduceCtorEq, Nat.reduceEqDiff, Nat.reduceAdd, Nat.reduceSub, Nat.reduceMul, Nat.reduceLT, Nat.reduceLeDiff, Int.reduceToNat, Nat.reduceBEq, tq1, tq2, tq3, h0, h5, h4]
            exact ⟨gr, _, [], false, rfl, .nil _ _ _ _, by rw [hdn]; rfl, fun m hm => by rw [hdn] at hm; cases hm⟩
          · simp (maxSteps := 10000000) (disch := omega) only [vq0, vq1, vq2, vq3, vq4, vq5, tagOf, reduceIte, reduceCtorEq, Nat.reduceEqDiff, Nat.reduceAdd, Nat.reduceSub, Nat.reduceMul, Nat.reduceLT, Nat.reduceLeDiff, Int.reduceToNat, Nat.reduceBEq, tq1, tq2, tq3, h0, h5, h4]
            exact ⟨gr, _, m, false, rfl, .inr ⟨b, n, rfl, hn, hnl, hq1, hq2, hq3⟩, by rw [hdn]; rfl, fun m hm => by rw [hdn] at hm; cases hm⟩
        · have hb1 : bytesL w = some m := by
            rw [hbl, List.drop_eq_nil_of_le heven]
            simp [bytesL]
          rcases hr with ⟨rfl, hl⟩ | ⟨b, n, rfl, hn, hnl, hq1, hq2, hq3⟩
          · have hm0 : m = [] := by simpa using hl
            have hw0 : w = [] := by
              subst hm0
              rw [List.length_nil] at hm
              exact List.eq_nil_of_length_eq_zero (by omega)
            have hdn : dataOf w = none := by rw [hd, if_pos hw0]
            simp (maxSteps := 10000000) (disch := omega) only [vq0, vq1, vq2, vq3, vq4, vq5, tagOf, reduceIte, reduceCtorEq, Nat.reduceEqDiff, Nat.reduceAdd, Nat.reduceSub, Nat.reduceMul, Nat.reduceLT, Nat.reduceLeDiff, Int.reduceToNat, Nat.reduceBEq, tq1, tq2, tq3, h0, h5, h4]
            exact ⟨gr, _, [], false, rfl, .nil _ _ _ _, by rw [hdn]; rfl, fun m hm => by rw [hdn] at hm; cases hm⟩
          · have hw0 : w ≠ [] := fun e => by
              subst e
              rw [List.length_map] at hnl
              simp at heven hk
              omega
            have hdn : dataOf w = some m := by rw [hd, if_neg hw0, hb1]
            simp (maxSteps := 10000000) (disch := omega) only [vq0, vq1, vq2, vq3, vq4, vq5, tagOf, reduceIte, reduceCtorEq, Nat.reduceEqDiff, Nat.reduceAdd, Nat.reduceSub, Nat.reduceMul, Nat.reduceLT, Nat.reduceLeDiff, Int.reduceToNat, Nat.reduceBEq, tq1, tq2, tq3, h0, h5, h4]
            exact ⟨gr, _, m, true, rfl, .inr ⟨b, n, rfl, hn, hnl, hq1, hq2, hq3⟩, by rw [hdn]; rfl, fun m2 hm2 => by rw [hdn] at hm2; cases hm2; rfl⟩
    · exact ⟨0, _, [], by omega, rfl, by simp, by simp (maxSteps := 10000000) (disch := omega) only [vq0, vq1, vq2, vq3, vq4, vq5, tagOf, reduceIte, reduceCtorEq, Nat.reduceEqDiff, Nat.reduceAdd, Nat.reduceSub, Nat.reduceMul, Nat.reduceLT, Nat.reduceLeDiff, Int.reduceToNat, Nat.reduceBEq, tq1, tq2, tq3], by simp (maxSteps := 10000000) (disch := omega) only [vq0, vq1, vq2, vq3, vq4, vq5, tagOf, reduceIte, reduceCtorEq, Nat.reduceEqDiff, Nat.reduceAdd, Nat.reduceSub, Nat.reduceMul, Nat.reduceLT, Nat.reduceLeDiff, Int.reduceToNat, Nat.reduceBEq, tq1, tq2, tq3]; rfl, rfl, by simp (maxSteps := 10000000) (disch := omega) only [vq0, vq1, vq2, vq3, vq4, vq5, tagOf, reduceIte, reduceCtorEq, Nat.reduceEqDiff, Nat.reduceAdd, Nat.reduceSub, Nat.reduceMul, Nat.reduceLT, Nat.reduceLeDiff, Int.reduceToNat, Nat.reduceBEq, tq1, tq2, tq3]; exact .nil _ _ _ _, .refl _⟩
end Go.Proofs.YtijnnpbfgmmngaaGreatDoor.C
