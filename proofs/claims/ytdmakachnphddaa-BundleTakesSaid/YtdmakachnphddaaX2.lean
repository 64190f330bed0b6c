/- X2: an object's size, as the program and as the document say it; the diff between nothing and nothing. -/
import Derived.Test.YtdmakachnphddaaX1
open Nat (reduceEqDiff reduceAdd reduceSub reduceMul reduceLT reduceLeDiff)
open Int (reduceToNat)
open Go Go.Vi Go.Bm
namespace Go.Proofs.Ytdmakachnphddaa.C
set_option linter.unusedSimpArgs false
set_option maxRecDepth 100000
set_option maxHeartbeats 40000000
def andX (n : Int) : Int := IntKind.i64.wrap ((BitVec.ofInt 64 n &&& BitVec.ofInt 64 (n - 1)).toNat : Int)
theorem and_all : ∀ m : Fin 257, 16 ≤ m.val → (decide (andX (m.val : Int) = 0) = objB (m.val : Int)) := by decide +kernel
theorem and_obj {n : Int} (h0 : 16 ≤ n) (h1 : n ≤ 256) : decide (andX n = 0) = objB n := by
  obtain ⟨m, rfl⟩ : ∃ m : Nat, n = (m : Int) := ⟨n.toNat, by omega⟩
  exact and_all ⟨m, by omega⟩ (by show 16 ≤ m; omega)
theorem sound0_ret (n : Int) (h : Heap) (Q : Value → Heap → Prop) : Ret E FT_ [.int .i64 0, .int .i64 n] h Q = Q (.bool (objB n)) h := by
  refine Ret.eq ?_ Q
  refine ret_fun I3_ (by simp) ?_
  unfold Gag_
  by_cases h0 : 16 ≤ n
  · by_cases h1 : n ≤ 256
    · have ha : arithV .and .i64 n (n - 1) = some (.int .i64 (andX n)) := rfl
      have hb := and_obj h0 h1
      by_cases hz : andX n = 0
      · rw [decide_eq_true hz] at hb
        rw [← hb]
        simp (maxSteps := 10000000) (disch := omega) only [vqA, tagOf, reduceIte, reduceCtorEq, reduceEqDiff, reduceAdd, reduceSub, reduceMul, reduceLT, reduceLeDiff, reduceToNat, Nat.reduceBEq, tqA, ha]
      · rw [decide_eq_false hz] at hb
        rw [← hb]
        simp (maxSteps := 10000000) (disch := omega) only [vqA, tagOf, reduceIte, reduceCtorEq, reduceEqDiff, reduceAdd, reduceSub, reduceMul, reduceLT, reduceLeDiff, reduceToNat, Nat.reduceBEq, tqA, ha]
    · have e : objB n = false := decide_eq_false (by omega)
      simp (maxSteps := 10000000) (disch := omega) only [vqA, tagOf, reduceIte, reduceCtorEq, reduceEqDiff, reduceAdd, reduceSub, reduceMul, reduceLT, reduceLeDiff, reduceToNat, Nat.reduceBEq, tqA, e]
  · have e : objB n = false := decide_eq_false (by omega)
    simp (maxSteps := 10000000) (disch := omega) only [vqA, tagOf, reduceIte, reduceCtorEq, reduceEqDiff, reduceAdd, reduceSub, reduceMul, reduceLT, reduceLeDiff, reduceToNat, Nat.reduceBEq, tqA, e]
theorem refObj_ret (n : Int) (h : Heap) (Q : Value → Heap → Prop) : Ret E FM_ [.int .i64 0, .int .i64 n] h Q = Q (.bool (objB n)) h := by
  refine Ret.eq ?_ Q
  refine ret_fun I4_ (by simp) ?_
  unfold Gz_
  by_cases h1 : n = 16
  · subst h1; simp (maxSteps := 10000000) (disch := omega) only [vqA, tagOf, reduceIte, reduceCtorEq, reduceEqDiff, reduceAdd, reduceSub, reduceMul, reduceLT, reduceLeDiff, reduceToNat, Nat.reduceBEq, tqA]; rfl
  by_cases h2 : n = 32
  · subst h2; simp (maxSteps := 10000000) (disch := omega) only [vqA, tagOf, reduceIte, reduceCtorEq, reduceEqDiff, reduceAdd, reduceSub, reduceMul, reduceLT, reduceLeDiff, reduceToNat, Nat.reduceBEq, tqA]; rfl
  by_cases h3 : n = 64
  · subst h3; simp (maxSteps := 10000000) (disch := omega) only [vqA, tagOf, reduceIte, reduceCtorEq, reduceEqDiff, reduceAdd, reduceSub, reduceMul, reduceLT, reduceLeDiff, reduceToNat, Nat.reduceBEq, tqA]; rfl
  by_cases h4 : n = 128
  · subst h4; simp (maxSteps := 10000000) (disch := omega) only [vqA, tagOf, reduceIte, reduceCtorEq, reduceEqDiff, reduceAdd, reduceSub, reduceMul, reduceLT, reduceLeDiff, reduceToNat, Nat.reduceBEq, tqA]; rfl
  by_cases h5 : n = 256
  · subst h5; simp (maxSteps := 10000000) (disch := omega) only [vqA, tagOf, reduceIte, reduceCtorEq, reduceEqDiff, reduceAdd, reduceSub, reduceMul, reduceLT, reduceLeDiff, reduceToNat, Nat.reduceBEq, tqA]; rfl
  have e : objB n = false := decide_eq_false (by omega)
  simp (maxSteps := 10000000) (disch := omega) only [vqA, tagOf, reduceIte, reduceCtorEq, reduceEqDiff, reduceAdd, reduceSub, reduceMul, reduceLT, reduceLeDiff, reduceToNat, Nat.reduceBEq, tqA, e]
theorem pieces0_ret (n : Int) (h : Heap) (Q : Value → Heap → Prop) : Ret E FW_ [.int .i64 0, .int .i64 n, .int .i64 0, .int .i64 0] h Q = Q (.tuple ⟨[.slice none 0 0, if objB n = true then .nilIface else .iface TA_ (.int .i64 1)]⟩) h := by
  refine Ret.eq ?_ Q
  refine ret_fun IR_ (by simp) ?_
  unfold GaE_
  cases hb : objB n with
  | false =>
    rw [if_neg (by decide)]
    simp (maxSteps := 10000000) (disch := omega) only [vqA, tagOf, reduceIte, reduceCtorEq, reduceEqDiff, reduceAdd, reduceSub, reduceMul, reduceLT, reduceLeDiff, reduceToNat, Nat.reduceBEq, tqA, sound0_ret, hb]
  | true =>
    rw [if_pos rfl]
    simp (maxSteps := 10000000) (disch := omega) only [vqA, tagOf, reduceIte, reduceCtorEq, reduceEqDiff, reduceAdd, reduceSub, reduceMul, reduceLT, reduceLeDiff, reduceToNat, Nat.reduceBEq, tqA, sound0_ret, hb]
    refine r_loop (k := 0) (fun k ρ h' => h' = h ∧ ρ 3 = .int .i64 0 ∧ ρ 10 = .slice none 0 0 ∧ ρ 11 = .int .i64 0) ?_ ?_
    · rintro k ρ h' ⟨rfl, r3, r10, r11⟩
      unfold Gas_
      simp (maxSteps := 10000000) (disch := omega) only [vqA, tagOf, reduceIte, reduceCtorEq, reduceEqDiff, reduceAdd, reduceSub, reduceMul, reduceLT, reduceLeDiff, reduceToNat, Nat.reduceBEq, tqA, r3, r10, r11]
    · exact ⟨rfl, by simp (maxSteps := 10000000) (disch := omega) only [vqA, tagOf, reduceIte, reduceCtorEq, reduceEqDiff, reduceAdd, reduceSub, reduceMul, reduceLT, reduceLeDiff, reduceToNat, Nat.reduceBEq, tqA], by simp (maxSteps := 10000000) (disch := omega) only [vqA, tagOf, reduceIte, reduceCtorEq, reduceEqDiff, reduceAdd, reduceSub, reduceMul, reduceLT, reduceLeDiff, reduceToNat, Nat.reduceBEq, tqA], by simp (maxSteps := 10000000) (disch := omega) only [vqA, tagOf, reduceIte, reduceCtorEq, reduceEqDiff, reduceAdd, reduceSub, reduceMul, reduceLT, reduceLeDiff, reduceToNat, Nat.reduceBEq, tqA]⟩
theorem resized0_ok (h : Heap) : Ret E F3_ [.slice none 0 0, .int .i64 0] h (fun v h' => Grow h h' ∧ v = .slice (some ⟨h.next, 0, none⟩) 0 0) := by
  refine ret_fun IJ_ (by simp) ?_
  unfold Gat_
  have hc := copy_row (E := E) Sa_ (b := h.next) (o := 0) (dlen := 0) (dcap := 0) (n := 0) (x := .slice none 0 0) (l := []) (cs := []) (p := none) (RowV.nil (h.new (.cells [] true none)) 1) rfl rfl (get_new_same _ _) (by decide)
  rw [if_pos (by decide)] at hc
  have hr : List.replicate 0 (Value.int .u8 0) = [] := rfl
  simp (maxSteps := 10000000) (disch := omega) only [vqA, tagOf, reduceIte, reduceCtorEq, reduceEqDiff, reduceAdd, reduceSub, reduceMul, reduceLT, reduceLeDiff, reduceToNat, Nat.reduceBEq, tqA, hc, hr]
  exact Grow.new h _
theorem between0_ok (n : Int) (h : Heap) : Ret E F2_ [.slice none 0 0, .slice none 0 0, .int .i64 n] h (fun u h' => Grow h h' ∧ ∃ x, u = .tuple ⟨[.agg ⟨[.int .i64 0, .int .i64 0, x]⟩, if objB n = true then .nilIface else .iface TA_ (.int .i64 1)]⟩ ∧ oneCell x = true ∧ cellsOf x = [x]) := by
  refine ret_fun Ia_ (by simp) ?_
  unfold Gay_
  simp (maxSteps := 10000000) (disch := omega) only [vqA, tagOf, reduceIte, reduceCtorEq, reduceEqDiff, reduceAdd, reduceSub, reduceMul, reduceLT, reduceLeDiff, reduceToNat, Nat.reduceBEq, tqA]
  refine ret_fun IE_ (by simp) ?_
  unfold G7_
  have z0 : ((0 : Nat) : Int) = 0 := rfl
  cases hb : objB n with
  | false =>
    rw [if_neg (by decide)]
    simp (maxSteps := 10000000) (disch := omega) only [vqA, tagOf, reduceIte, reduceCtorEq, reduceEqDiff, reduceAdd, reduceSub, reduceMul, reduceLT, reduceLeDiff, reduceToNat, Nat.reduceBEq, tqA, pieces0_ret, hb, z0]
    exact ⟨(((Grow.new h _).more _).set (by omega) _).set (Nat.le_refl _) _, _, rfl, rfl, rfl⟩
  | true =>
    rw [if_pos rfl]
    have hs : sizedB 0 = true := rfl
    simp (maxSteps := 10000000) (disch := omega) only [vqA, tagOf, reduceIte, reduceCtorEq, reduceEqDiff, reduceAdd, reduceSub, reduceMul, reduceLT, reduceLeDiff, reduceToNat, Nat.reduceBEq, tqA, pieces0_ret, hb, z0, sized_ret, hs]
    have g0 : ∀ a b c d : Blk, Grow h ((((h.new a).new b).new c).set (h.next + 2) d) := fun a b c d => (((Grow.new h a).more b).more c).set (by omega) d
    refine (resized0_ok _).mono ?_
    rintro u h1 ⟨g1, rfl⟩
    simp (maxSteps := 10000000) (disch := omega) only [vqA, tagOf, reduceIte, reduceCtorEq, reduceEqDiff, reduceAdd, reduceSub, reduceMul, reduceLT, reduceLeDiff, reduceToNat, Nat.reduceBEq, tqA]
    refine r_loop (k := 0) (fun k ρ h' => h' = h1 ∧ ρ 8 = .pointer (some ⟨h.next + 1, 0, none⟩) ∧ ρ 12 = .pointer (some ⟨h.next + 2, 0, none⟩) ∧ ρ 47 = .int .i64 0 ∧ ρ 48 = .int .i64 0) ?_ ?_
    · rintro k ρ h' ⟨rfl, r8, r12, r47, r48⟩
      unfold GB_
      have m2 := g1.get (h.next + 2) (by simp (maxSteps := 10000000) (disch := omega) only [vqA, tagOf, reduceIte, reduceCtorEq, reduceEqDiff, reduceAdd, reduceSub, reduceMul, reduceLT, reduceLeDiff, reduceToNat, Nat.reduceBEq, tqA]; omega)
      have m1 := g1.get (h.next + 1) (by simp (maxSteps := 10000000) (disch := omega) only [vqA, tagOf, reduceIte, reduceCtorEq, reduceEqDiff, reduceAdd, reduceSub, reduceMul, reduceLT, reduceLeDiff, reduceToNat, Nat.reduceBEq, tqA]; omega)
      have m0 := g1.get h.next (by simp (maxSteps := 10000000) (disch := omega) only [vqA, tagOf, reduceIte, reduceCtorEq, reduceEqDiff, reduceAdd, reduceSub, reduceMul, reduceLT, reduceLeDiff, reduceToNat, Nat.reduceBEq, tqA]; omega)
      simp (maxSteps := 10000000) (disch := omega) only [vqA, tagOf, reduceIte, reduceCtorEq, reduceEqDiff, reduceAdd, reduceSub, reduceMul, reduceLT, reduceLeDiff, reduceToNat, Nat.reduceBEq, tqA] at m0 m1 m2
      simp (maxSteps := 10000000) (disch := omega) only [vqA, tagOf, reduceIte, reduceCtorEq, reduceEqDiff, reduceAdd, reduceSub, reduceMul, reduceLT, reduceLeDiff, reduceToNat, Nat.reduceBEq, tqA, r8, r12, r47, r48, m0, m1, m2]
      exact ⟨(((g0 _ _ _ _).trans g1).set (by omega) _).set (Nat.le_refl _) _, _, rfl, rfl, rfl⟩
    · exact ⟨rfl, by simp (maxSteps := 10000000) (disch := omega) only [vqA, tagOf, reduceIte, reduceCtorEq, reduceEqDiff, reduceAdd, reduceSub, reduceMul, reduceLT, reduceLeDiff, reduceToNat, Nat.reduceBEq, tqA], by simp (maxSteps := 10000000) (disch := omega) only [vqA, tagOf, reduceIte, reduceCtorEq, reduceEqDiff, reduceAdd, reduceSub, reduceMul, reduceLT, reduceLeDiff, reduceToNat, Nat.reduceBEq, tqA], by simp (maxSteps := 10000000) (disch := omega) only [vqA, tagOf, reduceIte, reduceCtorEq, reduceEqDiff, reduceAdd, reduceSub, reduceMul, reduceLT, reduceLeDiff, reduceToNat, Nat.reduceBEq, tqA, z0], by simp (maxSteps := 10000000) (disch := omega) only [vqA, tagOf, reduceIte, reduceCtorEq, reduceEqDiff, reduceAdd, reduceSub, reduceMul, reduceLT, reduceLeDiff, reduceToNat, Nat.reduceBEq, tqA]⟩
end Go.Proofs.Ytdmakachnphddaa.C
