/- X1: names. -/
import Derived.Test.YtdmakachnphddaaW11
import Derived.Test.YtdmakachnphddaaMa
open Nat (reduceEqDiff reduceAdd reduceSub reduceMul reduceLT reduceLeDiff)
open Int (reduceToNat)
open Go Go.Vi Go.Bm
namespace Go.Proofs.Ytdmakachnphddaa.C
set_option linter.unusedSimpArgs false
set_option maxRecDepth 100000
set_option maxHeartbeats 40000000
theorem byteV_at (c : UInt8) : byteV c = .int .u8 (c.toNat : Int) := rfl
def oddI (c : Int) : Bool := !(decide (97 ≤ c ∧ c ≤ 122) || decide (48 ≤ c ∧ c ≤ 57) || decide (c = 45))
theorem odd_ok (c : Int) (h : Heap) : Ret E FV_ [.int .i32 c] h (fun v h' => v = .bool (oddI c) ∧ h' = h) := by
  refine ret_fun I2_ (by simp) ?_
  unfold GaG_
  by_cases h1 : c < 97 <;> by_cases h2 : c > 122 <;> by_cases h3 : c < 48 <;> by_cases h4 : c > 57 <;> by_cases h5 : c = 45 <;> first | omega | (simp (maxSteps := 10000000) (disch := omega) only [vqA, tagOf, reduceIte, reduceCtorEq, reduceEqDiff, reduceAdd, reduceSub, reduceMul, reduceLT, reduceLeDiff, reduceToNat, Nat.reduceBEq, tqA]; unfold oddI; first | (simp; omega))
def hitI (p : Int → Bool) : List UInt8 → Nat → Int
  | [], _ => -1
  | c :: r, k => if p c.toNat then k else hitI p r (k + 1)
theorem indexFunc_ok {p : Int → Bool} {f : FuncId} (hp : ∀ c h, Ret E f [.int .i32 c] h (fun v h' => v = .bool (p c) ∧ h' = h)) (hi : ∀ c : Int, 128 ≤ c → p c = true) (l : List UInt8) (_hl : l.length ≤ 100000000) (h : Heap) :
    Ret E F6_ [.string (strOf l), .func (.func f) #[] #[], .bool true] h (fun v h' => v = .int .i64 (hitI p l 0) ∧ Grow h h') := by
  refine ret_fun Iac_ (by simp) ?_
  unfold GP_
  simp (maxSteps := 10000000) (disch := omega) only [vqA, tagOf, reduceIte, reduceCtorEq, reduceEqDiff, reduceAdd, reduceSub, reduceMul, reduceLT, reduceLeDiff, reduceToNat, Nat.reduceBEq, tqA]
  refine r_loop (k := l.length) (fun k ρ h' => ∃ pos, pos + k = l.length ∧ hitI p (l.drop pos) pos = hitI p l 0 ∧ ρ 1 = .func (.func f) #[] #[] ∧ ρ 2 = .bool true ∧ ρ 10 = .pointer (some ⟨h.next, 0, none⟩) ∧ h'.get h.next = some (.sit (strOf l) pos) ∧ Grow h h' ∧ h.next < h'.next) ?_ ?_
  · rintro k ρ h' ⟨pos, hk, hh, h1, h2, h10, hg, gr, hlt⟩
    unfold Gab_
    rcases Nat.lt_or_ge pos l.length with hlt2 | hge
    · have hc : l[pos]? = some l[pos] := List.getElem?_eq_getElem hlt2
      rw [List.drop_eq_getElem_cons hlt2] at hh
      generalize l[pos] = c at hc hh
      rw [hitI] at hh
      rcases Nat.lt_or_ge c.toNat 128 with ha | ha
      · have hn := nextK_ascii h' h.next hc ha
        simp (maxSteps := 10000000) (disch := omega) only [vqA, tagOf, reduceIte, reduceCtorEq, reduceEqDiff, reduceAdd, reduceSub, reduceMul, reduceLT, reduceLeDiff, reduceToNat, Nat.reduceBEq, tqA, h10, hg, hn, h1, h2]
        rw [(hp _ _).eq]
        cases hpc : p c.toNat with
        | true =>
          simp (maxSteps := 10000000) (disch := omega) only [vqA, tagOf, reduceIte, reduceCtorEq, reduceEqDiff, reduceAdd, reduceSub, reduceMul, reduceLT, reduceLeDiff, reduceToNat, Nat.reduceBEq, tqA, h2]
          rw [if_pos hpc] at hh
          exact ⟨by rw [hh], gr.set (Nat.le_refl _) _⟩
        | false =>
          simp (maxSteps := 10000000) (disch := omega) only [vqA, tagOf, reduceIte, reduceCtorEq, reduceEqDiff, reduceAdd, reduceSub, reduceMul, reduceLT, reduceLeDiff, reduceToNat, Nat.reduceBEq, tqA, h2]
          rw [if_neg (by rw [hpc]; simp)] at hh
          refine ⟨k - 1, by omega, pos + 1, by omega, hh, ?_⟩
          simp (maxSteps := 10000000) (disch := omega) only [vqA, tagOf, reduceIte, reduceCtorEq, reduceEqDiff, reduceAdd, reduceSub, reduceMul, reduceLT, reduceLeDiff, reduceToNat, Nat.reduceBEq, tqA, h1, h2, h10]
          exact ⟨gr.set (Nat.le_refl _) _, hlt⟩
      · obtain ⟨x, w, hx, hx2, hn⟩ := nextK_high h' h.next hc ha
        simp (maxSteps := 10000000) (disch := omega) only [vqA, tagOf, reduceIte, reduceCtorEq, reduceEqDiff, reduceAdd, reduceSub, reduceMul, reduceLT, reduceLeDiff, reduceToNat, Nat.reduceBEq, tqA, h10, hg, hn, h1, h2]
        rw [(hp _ _).eq, hi x (by omega)]
        rw [if_pos (hi _ (by omega))] at hh
        simp (maxSteps := 10000000) (disch := omega) only [vqA, tagOf, reduceIte, reduceCtorEq, reduceEqDiff, reduceAdd, reduceSub, reduceMul, reduceLT, reduceLeDiff, reduceToNat, Nat.reduceBEq, tqA, h2]
        exact ⟨by rw [hh], gr.set (Nat.le_refl _) _⟩
    · have hp2 : pos = l.length := by omega
      subst hp2
      rw [List.drop_length] at hh
      simp (maxSteps := 10000000) (disch := omega) only [vqA, tagOf, reduceIte, reduceCtorEq, reduceEqDiff, reduceAdd, reduceSub, reduceMul, reduceLT, reduceLeDiff, reduceToNat, Nat.reduceBEq, tqA, h10, hg]
      exact ⟨by rw [← hh]; rfl, gr⟩
  · refine ⟨0, by omega, by simp, ?_⟩
    simp (maxSteps := 10000000) (disch := omega) only [vqA, tagOf, reduceIte, reduceCtorEq, reduceEqDiff, reduceAdd, reduceSub, reduceMul, reduceLT, reduceLeDiff, reduceToNat, Nat.reduceBEq, tqA]
    exact ⟨.new _ _, by omega⟩
theorem containsFunc_ok {p : Int → Bool} {f : FuncId} (hp : ∀ c h, Ret E f [.int .i32 c] h (fun v h' => v = .bool (p c) ∧ h' = h)) (hi : ∀ c : Int, 128 ≤ c → p c = true) (l : List UInt8) (hl : l.length ≤ 100000000) (h : Heap) :
    Ret E F9_ [.string (strOf l), .func (.func f) #[] #[]] h (fun v h' => v = .bool (decide (0 ≤ hitI p l 0)) ∧ Grow h h') := by
  refine ret_fun Io_ (by simp) ?_
  unfold G6_
  simp (maxSteps := 10000000) (disch := omega) only [vqA, tagOf, reduceIte, reduceCtorEq, reduceEqDiff, reduceAdd, reduceSub, reduceMul, reduceLT, reduceLeDiff, reduceToNat, Nat.reduceBEq, tqA]
  refine ret_fun IZ_ (by simp) ?_
  unfold Gi_
  simp (maxSteps := 10000000) (disch := omega) only [vqA, tagOf, reduceIte, reduceCtorEq, reduceEqDiff, reduceAdd, reduceSub, reduceMul, reduceLT, reduceLeDiff, reduceToNat, Nat.reduceBEq, tqA]
  refine (indexFunc_ok hp hi l hl h).mono ?_
  rintro v h' ⟨rfl, gr⟩
  by_cases hz : 0 ≤ hitI p l 0
  · simp (maxSteps := 10000000) (disch := omega) only [vqA, tagOf, reduceIte, reduceCtorEq, reduceEqDiff, reduceAdd, reduceSub, reduceMul, reduceLT, reduceLeDiff, reduceToNat, Nat.reduceBEq, tqA]
    exact ⟨by rw [decide_eq_true hz], gr⟩
  · simp (maxSteps := 10000000) (disch := omega) only [vqA, tagOf, reduceIte, reduceCtorEq, reduceEqDiff, reduceAdd, reduceSub, reduceMul, reduceLT, reduceLeDiff, reduceToNat, Nat.reduceBEq, tqA]
    exact ⟨by rw [decide_eq_false hz], gr⟩
theorem hit_all (p : Int → Bool) : ∀ (l : List UInt8) (k : Nat), decide (0 ≤ hitI p l k) = l.any fun c => p c.toNat := by
  intro l
  induction l with
  | nil => intro k; rfl
  | cons c l ih =>
    intro k
    rw [hitI, List.any_cons]
    cases hc : p c.toNat with
    | true => rw [if_pos rfl]; simp
    | false => rw [if_neg (by simp), ih]; simp
theorem odd_byte (c : UInt8) : oddI c.toNat = !okN c := by
  unfold oddI okN
  have h1 : decide ((97 : Int) ≤ (c.toNat : Int) ∧ (c.toNat : Int) ≤ 122) = decide (97 ≤ c.toNat ∧ c.toNat ≤ 122) := decide_eq_decide.2 (by omega)
  have h2 : decide ((48 : Int) ≤ (c.toNat : Int) ∧ (c.toNat : Int) ≤ 57) = decide (48 ≤ c.toNat ∧ c.toNat ≤ 57) := decide_eq_decide.2 (by omega)
  have h3 : decide ((c.toNat : Int) = 45) = decide (c.toNat = 45) := decide_eq_decide.2 (by omega)
  rw [h1, h2, h3]
theorem named_ok (l : List UInt8) (hl : l.length ≤ 100000000) (h : Heap) : Ret E FY_ [.string (strOf l)] h (fun v h' => v = .bool (namedB l) ∧ Grow h h') := by
  refine ret_fun Iu_ (by simp) ?_
  unfold GH_ namedB
  cases l with
  | nil =>
    simp (maxSteps := 10000000) (disch := omega) only [vqA, tagOf, reduceIte, reduceCtorEq, reduceEqDiff, reduceAdd, reduceSub, reduceMul, reduceLT, reduceLeDiff, reduceToNat, Nat.reduceBEq, tqA]
    exact ⟨rfl, .refl _⟩
  | cons a l =>
    have hne : ((a :: l) == []) = false := rfl
    generalize a :: l = m at hl hne ⊢
    have hm : m.length ≠ 0 := by
      cases m with
      | nil => simp at hne
      | cons _ _ => simp
    by_cases h20 : m.length ≤ 20
    · simp (maxSteps := 10000000) (disch := omega) only [vqA, tagOf, reduceIte, reduceCtorEq, reduceEqDiff, reduceAdd, reduceSub, reduceMul, reduceLT, reduceLeDiff, reduceToNat, Nat.reduceBEq, tqA, hne]
      refine (containsFunc_ok (fun c h => odd_ok c h) (fun c hc => by unfold oddI; simp; omega) m hl h).mono ?_
      rintro v h' ⟨rfl, gr⟩
      have ha : decide (0 ≤ hitI oddI m 0) = !(m.all okN) := by
        rw [hit_all]
        have : (fun c : UInt8 => oddI c.toNat) = fun c => !okN c := funext odd_byte
        rw [this, List.any_eq_not_all_not]
        simp
      rw [ha]
      simp (maxSteps := 10000000) (disch := omega) only [vqA, tagOf, reduceIte, reduceCtorEq, reduceEqDiff, reduceAdd, reduceSub, reduceMul, reduceLT, reduceLeDiff, reduceToNat, Nat.reduceBEq, tqA]
      refine ⟨?_, gr⟩
      rw [decide_eq_true (show 1 ≤ m.length by omega), decide_eq_true h20]
      simp
    · simp (maxSteps := 10000000) (disch := omega) only [vqA, tagOf, reduceIte, reduceCtorEq, reduceEqDiff, reduceAdd, reduceSub, reduceMul, reduceLT, reduceLeDiff, reduceToNat, Nat.reduceBEq, tqA, hne]
      refine ⟨?_, .refl _⟩
      rw [decide_eq_false h20]
      simp
theorem refNamed_ok (w : List UInt8) (hw : w.length ≤ 100000000) (h : Heap) : Ret E FR_ [.string (strOf w)] h (fun v h' => v = .bool (namedB w) ∧ h' = h) := by
  refine ret_fun I1_ (by simp) ?_
  unfold GN_
  by_cases h1 : w.length < 1
  · have e : namedB w = false := by unfold namedB; rw [decide_eq_false (show ¬ 1 ≤ w.length by omega)]; rfl
    simp (maxSteps := 10000000) (disch := omega) only [vqA, tagOf, reduceIte, reduceCtorEq, reduceEqDiff, reduceAdd, reduceSub, reduceMul, reduceLT, reduceLeDiff, reduceToNat, Nat.reduceBEq, tqA, e]
  by_cases h2 : w.length > 20
  · have e : namedB w = false := by unfold namedB; rw [decide_eq_false (show ¬ w.length ≤ 20 by omega)]; simp
    simp (maxSteps := 10000000) (disch := omega) only [vqA, tagOf, reduceIte, reduceCtorEq, reduceEqDiff, reduceAdd, reduceSub, reduceMul, reduceLT, reduceLeDiff, reduceToNat, Nat.reduceBEq, tqA, e]
  simp (maxSteps := 10000000) (disch := omega) only [vqA, tagOf, reduceIte, reduceCtorEq, reduceEqDiff, reduceAdd, reduceSub, reduceMul, reduceLT, reduceLeDiff, reduceToNat, Nat.reduceBEq, tqA]
  refine r_loop (k := w.length) (fun k ρ h' => ∃ i, i + k = w.length ∧ (∀ j c, j < i → w[j]? = some c → okN c = true) ∧ ρ 0 = .string (strOf w) ∧ ρ 3 = .int .i64 (i : Int) ∧ h' = h) ?_ ?_
  · rintro k ρ h' ⟨i, hk, hall, r0, r3, rfl⟩
    unfold Gax_
    rcases Nat.lt_or_ge i w.length with hi | hi
    · have hc : w[i]? = some w[i] := List.getElem?_eq_getElem hi
      have hmem : w[i] ∈ w := List.getElem_mem hi
      generalize w[i] = c at hc hmem
      have ic : w[((i : Int)).toNat]? = some c := by rw [Int.toNat_natCast]; exact hc
      have good : okN c = true → ∃ k', k' < k ∧ ∃ i_1, i_1 + k' = w.length ∧ (∀ (j : Nat) (c : UInt8), j < i_1 → w[j]? = some c → okN c = true) ∧ Value.int IntKind.i64 ((i : Int) + 1) = .int .i64 (i_1 : Int) := fun hq =>
        ⟨k - 1, by omega, i + 1, by omega, fun j x hj hx => by
          rcases Nat.lt_or_ge j i with hlt | hge
          · exact hall j x hlt hx
          · have : j = i := by omega
            subst this
            rw [hc] at hx
            cases hx
            exact hq, rfl⟩
      have bad : okN c = false → namedB w = false := fun hq => by
        unfold namedB
        have : w.all okN = false := by rw [List.all_eq_false]; exact ⟨c, hmem, by rw [hq]; simp⟩
        rw [this]; simp
      have okI : okN c = (decide (97 ≤ c.toNat ∧ c.toNat ≤ 122) || decide (48 ≤ c.toNat ∧ c.toNat ≤ 57) || decide (c.toNat = 45)) := rfl
      by_cases c1 : c.toNat < 97 <;> by_cases c2 : c.toNat > 122 <;> by_cases c3 : c.toNat < 48 <;> by_cases c4 : c.toNat > 57 <;> by_cases c5 : c.toNat = 45 <;> first
        | omega
        | (have hq : okN c = true := by (rw [okI]; simp; omega)
           simp (maxSteps := 10000000) (disch := omega) only [vqA, tagOf, reduceIte, reduceCtorEq, reduceEqDiff, reduceAdd, reduceSub, reduceMul, reduceLT, reduceLeDiff, reduceToNat, Nat.reduceBEq, tqA, r0, r3, ic, byteV_at]
           exact good hq)
        | (have hq : okN c = false := by (rw [okI]; simp; omega)
           have hb := bad hq
           simp (maxSteps := 10000000) (disch := omega) only [vqA, tagOf, reduceIte, reduceCtorEq, reduceEqDiff, reduceAdd, reduceSub, reduceMul, reduceLT, reduceLeDiff, reduceToNat, Nat.reduceBEq, tqA, r0, r3, ic, byteV_at, hb])
    · have e : namedB w = true := by
        unfold namedB
        rw [decide_eq_true (show 1 ≤ w.length by omega), decide_eq_true (show w.length ≤ 20 by omega)]
        simp only [Bool.true_and]
        rw [List.all_eq_true]
        intro c hc
        obtain ⟨j, hj, rfl⟩ := List.getElem_of_mem hc
        exact hall j _ (by omega) (List.getElem?_eq_getElem hj)
      simp (maxSteps := 10000000) (disch := omega) only [vqA, tagOf, reduceIte, reduceCtorEq, reduceEqDiff, reduceAdd, reduceSub, reduceMul, reduceLT, reduceLeDiff, reduceToNat, Nat.reduceBEq, tqA, r0, r3, e]
  · exact ⟨0, by omega, fun _ _ h => absurd h (by omega), by simp (maxSteps := 10000000) (disch := omega) only [vqA, tagOf, reduceIte, reduceCtorEq, reduceEqDiff, reduceAdd, reduceSub, reduceMul, reduceLT, reduceLeDiff, reduceToNat, Nat.reduceBEq, tqA], by simp (maxSteps := 10000000) (disch := omega) only [vqA, tagOf, reduceIte, reduceCtorEq, reduceEqDiff, reduceAdd, reduceSub, reduceMul, reduceLT, reduceLeDiff, reduceToNat, Nat.reduceBEq, tqA]; rfl, rfl⟩
end Go.Proofs.Ytdmakachnphddaa.C
