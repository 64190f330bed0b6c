/- U2: names, more: a predicate over a text. -/
import Derived.Test.YtijnnpbfgmmngaaGreatDoorU1
open Go Go.Vi Go.Tk
namespace Go.Proofs.YtijnnpbfgmmngaaGreatDoor.C
set_option linter.unusedSimpArgs false
set_option maxRecDepth 100000
set_option maxHeartbeats 40000000
def hitI (p : Int → Bool) : List UInt8 → Nat → Int
  | [], _ => -1
  | c :: r, k => if p c.toNat then k else hitI p r (k + 1)
theorem indexFunc_ok {p : Int → Bool} {f : FuncId} (hp : ∀ c h, Ret E f [.int .i32 c] h (fun v h' => v = .bool (p c) ∧ h' = h)) (hi : ∀ c : Int, 128 ≤ c → p c = true) (l : List UInt8) (_hl : l.length ≤ 1000000) (h : Heap) :
    Ret E f_strings_indexFunc [.string (strOf l), .func (.func f) #[] #[], .bool true] h (fun v h' => v = .int .i64 (hitI p l 0) ∧ Grow h h') := by
  refine ret_fun is_strings_indexFunc (by simp) ?_
  unfold g_strings_indexFunc
  simp (maxSteps := 10000000) (disch := omega) only [vq0, vq1, vq2, vq3, vq4, vq5, tagOf, reduceIte, reduceCtorEq, Nat.reduceEqDiff, Nat.reduceAdd, Nat.reduceSub, Nat.reduceMul, Nat.reduceLT, Nat.reduceLeDiff, Int.reduceToNat, Nat.reduceBEq, tq1, tq2, tq3]
  refine r_loop (k := l.length) (fun k ρ h' => ∃ pos, pos + k = l.length ∧ hitI p (l.drop pos) pos = hitI p l 0 ∧ ρ 1 = .func (.func f) #[] #[] ∧ ρ 2 = .bool true ∧ ρ 10 = .pointer (some ⟨h.next, 0, none⟩) ∧ h'.get h.next = some (.sit (strOf l) pos) ∧ Grow h h' ∧ h.next < h'.next) ?_ ?_
  · rintro k ρ h' ⟨pos, hk, hh, h1, h2, h10, hg, gr, hlt⟩
    unfold g_strings_indexFunc_L0
    rcases Nat.lt_or_ge pos l.length with hlt2 | hge
    · have hc : l[pos]? = some l[pos] := List.getElem?_eq_getElem hlt2
      rw [List.drop_eq_getElem_cons hlt2] at hh
      generalize l[pos] = c at hc hh
      rw [hitI] at hh
      rcases Nat.lt_or_ge c.toNat 128 with ha | ha
      · have hn := nextK_ascii h' h.next hc ha
        simp (maxSteps := 10000000) (disch := omega) only [vq0, vq1, vq2, vq3, vq4, vq5, tagOf, reduceIte, reduceCtorEq, Nat.reduceEqDiff, Nat.reduceAdd, Nat.reduceSub, Nat.reduceMul, Nat.reduceLT, Nat.reduceLeDiff, Int.reduceToNat, Nat.reduceBEq, tq1, tq2, tq3, h10, hg, hn, h1, h2]
        rw [(hp _ _).eq]
        cases hpc : p c.toNat with
        | true =>
          simp (maxSteps := 10000000) (disch := omega) only [vq0, vq1, vq2, vq3, vq4, vq5, tagOf, reduceIte, reduceCtorEq, Nat.reduceEqDiff, Nat.reduceAdd, Nat.reduceSub, Nat.reduceMul, Nat.reduceLT, Nat.reduceLeDiff, Int.reduceToNat, Nat.reduceBEq, tq1, tq2, tq3, h2]
          rw [if_pos hpc] at hh
          exact ⟨by rw [hh], gr.set (Nat.le_refl _) _⟩
        | false =>
          simp (maxSteps := 10000000) (disch := omega) only [vq0, vq1, vq2, vq3, vq4, vq5, tagOf, reduceIte, reduceCtorEq, Nat.reduceEqDiff, Nat.reduceAdd, Nat.reduceSub, Nat.reduceMul, Nat.reduceLT, Nat.reduceLeDiff, Int.reduceToNat, Nat.reduceBEq, tq1, tq2, tq3, h2]
          rw [if_neg (by rw [hpc]; simp)] at hh
          refine ⟨k - 1, by omega, pos + 1, by omega, hh, ?_⟩
          simp (maxSteps := 10000000) (disch := omega) only [vq0, vq1, vq2, vq3, vq4, vq5, tagOf, reduceIte, reduceCtorEq, Nat.reduceEqDiff, Nat.reduceAdd, Nat.reduceSub, Nat.reduceMul, Nat.reduceLT, Nat.reduceLeDiff, Int.reduceToNat, Nat.reduceBEq, tq1, tq2, tq3, h1, h2, h10]
          exact ⟨gr.set (Nat.le_refl _) _, hlt⟩
      · obtain ⟨x, w, hx, hx2, hn⟩ := nextK_high h' h.next hc ha
        simp (maxSteps := 10000000) (disch := omega) only [vq0, vq1, vq2, vq3, vq4, vq5, tagOf, reduceIte, reduceCtorEq, Nat.reduceEqDiff, Nat.reduceAdd, Nat.reduceSub, Nat.reduceMul, Nat.reduceLT, Nat.reduceLeDiff, Int.reduceToNat, Nat.reduceBEq, tq1, tq2, tq3, h10, hg, hn, h1, h2]
        rw [(hp _ _).eq, hi x (by omega)]
        rw [if_pos (hi _ (by omega))] at hh
        simp (maxSteps := 10000000) (disch := omega) only [vq0, vq1, vq2, vq3, vq4, vq5, tagOf, reduceIte, reduceCtorEq, Nat.reduceEqDiff, Nat.reduceAdd, Nat.reduceSub, Nat.reduceMul, Nat.reduceLT, Nat.reduceLeDiff, Int.reduceToNat, Nat.reduceBEq, tq1, tq2, tq3, h2]
        exact ⟨by rw [hh], gr.set (Nat.le_refl _) _⟩
    · have hp2 : pos = l.length := by omega
      subst hp2
      rw [List.drop_length] at hh
      simp (maxSteps := 10000000) (disch := omega) only [vq0, vq1, vq2, vq3, vq4, vq5, tagOf, reduceIte, reduceCtorEq, Nat.reduceEqDiff, Nat.reduceAdd, Nat.reduceSub, Nat.reduceMul, Nat.reduceLT, Nat.reduceLeDiff, Int.reduceToNat, Nat.reduceBEq, tq1, tq2, tq3, h10, hg]
      exact ⟨by rw [← hh]; rfl, gr⟩
  · refine ⟨0, by omega, by simp, ?_⟩
    simp (maxSteps := 10000000) (disch := omega) only [vq0, vq1, vq2, vq3, vq4, vq5, tagOf, reduceIte, reduceCtorEq, Nat.reduceEqDiff, Nat.reduceAdd, Nat.reduceSub, Nat.reduceMul, Nat.reduceLT, Nat.reduceLeDiff, Int.reduceToNat, Nat.reduceBEq, tq1, tq2, tq3]
    exact ⟨.new _ _, by omega⟩
theorem containsFunc_ok {p : Int → Bool} {f : FuncId} (hp : ∀ c h, Ret E f [.int .i32 c] h (fun v h' => v = .bool (p c) ∧ h' = h)) (hi : ∀ c : Int, 128 ≤ c → p c = true) (l : List UInt8) (hl : l.length ≤ 1000000) (h : Heap) :
    Ret E f_strings_ContainsFunc [.string (strOf l), .func (.func f) #[] #[]] h (fun v h' => v = .bool (decide (0 ≤ hitI p l 0)) ∧ Grow h h') := by
  refine ret_fun is_strings_ContainsFunc (by simp) ?_
  unfold g_strings_ContainsFunc
  simp (maxSteps := 10000000) (disch := omega) only [vq0, vq1, vq2, vq3, vq4, vq5, tagOf, reduceIte, reduceCtorEq, Nat.reduceEqDiff, Nat.reduceAdd, Nat.reduceSub, Nat.reduceMul, Nat.reduceLT, Nat.reduceLeDiff, Int.reduceToNat, Nat.reduceBEq, tq1, tq2, tq3]
  refine ret_fun is_strings_IndexFunc (by simp) ?_
  unfold g_strings_IndexFunc
  simp (maxSteps := 10000000) (disch := omega) only [vq0, vq1, vq2, vq3, vq4, vq5, tagOf, reduceIte, reduceCtorEq, Nat.reduceEqDiff, Nat.reduceAdd, Nat.reduceSub, Nat.reduceMul, Nat.reduceLT, Nat.reduceLeDiff, Int.reduceToNat, Nat.reduceBEq, tq1, tq2, tq3]
  refine (indexFunc_ok hp hi l hl h).mono ?_
  rintro v h' ⟨rfl, gr⟩
  by_cases hz : 0 ≤ hitI p l 0
  · simp (maxSteps := 10000000) (disch := omega) only [vq0, vq1, vq2, vq3, vq4, vq5, tagOf, reduceIte, reduceCtorEq, Nat.reduceEqDiff, Nat.reduceAdd, Nat.reduceSub, Nat.reduceMul, Nat.reduceLT, Nat.reduceLeDiff, Int.reduceToNat, Nat.reduceBEq, tq1, tq2, tq3]
    exact ⟨by rw [decide_eq_true hz], gr⟩
  · simp (maxSteps := 10000000) (disch := omega) only [vq0, vq1, vq2, vq3, vq4, vq5, tagOf, reduceIte, reduceCtorEq, Nat.reduceEqDiff, Nat.reduceAdd, Nat.reduceSub, Nat.reduceMul, Nat.reduceLT, Nat.reduceLeDiff, Int.reduceToNat, Nat.reduceBEq, tq1, tq2, tq3]
    exact ⟨by rw [decide_eq_false hz], gr⟩
theorem hit_all (p : Int → Bool) : ∀ (l : List UInt8) (k : Nat), decide (0 ≤ hitI p l k) = l.any fun c => p c.toNat := by
  intro l
  induction l with
  | nil => intro k; rfl
  | cons c l ih =>
    intro k
    rw [hitI, List.any_cons]
    cases hc : p c.toNat with
    | true => rw [if_pos rfl]; simp
    | false => rw [if_neg (by simp), ih]; simp
theorem odd_byte (c : UInt8) : oddI c.toNat = !Tk.okB c := by
  unfold oddI Tk.okB
  have h1 : decide ((97 : Int) ≤ (c.toNat : Int) ∧ (c.toNat : Int) ≤ 122) = decide (97 ≤ c.toNat ∧ c.toNat ≤ 122) := decide_eq_decide.2 (by omega)
  have h2 : decide ((48 : Int) ≤ (c.toNat : Int) ∧ (c.toNat : Int) ≤ 57) = decide (48 ≤ c.toNat ∧ c.toNat ≤ 57) := decide_eq_decide.2 (by omega)
  have h3 : decide ((c.toNat : Int) = 45) = decide (c.toNat = 45) := decide_eq_decide.2 (by omega)
  rw [h1, h2, h3]
theorem named_ok (l : List UInt8) (hl : l.length ≤ 1000000) (h : Heap) : Ret E f_head_Named [.string (strOf l)] h (fun v h' => v = .bool (namedB l) ∧ Grow h h') := by
  refine ret_fun is_head_Named (by simp) ?_
  unfold g_head_Named namedB
  cases l with
  | nil =>
    simp (maxSteps := 10000000) (disch := omega) only [vq0, vq1, vq2, vq3, vq4, vq5, tagOf, reduceIte, reduceCtorEq, Nat.reduceEqDiff, Nat.reduceAdd, Nat.reduceSub, Nat.reduceMul, Nat.reduceLT, Nat.reduceLeDiff, Int.reduceToNat, Nat.reduceBEq, tq1, tq2, tq3]
    exact ⟨rfl, .refl _⟩
  | cons a l =>
    have hne : ((a :: l) == []) = false := rfl
    generalize a :: l = m at hl hne ⊢
    have hm : m.length ≠ 0 := by
      cases m with
      | nil => simp at hne
      | cons _ _ => simp
    by_cases h20 : m.length ≤ 20
    · simp (maxSteps := 10000000) (disch := omega) only [vq0, vq1, vq2, vq3, vq4, vq5, tagOf, reduceIte, reduceCtorEq, Nat.reduceEqDiff, Nat.reduceAdd, Nat.reduceSub, Nat.reduceMul, Nat.reduceLT, Nat.reduceLeDiff, Int.reduceToNat, Nat.reduceBEq, tq1, tq2, tq3, hne]
      refine (containsFunc_ok (fun c h => odd_ok c h) (fun c hc => by unfold oddI; simp; omega) m hl h).mono ?_
      rintro v h' ⟨rfl, gr⟩
      have ha : decide (0 ≤ hitI oddI m 0) = !(m.all Tk.okB) := by
        rw [hit_all]
        have : (fun c : UInt8 => oddI c.toNat) = fun c => !Tk.okB c := funext odd_byte
        rw [this, List.any_eq_not_all_not]
        simp
      rw [ha]
      simp (maxSteps := 10000000) (disch := omega) only [vq0, vq1, vq2, vq3, vq4, vq5, tagOf, reduceIte, reduceCtorEq, Nat.reduceEqDiff, Nat.reduceAdd, Nat.reduceSub, Nat.reduceMul, Nat.reduceLT, Nat.reduceLeDiff, Int.reduceToNat, Nat.reduceBEq, tq1, tq2, tq3]
      refine ⟨?_, gr⟩
      rw [decide_eq_true (show 1 ≤ m.length by omega), decide_eq_true h20]
      simp
    · simp (maxSteps := 10000000) (disch := omega) only [vq0, vq1, vq2, vq3, vq4, vq5, tagOf, reduceIte, reduceCtorEq, Nat.reduceEqDiff, Nat.reduceAdd, Nat.reduceSub, Nat.reduceMul, Nat.reduceLT, Nat.reduceLeDiff, Int.reduceToNat, Nat.reduceBEq, tq1, tq2, tq3, hne]
      refine ⟨?_, .refl _⟩
      rw [decide_eq_false h20]
      simp
end Go.Proofs.YtijnnpbfgmmngaaGreatDoor.C
