/- Vi14b: the run of a region in the order of its text, as rows of states. -/
import Derived.Test.YtdbicjhpgofpiaaGreatDoorVi14a
namespace Go.Vi
def heavyAt (ops : Array Oper) (i : Nat) : Bool := match ops[i]? with | some o => heavyOp o | none => false
def hidx (ops : Array Oper) : List Nat := (List.range ops.size).filter (heavyAt ops)

structure Tr (E : Env) (call : CallV) (ops : Array Oper) (j0 : Nat) (T : Nat → Tmps) (H : Nat → Heap) (V : Nat → Value) : Prop where
  run : ∀ j o, j0 ≤ j → ops[j]? = some o → wantedV ops o (T j) = true → stepV E call o (T j, H j) = some (V j, H (j + 1))
  off : ∀ j o, j0 ≤ j → ops[j]? = some o → wantedV ops o (T j) = false → V j = undef ∧ H (j + 1) = H j
  tm : ∀ j o, j0 ≤ j → ops[j]? = some o → T (j + 1) = putV (T j) o.dst (V j)
def Reads (E : Env) (ops : Array Oper) (T : Nat → Tmps) (H : Nat → Heap) (j : Nat) (o : Oper) : Prop :=
  ops[j]? = some o ∧ heavyOp o = false ∧ wantedV ops o (T j) = true ∧ pureV E (evV (T j)) o = none ∧ (readV E (evV (T j)) (H j) o).isSome = true

section
variable {E : Env} {call : CallV} {ops : Array Oper}
theorem drawV_trace : ∀ (r : List Oper) (j : Nat) (s : St) (hs : List Heap) (rs : List Seen) (s' : St) (hs' : List Heap) (rs' : List Seen), ops.toList.drop j = r → j ≤ ops.size → drawV E call ops r j s hs rs = some (s', hs', rs') →
    ∃ T H V, T j = s.1 ∧ H j = s.2 ∧ Tr E call ops j T H V ∧ T ops.size = s'.1 ∧ H ops.size = s'.2 ∧
      hs' = hs ++ ((List.range' j (ops.size - j)).filter (heavyAt ops)).map H ++ [H ops.size] ∧ (∀ x ∈ rs, x ∈ rs') ∧
      ∀ i o, j ≤ i → Reads E ops T H i o → (⟨i, o, T i, V i⟩ : Seen) ∈ rs' := by
  intro r
  induction r with
  | nil =>
    intro j s hs rs s' hs' rs' hr hj h
    simp only [drawV, Option.some.injEq, Prod.mk.injEq] at h
    obtain ⟨rfl, rfl, rfl⟩ := h
    have hjn : j = ops.size := by
      have := congrArg List.length hr
      simp at this; omega
    subst hjn
    have hno : ∀ j o, ops.size ≤ j → ops[j]? = some o → False := fun j o h1 h2 => by
      rw [Array.getElem?_eq_none h1] at h2; cases h2
    exact ⟨fun _ => s.1, fun _ => s.2, fun _ => undef, rfl, rfl, ⟨fun j o h1 h2 => (hno j o h1 h2).elim, fun j o h1 h2 => (hno j o h1 h2).elim, fun j o h1 h2 => (hno j o h1 h2).elim⟩, rfl, rfl, by simp, fun x hx => hx,
      fun i o h1 h2 => (hno i o h1 h2.1).elim⟩
  | cons o r ih =>
    intro j s hs rs s' hs' rs' hr hj h
    have hlt : j < ops.size := by
      have := congrArg List.length hr
      simp at this; omega
    have ho : ops[j]? = some o := by
      have := congrArg (·[0]?) hr
      simp only [List.getElem?_drop, Nat.add_zero, List.getElem?_cons_zero, Array.getElem?_toList] at this
      exact this
    have hr' : ops.toList.drop (j + 1) = r := by
      have := congrArg (List.drop 1) hr
      rw [List.drop_drop] at this
      simpa using this
    have hrange : List.range' j (ops.size - j) = j :: List.range' (j + 1) (ops.size - (j + 1)) := by
      rw [show ops.size - j = (ops.size - (j + 1)) + 1 by omega, List.range'_succ]
    have hheavy : heavyAt ops j = heavyOp o := by unfold heavyAt; rw [ho]
    -- the state behind this operation, and what goes on from there
    have main : ∀ (v : Value) (h1 : Heap) (rs1 : List Seen), (wantedV ops o s.1 = true → stepV E call o s = some (v, h1)) → (wantedV ops o s.1 = false → v = undef ∧ h1 = s.2) → (∀ x ∈ rs, x ∈ rs1) →
        (heavyOp o = false → wantedV ops o s.1 = true → pureV E (evV s.1) o = none → (readV E (evV s.1) s.2 o).isSome = true → (⟨j, o, s.1, v⟩ : Seen) ∈ rs1) →
        drawV E call ops r (j + 1) (putV s.1 o.dst v, h1) (if heavyOp o then hs ++ [s.2] else hs) rs1 = some (s', hs', rs') →
        ∃ T H V, T j = s.1 ∧ H j = s.2 ∧ Tr E call ops j T H V ∧ T ops.size = s'.1 ∧ H ops.size = s'.2 ∧
          hs' = hs ++ ((List.range' j (ops.size - j)).filter (heavyAt ops)).map H ++ [H ops.size] ∧ (∀ x ∈ rs, x ∈ rs') ∧
          ∀ i o, j ≤ i → Reads E ops T H i o → (⟨i, o, T i, V i⟩ : Seen) ∈ rs' := by
      intro v h1 rs1 hon hoff hrs hseen hd
      obtain ⟨T, H, V, hT, hH, tr, hTn, hHn, hhs, hsub, hread⟩ := ih (j + 1) _ _ _ _ _ _ hr' hlt hd
      let T' : Nat → Tmps := fun i => if i = j then s.1 else T i
      let H' : Nat → Heap := fun i => if i = j then s.2 else H i
      let V' : Nat → Value := fun i => if i = j then v else V i
      have eT : ∀ i, i ≠ j → T' i = T i := fun i h => if_neg h
      have eH : ∀ i, i ≠ j → H' i = H i := fun i h => if_neg h
      have eV : ∀ i, i ≠ j → V' i = V i := fun i h => if_neg h
      have eTj : T' j = s.1 := if_pos rfl
      have eHj : H' j = s.2 := if_pos rfl
      have eVj : V' j = v := if_pos rfl
      refine ⟨T', H', V', eTj, eHj, ⟨?_, ?_, ?_⟩, by rw [eT _ (by omega)]; exact hTn, by rw [eH _ (by omega)]; exact hHn, ?_, fun x hx => hsub x (hrs x hx), ?_⟩
      · intro i x hi hx hw
        by_cases hij : i = j
        · subst hij
          rw [ho] at hx; cases hx
          rw [eTj] at hw
          rw [eTj, eHj, eVj, eH _ (by omega), hH]
          exact hon hw
        · rw [eT i hij] at hw
          rw [eT i hij, eH i hij, eV i hij, eH (i + 1) (by omega)]
          exact tr.run i x (by omega) hx hw
      · intro i x hi hx hw
        by_cases hij : i = j
        · subst hij
          rw [ho] at hx; cases hx
          rw [eTj] at hw
          rw [eVj, eHj, eH _ (by omega), hH]
          exact hoff hw
        · rw [eT i hij] at hw
          rw [eV i hij, eH i hij, eH (i + 1) (by omega)]
          exact tr.off i x (by omega) hx hw
      · intro i x hi hx
        by_cases hij : i = j
        · subst hij
          rw [ho] at hx; cases hx
          rw [eTj, eVj, eT _ (by omega), hT]
        · rw [eT i hij, eV i hij, eT (i + 1) (by omega)]
          exact tr.tm i x (by omega) hx
      · rw [hhs, hrange, List.filter_cons, hheavy, eH _ (by omega)]
        have hmap : ((List.range' (j + 1) (ops.size - (j + 1))).filter (heavyAt ops)).map H' = ((List.range' (j + 1) (ops.size - (j + 1))).filter (heavyAt ops)).map H := by
          apply List.map_congr_left
          intro i hi
          rw [List.mem_filter, List.mem_range'_1] at hi
          exact eH i (by omega)
        cases hh : heavyOp o with
        | true => simp only [if_true, List.map_cons, eHj, hmap, List.append_assoc, List.cons_append, List.nil_append]
        | false => simp only [Bool.false_eq_true, if_false, hmap]
      · intro i x hi hx
        by_cases hij : i = j
        · subst hij
          obtain ⟨h1, h2, h3, h4, h5⟩ := hx
          rw [ho] at h1; cases h1
          rw [eTj] at h3 h4 h5
          rw [eHj] at h5
          rw [eTj, eVj]
          exact hsub _ (hseen h2 h3 h4 h5)
        · rw [eT i hij, eV i hij]
          refine hread i x (by omega) ?_
          obtain ⟨h1, h2, h3, h4, h5⟩ := hx
          rw [eT i hij] at h3 h4 h5
          rw [eH i hij] at h5
          exact ⟨h1, h2, h3, h4, h5⟩
    simp only [drawV] at h
    split at h
    · rename_i hw
      split at h
      · rename_i v h1 hst
        refine main v h1 _ (fun _ => hst) (fun hf => by rw [hw] at hf; cases hf) ?_ ?_ h
        · intro x hx
          split
          · exact List.mem_cons_of_mem _ hx
          · exact hx
        · intro q1 q2 q3 q4
          rw [if_pos (by simp [q1, q3, q4])]
          exact List.mem_cons_self
      · cases h
    · rename_i hw
      have hw' : wantedV ops o s.1 = false := by simpa using hw
      exact main undef s.2 rs (fun hf => absurd hf hw) (fun _ => ⟨rfl, rfl⟩) (fun x hx => hx) (fun _ hf => absurd hf hw) h
end
end Go.Vi
