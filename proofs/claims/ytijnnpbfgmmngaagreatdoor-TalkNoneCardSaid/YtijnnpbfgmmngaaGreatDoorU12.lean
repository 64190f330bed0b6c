/- U12: the document's answer: the table of verbs. -/
import Derived.Test.YtijnnpbfgmmngaaGreatDoorU11
open Go Go.Vi Go.Tk
namespace Go.Proofs.YtijnnpbfgmmngaaGreatDoor.C
set_option linter.unusedSimpArgs false
set_option maxRecDepth 100000
set_option maxHeartbeats 40000000
theorem table_ok (i : Nat) (v : List UInt8 × Int × List UInt8) (hv : verbsT[i]? = some v) (h : Heap) (Q : Value → Heap → Prop) : Ret E f_laminaref25_table [.int .i64 ((i : Int) + 1)] h Q = Q (.tuple ⟨[.string (strOf v.1), .string (strOf v.2.2)]⟩) h := by
  refine Ret.eq ?_ Q
  refine ret_fun is_laminaref25_table (by simp) ?_
  unfold g_laminaref25_table
  have hi : i < 22 := (List.getElem?_eq_some_iff.1 hv).1
  unfold verbsT at hv
  match i, hi with
  | 0, _ | 1, _ | 2, _ | 3, _ | 4, _ | 5, _ | 6, _ | 7, _ | 8, _ | 9, _ | 10, _ | 11, _ | 12, _ | 13, _ | 14, _ | 15, _ | 16, _ | 17, _ | 18, _ | 19, _ | 20, _ | 21, _ =>
    cases hv
    simp (maxSteps := 10000000) (disch := omega) only [vq0, vq1, vq2, vq3, vq4, vq5, tagOf, reduceIte, reduceCtorEq, Nat.reduceEqDiff, Nat.reduceAdd, Nat.reduceSub, Nat.reduceMul, Nat.reduceLT, Nat.reduceLeDiff, Int.reduceToNat, Nat.reduceBEq, tq1, tq2, tq3]
def pickV (x : List UInt8) (acc : Int × List UInt8) (l : List (List UInt8 × Int × List UInt8)) : Int × List UInt8 := l.foldl (fun a v => if v.1 = x then (v.2.1, v.2.2) else a) acc
theorem pick_cons (x : List UInt8) (acc : Int × List UInt8) (v : List UInt8 × Int × List UInt8) (l : List (List UInt8 × Int × List UInt8)) : pickV x acc (v :: l) = pickV x (if v.1 = x then (v.2.1, v.2.2) else acc) l := by
  unfold pickV
  rw [List.foldl_cons]
theorem pick_no (x : List UInt8) : ∀ (l : List (List UInt8 × Int × List UInt8)) (acc : Int × List UInt8), (∀ v ∈ l, v.1 ≠ x) → pickV x acc l = acc := by
  intro l
  induction l with
  | nil => intro acc _; rfl
  | cons v l ih =>
    intro acc h
    rw [pick_cons, if_neg (h v List.mem_cons_self)]
    exact ih _ fun u hu => h u (List.mem_cons_of_mem _ hu)
theorem verb_no (x : List UInt8) (n : Nat) : ∀ (l : List (List UInt8 × Int × List UInt8)), (∀ v ∈ l, v.1 ≠ x) → verbOf x n l = none := by
  intro l
  induction l with
  | nil => intro _; rfl
  | cons v l ih =>
    intro h
    rw [verb_out (.inl (h v List.mem_cons_self))]
    exact ih fun u hu => h u (List.mem_cons_of_mem _ hu)
theorem pick_verb (x : List UInt8) (n : Nat) : ∀ (l : List (List UInt8 × Int × List UInt8)), (l.map (·.1)).Nodup → (∀ v ∈ l, v.2.1 ≠ 0) →
    ((pickV x (0, []) l).1 = 0 ∨ n ≠ 2 + (pickV x (0, []) l).2.length) ∧ verbOf x n l = none ∨ (pickV x (0, []) l).1 ≠ 0 ∧ n = 2 + (pickV x (0, []) l).2.length ∧ ∃ w, verbOf x n l = some (w, pickV x (0, []) l) := by
  intro l
  induction l with
  | nil => intro _ _; exact .inl ⟨.inl rfl, rfl⟩
  | cons v l ih =>
    intro hnd hz
    rw [List.map_cons, List.nodup_cons] at hnd
    rw [pick_cons]
    by_cases hv : v.1 = x
    · rw [if_pos hv]
      have hno : ∀ u ∈ l, u.1 ≠ x := fun u hu e => hnd.1 (List.mem_map.2 ⟨u, hu, by rw [e, hv]⟩)
      rw [pick_no x l _ hno]
      by_cases hn : n = 2 + v.2.2.length
      · exact .inr ⟨hz v List.mem_cons_self, hn, v.1, verb_in hv hn⟩
      · exact .inl ⟨.inr hn, by rw [verb_out (.inr hn), verb_no x n l hno]⟩
    · rw [if_neg hv, verb_out (.inl hv)]
      exact ih hnd.2 fun u hu => hz u (List.mem_cons_of_mem _ hu)
theorem verbs_nodup : (verbsT.map (·.1)).Nodup := by decide
theorem verbs_kind : ∀ v ∈ verbsT, v.2.1 ≠ 0 := by decide
theorem verbs_at : ∀ (i : Nat) (v : List UInt8 × Int × List UInt8), verbsT[i]? = some v → v.2.1 = (i : Int) + 1 := by
  intro i v hv
  have hi : i < 22 := (List.getElem?_eq_some_iff.1 hv).1
  unfold verbsT at hv
  match i, hi with
  | 0, _ | 1, _ | 2, _ | 3, _ | 4, _ | 5, _ | 6, _ | 7, _ | 8, _ | 9, _ | 10, _ | 11, _ | 12, _ | 13, _ | 14, _ | 15, _ | 16, _ | 17, _ | 18, _ | 19, _ | 20, _ | 21, _ =>
    cases hv
    rfl
end Go.Proofs.YtijnnpbfgmmngaaGreatDoor.C
