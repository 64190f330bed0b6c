/- Vs7: from the interpreter's equation to a Go call, where the arguments hold no pointers. -/
import Derived.Test.YtdbicjhpgofpiaaGreatDoorVs6
import Derived.Below
namespace Go.Vi
def h0 : Heap := { next := 0, tr := .leaf }
theorem good0 (w : World) : Good (fun _ => none) h0 w :=
  ⟨fun _ _ _ h => (nomatch h), fun _ _ _ _ h => (nomatch h), fun _ _ h => (nomatch h), fun b _ => by simp [h0, Heap.get, Trie.get]⟩
/-- arguments without pointers, a boolean as the result. -/
theorem calls_bool {P : Program} {E : Env} (ok : EnvOk P E) {n : Nat} {f : FuncId} {args : List Value} {b : Bool} {h' : Heap} (hp : args.all (plainB 100) = true) (hv : callV E n f args h0 = some (.bool b, h')) (w : World) :
    Calls P f ⟨args⟩ w fun e w' => e = .returned (.bool b) ∧ w'.os = w.os ∧ w'.output = w.output ∧ w.heap.size ≤ w'.heap.size ∧ ∀ k, k < w.heap.size → w'.heap[k]? = w.heap[k]? := by
  refine ((call_ok ok n).calls f args h0 _ h' hv (fun _ => none) w ⟨args⟩ (good0 w) (fun _ _ _ => rfl) (plain_rels (fun v => plain_rel 100 v) args hp)).mono ?_
  rintro e w' ⟨ρ', v', rfl, rv, g', s⟩
  have : v' = .bool b := by cases rv; rfl
  subst this
  exact ⟨rfl, s.side.1, s.side.2, s.grow, fun k hk => s.rframe k hk (fun _ _ h => (nomatch h))⟩
end Go.Vi
