/- Va6: no goroutine is started, where no function of the translation holds a go statement: looked at function by function. -/
import GoSem.ClaimGoes
namespace Go.Vi
def stillFrom (P : Program) (a n : Nat) : Bool := (List.range n).all fun k => match P.funcs[a + k]? with | some fn => !fn.goes | none => true
theorem stillFrom_at {P : Program} {a n f : Nat} (h : stillFrom P a n = true) (h1 : a ≤ f) (h2 : f < a + n) {fn : Func} (hf : P.funcs[f]? = some fn) : fn.goes = false := by
  have := List.all_eq_true.1 h (f - a) (List.mem_range.2 (by omega))
  simp only [show a + (f - a) = f by omega, hf] at this
  simpa using this
theorem goesBy_none {P : Program} (h : ∀ (g : Nat) (fn : Func), P.funcs[g]? = some fn → fn.goes = false) {c : OpenClaim} (hs : c.start = .entering) : false = c.goesBy P := by
  have h1 : ∀ g : Nat, ((P.funcs[g]?).any Func.goes) = false := fun g => by
    cases hg : P.funcs[g]? with
    | none => rfl
    | some fn => exact h g fn hg
  have h2 : P.funcs.any Func.goes = false := by
    rw [Array.any_eq_false]
    intro i hi
    have := h i P.funcs[i] (Array.getElem?_eq_getElem hi)
    rw [this]; simp
  have h3 : ∀ f, P.goes f = false := fun f => by
    unfold Program.goes
    rw [h2, Bool.and_false, Bool.or_false, List.any_eq_false]
    intro g _
    rw [h1 g]; simp
  unfold OpenClaim.goesBy Program.goesAt Program.goesFrom
  rw [hs]
  cases P.funcNamed c.func with
  | none => rfl
  | some f =>
    show false = (P.goes f || false)
    rw [h3 f]; rfl
end Go.Vi
