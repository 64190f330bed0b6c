/- U1: names. -/
import Derived.Test.YtijnnpbfgmmngaaGreatDoorHc
open Go Go.Vi Go.Tk
namespace Go.Proofs.YtijnnpbfgmmngaaGreatDoor.C
set_option linter.unusedSimpArgs false
set_option maxRecDepth 100000
set_option maxHeartbeats 40000000
def oddI (c : Int) : Bool := !(decide (97 ≤ c ∧ c ≤ 122) || decide (48 ≤ c ∧ c ≤ 57) || decide (c = 45))
theorem odd_ok (c : Int) (h : Heap) : Ret E f_head_Named_1 [.int .i32 c] h (fun v h' => v = .bool (oddI c) ∧ h' = h) := by
  refine ret_fun is_head_Named_1 (by simp) ?_
  unfold g_head_Named_1
  by_cases h1 : c < 97 <;> by_cases h2 : c > 122 <;> by_cases h3 : c < 48 <;> by_cases h4 : c > 57 <;> by_cases h5 : c = 45 <;> first | omega | (simp (maxSteps := 10000000) (disch := omega) only [vq0, vq1, vq2, vq3, vq4, vq5, tagOf, reduceIte, reduceCtorEq, Nat.reduceEqDiff, Nat.reduceAdd, Nat.reduceSub, Nat.reduceMul, Nat.reduceLT, Nat.reduceLeDiff, Int.reduceToNat, Nat.reduceBEq, tq1, tq2, tq3]; unfold oddI; first | (simp; omega))
end Go.Proofs.YtijnnpbfgmmngaaGreatDoor.C
