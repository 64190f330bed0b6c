/- K00: the functions of the program are of the form that the interpreter takes, or are left out. -/
import Derived.Test.YthkpbhdljbdliaaVgF
import Derived.Test.YthkpbhdljbdliaaProg
import Derived.KernelRfl
open Go Go.Vi
namespace Go.Proofs.Ythkpbhdljbdliaa.C
theorem fit0 : okFrom Try.prog [] 0 48 = true := by kernel_rfl
theorem fit (f : Nat) : okAt Try.prog [] f = true := by
  have hs : Try.prog.funcs.size = 48 := by kernel_rfl
  by_cases h0 : f < 48
  · exact okFrom_at fit0 (by omega) (by omega)
  exact okAt_out (by rw [hs]; omega)
end Go.Proofs.Ythkpbhdljbdliaa.C
