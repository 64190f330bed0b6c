/- Fit0: the functions of the program are of the form that the interpreter takes, or are left out. -/
import Derived.Test.YtbhadhmleemjnaaDoorVgF
import Derived.Test.YtbhadhmleemjnaaDoorProg
import Derived.KernelRfl
open Go Go.Vi
namespace Go.Proofs.YtbhadhmleemjnaaDoor.C
theorem fit0 : okFrom Tryd.prog [43, 50, 52, 53, 64, 73, 74, 107] 0 108 = true := by kernel_rfl
theorem fit (f : Nat) : okAt Tryd.prog [43, 50, 52, 53, 64, 73, 74, 107] f = true := by
  have hs : Tryd.prog.funcs.size = 108 := by kernel_rfl
  by_cases h0 : f < 108
  · exact okFrom_at fit0 (by omega) (by omega)
  exact okAt_out (by rw [hs]; omega)
end Go.Proofs.YtbhadhmleemjnaaDoor.C
