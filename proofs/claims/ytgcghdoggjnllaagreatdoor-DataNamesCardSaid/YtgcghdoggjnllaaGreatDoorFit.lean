/- Fit: all functions of the program are of the form that the interpreter takes, or are left out. -/
import Derived.Test.YtgcghdoggjnllaaGreatDoorFit0
import Derived.Test.YtgcghdoggjnllaaGreatDoorFit1
import Derived.Test.YtgcghdoggjnllaaGreatDoorFit2
open Go Go.Vi
namespace Go.Proofs.YtgcghdoggjnllaaGreatDoor.C
theorem fit (f : Nat) : okAt Tryz.prog [110, 179, 180, 263] f = true := by
  have hs : Tryz.prog.funcs.size = 264 := by kernel_rfl
  by_cases h0 : f < 120
  · exact okFrom_at fit0 (by omega) (by omega)
  by_cases h1 : f < 240
  · exact okFrom_at fit1 (by omega) (by omega)
  by_cases h2 : f < 264
  · exact okFrom_at fit2 (by omega) (by omega)
  exact okAt_out (by rw [hs]; omega)
end Go.Proofs.YtgcghdoggjnllaaGreatDoor.C
