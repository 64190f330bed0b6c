/- Fit: all functions of the program are of the form that the interpreter takes, or are left out. -/
import Derived.Test.YtlmokcpfibgjeaaGreatDoorFit0
import Derived.Test.YtlmokcpfibgjeaaGreatDoorFit1
import Derived.Test.YtlmokcpfibgjeaaGreatDoorFit2
import Derived.Test.YtlmokcpfibgjeaaGreatDoorFit3
open Go Go.Vi
namespace Go.Proofs.YtlmokcpfibgjeaaGreatDoor.C
theorem fit (f : Nat) : okAt Tryz.prog [282, 347, 348, 416] f = true := by
  have hs : Tryz.prog.funcs.size = 417 := by kernel_rfl
  by_cases h0 : f < 120
  · exact okFrom_at fit0 (by omega) (by omega)
  by_cases h1 : f < 240
  · exact okFrom_at fit1 (by omega) (by omega)
  by_cases h2 : f < 360
  · exact okFrom_at fit2 (by omega) (by omega)
  by_cases h3 : f < 417
  · exact okFrom_at fit3 (by omega) (by omega)
  exact okAt_out (by rw [hs]; omega)
end Go.Proofs.YtlmokcpfibgjeaaGreatDoor.C
