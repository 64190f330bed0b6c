/- Fit: all functions of the program are of the form that the interpreter takes, or are left out. -/
import Derived.Test.YtdbicjhpgofpiaaGreatDoorFit0
import Derived.Test.YtdbicjhpgofpiaaGreatDoorFit1
import Derived.Test.YtdbicjhpgofpiaaGreatDoorFit2
import Derived.Test.YtdbicjhpgofpiaaGreatDoorFit3
import Derived.Test.YtdbicjhpgofpiaaGreatDoorFit4
open Go Go.Vi
namespace Go.Proofs.YtdbicjhpgofpiaaGreatDoor.C
theorem fit (f : Nat) : okAt Tryz.prog [480, 497, 498, 533] f = true := by
  have hs : Tryz.prog.funcs.size = 534 := by kernel_rfl
  by_cases h0 : f < 120
  · exact okFrom_at fit0 (by omega) (by omega)
  by_cases h1 : f < 240
  · exact okFrom_at fit1 (by omega) (by omega)
  by_cases h2 : f < 360
  · exact okFrom_at fit2 (by omega) (by omega)
  by_cases h3 : f < 480
  · exact okFrom_at fit3 (by omega) (by omega)
  by_cases h4 : f < 534
  · exact okFrom_at fit4 (by omega) (by omega)
  exact okAt_out (by rw [hs]; omega)
end Go.Proofs.YtdbicjhpgofpiaaGreatDoor.C
