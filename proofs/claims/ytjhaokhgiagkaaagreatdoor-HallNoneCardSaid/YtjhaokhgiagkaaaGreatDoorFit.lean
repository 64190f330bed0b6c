/- Fit: all functions of the program are of the form that the interpreter takes, or are left out. -/
import Derived.Test.YtjhaokhgiagkaaaGreatDoorFit0
import Derived.Test.YtjhaokhgiagkaaaGreatDoorFit1
import Derived.Test.YtjhaokhgiagkaaaGreatDoorFit2
import Derived.Test.YtjhaokhgiagkaaaGreatDoorFit3
import Derived.Test.YtjhaokhgiagkaaaGreatDoorFit4
open Go Go.Vi
namespace Go.Proofs.YtjhaokhgiagkaaaGreatDoor.C
theorem fit (f : Nat) : okAt Tryz.prog [525,537,538,572] f = true := by
  have hs : Tryz.prog.funcs.size = 573 := by kernel_rfl
  by_cases h0 : f < 120
  · exact okFrom_at fit0 (by omega) (by omega)
  by_cases h1 : f < 240
  · exact okFrom_at fit1 (by omega) (by omega)
  by_cases h2 : f < 360
  · exact okFrom_at fit2 (by omega) (by omega)
  by_cases h3 : f < 480
  · exact okFrom_at fit3 (by omega) (by omega)
  by_cases h4 : f < 573
  · exact okFrom_at fit4 (by omega) (by omega)
  exact okAt_out (by rw [hs]; omega)
end Go.Proofs.YtjhaokhgiagkaaaGreatDoor.C
