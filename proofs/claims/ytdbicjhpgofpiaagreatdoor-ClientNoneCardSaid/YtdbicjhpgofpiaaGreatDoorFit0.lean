/- Fit0: the functions from 0 on, 120 of them, are of the form that the interpreter takes. -/
import Derived.Test.YtdbicjhpgofpiaaGreatDoorVr3
import Derived.Test.YtdbicjhpgofpiaaGreatDoorProg
import Derived.KernelRfl
open Go Go.Vi
namespace Go.Proofs.YtdbicjhpgofpiaaGreatDoor.C
theorem fit0 : okFrom Tryz.prog [480, 497, 498, 533] 0 120 = true := by kernel_rfl
end Go.Proofs.YtdbicjhpgofpiaaGreatDoor.C
