/- Fit4: the functions from 480 on, 54 of them, are of the form that the interpreter takes. -/
import Derived.Test.YtdbicjhpgofpiaaGreatDoorVr3
import Derived.Test.YtdbicjhpgofpiaaGreatDoorProg
import Derived.KernelRfl
open Go Go.Vi
namespace Go.Proofs.YtdbicjhpgofpiaaGreatDoor.C
theorem fit4 : okFrom Tryz.prog [480, 497, 498, 533] 480 54 = true := by kernel_rfl
end Go.Proofs.YtdbicjhpgofpiaaGreatDoor.C
