/- Fit4: the functions from 480 on, 108 of them, are of the form that the interpreter takes. -/
import Derived.Test.YtijnnpbfgmmngaaGreatDoorVgF
import Derived.Test.YtijnnpbfgmmngaaGreatDoorProg
import Derived.KernelRfl
open Go Go.Vi
namespace Go.Proofs.YtijnnpbfgmmngaaGreatDoor.C
theorem fit4 : okFrom Tryz.prog [60, 62, 63, 70, 75, 104, 105, 587] 480 108 = true := by kernel_rfl
end Go.Proofs.YtijnnpbfgmmngaaGreatDoor.C
