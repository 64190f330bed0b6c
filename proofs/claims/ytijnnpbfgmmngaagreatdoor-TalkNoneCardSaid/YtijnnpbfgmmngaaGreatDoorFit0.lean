/- Fit0: the functions from 0 on, 120 of them, are of the form that the interpreter takes. -/
import Derived.Test.YtijnnpbfgmmngaaGreatDoorVgF
import Derived.Test.YtijnnpbfgmmngaaGreatDoorProg
import Derived.KernelRfl
open Go Go.Vi
namespace Go.Proofs.YtijnnpbfgmmngaaGreatDoor.C
theorem fit0 : okFrom Tryz.prog [60, 62, 63, 70, 75, 104, 105, 587] 0 120 = true := by kernel_rfl
end Go.Proofs.YtijnnpbfgmmngaaGreatDoor.C
