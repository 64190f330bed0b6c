/- Fit2: the functions from 240 on, 120 of them, are of the form that the interpreter takes. -/
import Derived.Test.YtijnnpbfgmmngaaGreatDoorVgF
import Derived.Test.YtijnnpbfgmmngaaGreatDoorProg
import Derived.KernelRfl
open Go Go.Vi
namespace Go.Proofs.YtijnnpbfgmmngaaGreatDoor.C
theorem fit2 : okFrom Tryz.prog [60, 62, 63, 70, 75, 104, 105, 587] 240 120 = true := by kernel_rfl
end Go.Proofs.YtijnnpbfgmmngaaGreatDoor.C
