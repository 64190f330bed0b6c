/- Fit1: the functions from 120 on, 120 of them, are of the form that the interpreter takes. -/
import Derived.Test.YtgcghdoggjnllaaGreatDoorVgF
import Derived.Test.YtgcghdoggjnllaaGreatDoorProg
import Derived.KernelRfl
open Go Go.Vi
namespace Go.Proofs.YtgcghdoggjnllaaGreatDoor.C
theorem fit1 : okFrom Tryz.prog [110, 179, 180, 263] 120 120 = true := by kernel_rfl
end Go.Proofs.YtgcghdoggjnllaaGreatDoor.C
