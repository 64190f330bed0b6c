/- Fit0: the functions from 0 on, 120 of them, are of the form that the interpreter takes. -/
import Derived.Test.YtgcghdoggjnllaaGreatDoorVgF
import Derived.Test.YtgcghdoggjnllaaGreatDoorProg
import Derived.KernelRfl
open Go Go.Vi
namespace Go.Proofs.YtgcghdoggjnllaaGreatDoor.C
theorem fit0 : okFrom Tryz.prog [110, 179, 180, 263] 0 120 = true := by kernel_rfl
end Go.Proofs.YtgcghdoggjnllaaGreatDoor.C
