/- Fit2: the functions from 240 on, 24 of them, are of the form that the interpreter takes. -/
import Derived.Test.YtgcghdoggjnllaaGreatDoorVgF
import Derived.Test.YtgcghdoggjnllaaGreatDoorProg
import Derived.KernelRfl
open Go Go.Vi
namespace Go.Proofs.YtgcghdoggjnllaaGreatDoor.C
theorem fit2 : okFrom Tryz.prog [110, 179, 180, 263] 240 24 = true := by kernel_rfl
end Go.Proofs.YtgcghdoggjnllaaGreatDoor.C
