/- Fit0: the functions from 0 on, 120 of them, are of the form that the interpreter takes. -/
import Derived.Test.YtlmokcpfibgjeaaGreatDoorVgF
import Derived.Test.YtlmokcpfibgjeaaGreatDoorProg
import Derived.KernelRfl
open Go Go.Vi
namespace Go.Proofs.YtlmokcpfibgjeaaGreatDoor.C
theorem fit0 : okFrom Tryz.prog [282, 347, 348, 416] 0 120 = true := by kernel_rfl
end Go.Proofs.YtlmokcpfibgjeaaGreatDoor.C
