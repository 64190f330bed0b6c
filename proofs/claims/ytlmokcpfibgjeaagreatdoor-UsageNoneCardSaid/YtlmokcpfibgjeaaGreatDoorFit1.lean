/- Fit1: the functions from 120 on, 120 of them, are of the form that the interpreter takes. -/
import Derived.Test.YtlmokcpfibgjeaaGreatDoorVgF
import Derived.Test.YtlmokcpfibgjeaaGreatDoorProg
import Derived.KernelRfl
open Go Go.Vi
namespace Go.Proofs.YtlmokcpfibgjeaaGreatDoor.C
theorem fit1 : okFrom Tryz.prog [282, 347, 348, 416] 120 120 = true := by kernel_rfl
end Go.Proofs.YtlmokcpfibgjeaaGreatDoor.C
