/- Fit3: the functions from 360 on, 57 of them, are of the form that the interpreter takes. -/
import Derived.Test.YtlmokcpfibgjeaaGreatDoorVgF
import Derived.Test.YtlmokcpfibgjeaaGreatDoorProg
import Derived.KernelRfl
open Go Go.Vi
namespace Go.Proofs.YtlmokcpfibgjeaaGreatDoor.C
theorem fit3 : okFrom Tryz.prog [282, 347, 348, 416] 360 57 = true := by kernel_rfl
end Go.Proofs.YtlmokcpfibgjeaaGreatDoor.C
