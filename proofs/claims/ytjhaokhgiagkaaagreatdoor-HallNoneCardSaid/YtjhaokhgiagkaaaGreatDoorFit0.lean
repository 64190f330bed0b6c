/- Fit0: the functions from 0 on, 120 of them, are of the form that the interpreter takes. -/
import Derived.Test.YtjhaokhgiagkaaaGreatDoorVgF
import Derived.Test.YtjhaokhgiagkaaaGreatDoorProg
import Derived.KernelRfl
open Go Go.Vi
namespace Go.Proofs.YtjhaokhgiagkaaaGreatDoor.C
theorem fit0 : okFrom Tryz.prog [525,537,538,572] 0 120 = true := by kernel_rfl
end Go.Proofs.YtjhaokhgiagkaaaGreatDoor.C
