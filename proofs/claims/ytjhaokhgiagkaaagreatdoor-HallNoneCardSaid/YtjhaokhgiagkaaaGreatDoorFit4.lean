/- Fit4: the functions from 480 on, 93 of them, are of the form that the interpreter takes. -/
import Derived.Test.YtjhaokhgiagkaaaGreatDoorVgF
import Derived.Test.YtjhaokhgiagkaaaGreatDoorProg
import Derived.KernelRfl
open Go Go.Vi
namespace Go.Proofs.YtjhaokhgiagkaaaGreatDoor.C
theorem fit4 : okFrom Tryz.prog [525,537,538,572] 480 93 = true := by kernel_rfl
end Go.Proofs.YtjhaokhgiagkaaaGreatDoor.C
