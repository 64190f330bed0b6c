/- Fit1: the functions from 120 on, 120 of them, are of the form that the interpreter takes. -/
import Derived.Test.YtjhaokhgiagkaaaGreatDoorVgF
import Derived.Test.YtjhaokhgiagkaaaGreatDoorProg
import Derived.KernelRfl
open Go Go.Vi
namespace Go.Proofs.YtjhaokhgiagkaaaGreatDoor.C
theorem fit1 : okFrom Tryz.prog [525,537,538,572] 120 120 = true := by kernel_rfl
end Go.Proofs.YtjhaokhgiagkaaaGreatDoor.C
