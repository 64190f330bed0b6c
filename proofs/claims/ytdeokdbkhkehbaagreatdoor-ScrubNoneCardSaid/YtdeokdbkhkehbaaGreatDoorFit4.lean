/- Fit4: the functions from 480 on, 74 of them, are of the form that the interpreter takes. -/
import Derived.Test.YtdeokdbkhkehbaaGreatDoorVgF
import Derived.Test.YtdeokdbkhkehbaaGreatDoorProg
import Derived.KernelRfl
open Go Go.Vi
namespace Go.Proofs.YtdeokdbkhkehbaaGreatDoor.C
theorem fit4 : okFrom Tryz.prog [414,415,434,455,485,496,497,553] 480 74 = true := by kernel_rfl
end Go.Proofs.YtdeokdbkhkehbaaGreatDoor.C
