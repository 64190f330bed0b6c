/- Fit0: the functions from 0 on, 120 of them, are of the form that the interpreter takes. -/
import Derived.Test.YtdeokdbkhkehbaaGreatDoorVgF
import Derived.Test.YtdeokdbkhkehbaaGreatDoorProg
import Derived.KernelRfl
open Go Go.Vi
namespace Go.Proofs.YtdeokdbkhkehbaaGreatDoor.C
theorem fit0 : okFrom Tryz.prog [414,415,434,455,485,496,497,553] 0 120 = true := by kernel_rfl
end Go.Proofs.YtdeokdbkhkehbaaGreatDoor.C
