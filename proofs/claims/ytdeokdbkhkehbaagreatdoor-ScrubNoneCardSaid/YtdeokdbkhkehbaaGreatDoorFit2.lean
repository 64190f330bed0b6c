/- Fit2: the functions from 240 on, 120 of them, are of the form that the interpreter takes. -/
import Derived.Test.YtdeokdbkhkehbaaGreatDoorVgF
import Derived.Test.YtdeokdbkhkehbaaGreatDoorProg
import Derived.KernelRfl
open Go Go.Vi
namespace Go.Proofs.YtdeokdbkhkehbaaGreatDoor.C
theorem fit2 : okFrom Tryz.prog [414,415,434,455,485,496,497,553] 240 120 = true := by kernel_rfl
end Go.Proofs.YtdeokdbkhkehbaaGreatDoor.C
