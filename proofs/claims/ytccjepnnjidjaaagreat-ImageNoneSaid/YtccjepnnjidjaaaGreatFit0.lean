/- Fit0: the functions from 0 on, 120 of them, are of the form that the interpreter takes. -/
import Derived.Test.YtccjepnnjidjaaaGreatVgF
import Derived.Test.YtccjepnnjidjaaaGreatProg
import Derived.KernelRfl
open Go Go.Vi
namespace Go.Proofs.YtccjepnnjidjaaaGreat.C
theorem fit0 : okFrom Tryz.prog [] 0 120 = true := by kernel_rfl
end Go.Proofs.YtccjepnnjidjaaaGreat.C
