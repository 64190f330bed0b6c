/- Fit1: the functions from 120 on, 120 of them, are of the form that the interpreter takes. -/
import Derived.Test.YtccjepnnjidjaaaGreatVgF
import Derived.Test.YtccjepnnjidjaaaGreatProg
import Derived.KernelRfl
open Go Go.Vi
namespace Go.Proofs.YtccjepnnjidjaaaGreat.C
theorem fit1 : okFrom Tryz.prog [] 120 120 = true := by kernel_rfl
end Go.Proofs.YtccjepnnjidjaaaGreat.C
