/- Fit2: the functions from 240 on, 6 of them, are of the form that the interpreter takes. -/
import Derived.Test.YtccjepnnjidjaaaGreatVgF
import Derived.Test.YtccjepnnjidjaaaGreatProg
import Derived.KernelRfl
open Go Go.Vi
namespace Go.Proofs.YtccjepnnjidjaaaGreat.C
theorem fit2 : okFrom Tryz.prog [] 240 6 = true := by kernel_rfl
end Go.Proofs.YtccjepnnjidjaaaGreat.C
