/- Fit: all functions of the program are of the form that the interpreter takes, or are left out. -/
import Derived.Test.YtccjepnnjidjaaaGreatFit0
import Derived.Test.YtccjepnnjidjaaaGreatFit1
import Derived.Test.YtccjepnnjidjaaaGreatFit2
open Go Go.Vi
namespace Go.Proofs.YtccjepnnjidjaaaGreat.C
theorem fit (f : Nat) : okAt Tryz.prog [] f = true := by
  have hs : Tryz.prog.funcs.size = 246 := by kernel_rfl
  by_cases h0 : f < 120
  · exact okFrom_at fit0 (by omega) (by omega)
  by_cases h1 : f < 240
  · exact okFrom_at fit1 (by omega) (by omega)
  by_cases h2 : f < 246
  · exact okFrom_at fit2 (by omega) (by omega)
  exact okAt_out (by rw [hs]; omega)
end Go.Proofs.YtccjepnnjidjaaaGreat.C
