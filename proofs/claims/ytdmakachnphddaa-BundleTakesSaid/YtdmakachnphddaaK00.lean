/- K00: the functions of the program are of the form that the interpreter takes, or are left out. -/
import Derived.Test.YtdmakachnphddaaVgF
import Derived.Test.YtdmakachnphddaaProg
import Derived.KernelRfl
open Go Go.Vi
namespace Go.Proofs.Ytdmakachnphddaa.C
theorem fit0 : okFrom Try.prog [] 0 106 = true := by kernel_rfl
theorem fit (f : Nat) : okAt Try.prog [] f = true := by
  have hs : Try.prog.funcs.size = 106 := by kernel_rfl
  by_cases h0 : f < 106
  · exact okFrom_at fit0 (by omega) (by omega)
  exact okAt_out (by rw [hs]; omega)
end Go.Proofs.Ytdmakachnphddaa.C
