/- K00: the functions of the program are of the form that the interpreter takes, or are left out. -/
import Derived.Test.YtkloflhiipebmaaDoorVgE
import Derived.Test.YtkloflhiipebmaaDoorVgD
import Derived.Test.YtkloflhiipebmaaDoorVgF
import Derived.Test.YtkloflhiipebmaaDoorVgJ
import Derived.Test.YtkloflhiipebmaaDoorProg
import Derived.KernelRfl
open Go Go.Vi
namespace Go.Proofs.YtkloflhiipebmaaDoor.C
theorem fit0 : okFrom Tryd.prog [66, 68, 69, 76, 81, 98, 99, 129] 0 130 = true := by kernel_rfl
theorem fit (f : Nat) : okAt Tryd.prog [66, 68, 69, 76, 81, 98, 99, 129] f = true := by
  have hs : Tryd.prog.funcs.size = 130 := by kernel_rfl
  by_cases h0 : f < 130
  · exact okFrom_at fit0 (by omega) (by omega)
  exact okAt_out (by rw [hs]; omega)
end Go.Proofs.YtkloflhiipebmaaDoor.C
