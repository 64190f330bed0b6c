/- Fit0: the functions from 0 on, 120 of them, are of the form that the interpreter takes. Fit1: the functions from 120 on, 120 of them, are of the form that the interpreter takes. Fit2: the functions from 240 on, 120 of them, are of the form that the interpreter takes. Fit3: the functions from 360 on, 95 of them, are of the form that the interpreter takes. Fit: all functions of the program are of the form that the interpreter takes, or are left out. -/
import Derived.Test.YtenhhbammadpbaaGreatDoorVgF
import Derived.Test.YtenhhbammadpbaaGreatDoorProg
import Derived.KernelRfl
open Go Go.Vi
namespace Go.Proofs.YtenhhbammadpbaaGreatDoor.C
theorem fit0 : okFrom Tryz.prog [371,410,411,454] 0 120 = true := by kernel_rfl
end Go.Proofs.YtenhhbammadpbaaGreatDoor.C
open Go Go.Vi
namespace Go.Proofs.YtenhhbammadpbaaGreatDoor.C
theorem fit1 : okFrom Tryz.prog [371,410,411,454] 120 120 = true := by kernel_rfl
end Go.Proofs.YtenhhbammadpbaaGreatDoor.C
open Go Go.Vi
namespace Go.Proofs.YtenhhbammadpbaaGreatDoor.C
theorem fit2 : okFrom Tryz.prog [371,410,411,454] 240 120 = true := by kernel_rfl
end Go.Proofs.YtenhhbammadpbaaGreatDoor.C
open Go Go.Vi
namespace Go.Proofs.YtenhhbammadpbaaGreatDoor.C
theorem fit3 : okFrom Tryz.prog [371,410,411,454] 360 95 = true := by kernel_rfl
end Go.Proofs.YtenhhbammadpbaaGreatDoor.C
open Go Go.Vi
namespace Go.Proofs.YtenhhbammadpbaaGreatDoor.C
theorem fit (f : Nat) : okAt Tryz.prog [371,410,411,454] f = true := by
  have hs : Tryz.prog.funcs.size = 455 := by kernel_rfl
  by_cases h0 : f < 120
  · exact okFrom_at fit0 (by omega) (by omega)
  by_cases h1 : f < 240
  · exact okFrom_at fit1 (by omega) (by omega)
  by_cases h2 : f < 360
  · exact okFrom_at fit2 (by omega) (by omega)
  by_cases h3 : f < 455
  · exact okFrom_at fit3 (by omega) (by omega)
  exact okAt_out (by rw [hs]; omega)
end Go.Proofs.YtenhhbammadpbaaGreatDoor.C
