/- Alive: the closed run of laminalaw18.alive ends with true: by the kernel. -/
import Derived.Test.YtenhhbammadpbaaGreatDoorCut27
open Go Go.Vi
namespace Go.Proofs.YtenhhbammadpbaaGreatDoor.C
theorem alive_run : isTrue ((callF EC27 3000).fn 4 [] h0) = true := by kernel_rfl
noncomputable def E3 : Env := EC27.tell 4 (memo (.bool true))
theorem ok3 {K : Known} : EnvOk K Tryz.prog E3 := by
  obtain ⟨h', hr⟩ := isTrue_inv alive_run
  exact tell_ok okC27 (memo_ok okC27 ((call_le EC27 3000).fn _ _ _ _ hr) (by kernel_rfl))
end Go.Proofs.YtenhhbammadpbaaGreatDoor.C
