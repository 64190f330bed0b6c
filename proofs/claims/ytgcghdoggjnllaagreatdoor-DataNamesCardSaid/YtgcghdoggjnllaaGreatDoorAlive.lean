/- Alive: the closed run of laminalaw14.alive ends with true: by the kernel. -/
import Derived.Test.YtgcghdoggjnllaaGreatDoorCut3
open Go Go.Vi
namespace Go.Proofs.YtgcghdoggjnllaaGreatDoor.C
theorem alive_run : isTrue ((callF EC3 3000).fn 4 [] h0) = true := by kernel_rfl
noncomputable def E3 : Env := EC3.tell 4 (memo (.bool true))
theorem ok3 : EnvOk Tryz.prog E3 := by
  obtain ⟨h', hr⟩ := isTrue_inv alive_run
  exact tell_ok okC3 (memo_ok okC3 ((call_le EC3 3000).fn _ _ _ _ hr) (by kernel_rfl))
end Go.Proofs.YtgcghdoggjnllaaGreatDoor.C
