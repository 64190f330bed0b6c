/- Alive: the closed run of laminalaw24.alive ends with true: by the kernel. -/
import Derived.Test.YtlmokcpfibgjeaaGreatDoorCut12
open Go Go.Vi
namespace Go.Proofs.YtlmokcpfibgjeaaGreatDoor.C
theorem alive_run : isTrue ((callF EC12 3000).fn 4 [] h0) = true := by kernel_rfl
noncomputable def E3 : Env := EC12.tell 4 (memo (.bool true))
theorem ok3 : EnvOk Tryz.prog E3 := by
  obtain ⟨h', hr⟩ := isTrue_inv alive_run
  exact tell_ok okC12 (memo_ok okC12 ((call_le EC12 3000).fn _ _ _ _ hr) (by kernel_rfl))
end Go.Proofs.YtlmokcpfibgjeaaGreatDoor.C
