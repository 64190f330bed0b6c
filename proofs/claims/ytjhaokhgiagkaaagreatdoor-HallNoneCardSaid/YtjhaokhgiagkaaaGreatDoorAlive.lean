/- Alive: the closed run of laminalaw21.alive ends with true: by the kernel. -/
import Derived.Test.YtjhaokhgiagkaaaGreatDoorCrc
open Go Go.Vi
namespace Go.Proofs.YtjhaokhgiagkaaaGreatDoor.C
theorem alive_run : isTrue ((callF E2 3000).fn 4 [] h0) = true := by kernel_rfl
noncomputable def E3 : Env := E2.tell 4 (memo (.bool true))
theorem ok3 {K : Known} : EnvOk K Tryz.prog E3 := by
  obtain ⟨h', hr⟩ := isTrue_inv alive_run
  exact tell_ok ok2 (memo_ok ok2 ((call_le E2 3000).fn _ _ _ _ hr) (by kernel_rfl))
end Go.Proofs.YtjhaokhgiagkaaaGreatDoor.C
