/- Alive: the closed run of laminalaw22.alive ends with true: by the kernel. -/
import Derived.Test.YtdeokdbkhkehbaaGreatDoorParts
open Go Go.Vi
namespace Go.Proofs.YtdeokdbkhkehbaaGreatDoor.C
theorem alive_run : isTrue ((callF EP455 3000).fn 4 [] h0) = true := by kernel_rfl
noncomputable def E3 : Env := EP455.tell 4 (memo (.bool true))
theorem ok3 : EnvOk Tryz.prog E3 := by
  obtain ⟨h', hr⟩ := isTrue_inv alive_run
  exact tell_ok okP455 (memo_ok okP455 ((call_le EP455 3000).fn _ _ _ _ hr) (by kernel_rfl))
end Go.Proofs.YtdeokdbkhkehbaaGreatDoor.C
