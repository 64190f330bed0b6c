/- Alive: the closed run of laminalaw15.alive ends with true: by the kernel. -/
import Derived.Test.YtccjepnnjidjaaaGreatCut4
open Go Go.Vi
namespace Go.Proofs.YtccjepnnjidjaaaGreat.C
theorem alive_run : isTrue ((callF EC4 3000).fn 4 [] h0) = true := by kernel_rfl
noncomputable def E3 : Env := EC4.tell 4 (memo (.bool true))
theorem ok3 : EnvOk Tryz.prog E3 := by
  obtain ⟨h', hr⟩ := isTrue_inv alive_run
  exact tell_ok okC4 (memo_ok okC4 ((call_le EC4 3000).fn _ _ _ _ hr) (by kernel_rfl))
end Go.Proofs.YtccjepnnjidjaaaGreat.C
