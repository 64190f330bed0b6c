/- X15: the law of what is put: it answers true, whatever the bundle. -/
import Derived.Test.YtdmakachnphddaaX14
open Go Go.Vi Go.Bm
namespace Go.Proofs.Ytdmakachnphddaa.C
set_option linter.unusedSimpArgs false
set_option maxRecDepth 100000
set_option maxHeartbeats 40000000
theorem alive_ret (h : Heap) (Q : Value → Heap → Prop) : Ret E Fae_ [] h Q = Q (.bool true) h :=
  Ret.eq (ret_ext (g := memo (.bool true)) (by kernel_rfl) (by kernel_rfl) rfl ⟨rfl, rfl⟩) Q
end Go.Proofs.Ytdmakachnphddaa.C
