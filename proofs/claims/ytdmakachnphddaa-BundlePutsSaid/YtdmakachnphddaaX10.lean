/- X10: the bundle of a stream, as the document takes it. -/
import Derived.Test.YtdmakachnphddaaX9
open Go Go.Vi Go.Bm
namespace Go.Proofs.Ytdmakachnphddaa.C
set_option linter.unusedSimpArgs false
set_option maxRecDepth 100000
set_option maxHeartbeats 40000000
theorem okSrc_rparts : okSrc E (some Tk_) = some true := by kernel_rfl
end Go.Proofs.Ytdmakachnphddaa.C
