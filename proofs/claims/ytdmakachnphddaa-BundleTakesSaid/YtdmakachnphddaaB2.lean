/- B2: a diff as the program's, of its own memory. -/
import Derived.Test.YtdmakachnphddaaB1
open Go Go.Vi Go.Bm
namespace Go.Proofs.Ytdmakachnphddaa.C
set_option linter.unusedSimpArgs false
set_option maxRecDepth 100000
set_option maxHeartbeats 40000000
end Go.Proofs.Ytdmakachnphddaa.C
