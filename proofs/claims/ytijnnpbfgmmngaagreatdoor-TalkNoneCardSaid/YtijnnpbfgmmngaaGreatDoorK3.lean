/- K3: the walks: the document's figures of bytes. -/
import Derived.Test.YtijnnpbfgmmngaaGreatDoorK1
import Derived.BigQuiet
import Derived.Laws.AppendOwn
import Derived.Laws.BytesString
import Derived.Laws.Cells
import Derived.Deep.RegionHeld3
import Derived.Deep.AppendLies
import Derived.Tactics2
import Derived.WalkSpells
import Derived.OwnWalk
open Go Go.Nm Go.Sort Go.RowKit
namespace Go.Proofs.YtijnnpbfgmmngaaGreatDoor.C
open Go.Vi (strOf KeptW)
set_option maxHeartbeats 4000000
set_option maxRecDepth 1000000
end Go.Proofs.YtijnnpbfgmmngaaGreatDoor.C
