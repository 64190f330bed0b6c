/- Facts: the closed facts of the row, one by one (together they take more memory than a text may have). -/
import Derived.Test.YtijnnpbfgmmngaaGreatDoorMyTie3
import Derived.WalkKit
import Derived.ProofKit
import Derived.SizedLaws
open Go
namespace Go.Proofs.YtijnnpbfgmmngaaGreatDoor.talkNone
set_option maxRecDepth 100000
theorem jA : (Rows.talkNoneRow.inPlace == Tryz.prog.inPlace 3) = true := by kernel_rfl
theorem jB : (Rows.talkNoneRow.unfollowed == Tryz.prog.unfollowed 3) = true := by kernel_rfl
theorem jC : (Rows.talkNoneRow.recurses == Tryz.prog.recurses 3) = true := by kernel_rfl
theorem jD : (Rows.talkNoneRow.named == Tryz.prog.varsNamed 3) = true := by kernel_rfl
end Go.Proofs.YtijnnpbfgmmngaaGreatDoor.talkNone
