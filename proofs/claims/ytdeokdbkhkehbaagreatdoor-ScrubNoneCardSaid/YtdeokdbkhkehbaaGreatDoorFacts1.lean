/- Facts: the closed facts of the row, one by one (together they take more memory than a text may have). -/
import Derived.Test.YtdeokdbkhkehbaaGreatDoorMyTie3
import Derived.WalkKit
import Derived.ProofKit
import Derived.SizedLaws
open Go
namespace Go.Proofs.YtdeokdbkhkehbaaGreatDoor.scrubNone
set_option maxRecDepth 100000
theorem jA : (Rows.scrubNoneRow.inPlace == Tryz.prog.inPlace 3) = true := by kernel_rfl
theorem jB : (Rows.scrubNoneRow.unfollowed == Tryz.prog.unfollowed 3) = true := by kernel_rfl
theorem jC : (Rows.scrubNoneRow.recurses == Tryz.prog.recurses 3) = true := by kernel_rfl
theorem jD : (Rows.scrubNoneRow.named == Tryz.prog.varsNamed 3) = true := by kernel_rfl
end Go.Proofs.YtdeokdbkhkehbaaGreatDoor.scrubNone
