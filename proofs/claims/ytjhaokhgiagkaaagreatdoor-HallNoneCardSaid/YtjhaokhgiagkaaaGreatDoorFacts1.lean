/- Facts: the closed facts of the row, one by one (together they take more memory than a text may have). -/
import Derived.Test.YtjhaokhgiagkaaaGreatDoorRows
import Derived.Test.YtjhaokhgiagkaaaGreatDoorTie
import Derived.WalkKit
import Derived.ProofKit
import Derived.SizedLaws
open Go
namespace Go.Proofs.YtjhaokhgiagkaaaGreatDoor.hallNone
set_option maxRecDepth 100000
theorem jA : (Rows.hallNoneRow.inPlace == Tryz.prog.inPlace 3) = true := by kernel_rfl
theorem jB : (Rows.hallNoneRow.unfollowed == Tryz.prog.unfollowed 3) = true := by kernel_rfl
theorem jC : (Rows.hallNoneRow.recurses == Tryz.prog.recurses 3) = true := by kernel_rfl
theorem jD : (Rows.hallNoneRow.named == Tryz.prog.varsNamed 3) = true := by kernel_rfl
end Go.Proofs.YtjhaokhgiagkaaaGreatDoor.hallNone
