/- Facts: the closed facts of the row, one by one (together they take more memory than a text may have). -/
import Derived.Test.YtenhhbammadpbaaGreatDoorRows
import Derived.WalkKit
import Derived.ProofKit
import Derived.SizedLaws
open Go
namespace Go.Proofs.YtenhhbammadpbaaGreatDoor.mendNone
set_option maxRecDepth 100000
theorem jA : (Rows.mendNoneRow.inPlace == Tryz.prog.inPlace 3) = true := by kernel_rfl
theorem jB : (Rows.mendNoneRow.unfollowed == Tryz.prog.unfollowed 3) = true := by kernel_rfl
theorem jC : (Rows.mendNoneRow.recurses == Tryz.prog.recurses 3) = true := by kernel_rfl
theorem jD : (Rows.mendNoneRow.named == Tryz.prog.varsNamed 3) = true := by kernel_rfl
end Go.Proofs.YtenhhbammadpbaaGreatDoor.mendNone
