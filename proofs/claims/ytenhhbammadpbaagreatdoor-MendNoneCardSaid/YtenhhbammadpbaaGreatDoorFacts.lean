/- Facts: the closed facts of the row, one by one (together they take more memory than a text may have). -/
import Derived.Test.YtenhhbammadpbaaGreatDoorFacts1
import Derived.WalkKit
import Derived.ProofKit
import Derived.SizedLaws
open Go
namespace Go.Proofs.YtenhhbammadpbaaGreatDoor.mendNone
set_option maxRecDepth 100000
theorem k1 : mapsRowed Tryz.prog = true := by kernel_rfl
theorem k2 : laidOutB Tryz.prog = true := by kernel_rfl
theorem k3 : (Tryz.prog.stops == []) = true := by kernel_rfl
theorem k4 : (Tryz.prog.stopKnobs == []) = true := by kernel_rfl
theorem k5 : (Rows.mendNoneRow.plainKeys == Tryz.prog.plainKeys) = true := by kernel_rfl
theorem k6 : Tryz.prog.stopsHeard = true := by kernel_rfl
theorem k7 : Tryz.prog.mayEnter = true := by kernel_rfl
theorem k8 : (Rows.mendNoneRow.lifted == Tryz.prog.liftsFinal) = true := by kernel_rfl
theorem k9 : (Tryz.prog.make == some Rows.mendNoneRow.make) = true := by kernel_rfl
theorem k10 : (Rows.mendNoneRow.pinned == Rows.mendNoneRow.pinnedBy) = true := by kernel_rfl
theorem k11 : Rows.mendNoneRow.wf (OpenSpec.ofChange Rows.mendNoneSpec) = true := by kernel_rfl
theorem k12 : namedTie Tryz.prog Rows.mendNoneRow.named Rows.mendNoneSpec.vars = true := by kernel_rfl
theorem facts : joinedFacts Tryz.prog 3 Tryz.f3 Rows.mendNoneSpec Rows.mendNoneRow = true := by
  unfold joinedFacts
  rw [jA, jB, jC, jD, k1, k2, k3, k4, k5, k6, k7, k8, k9, k10, k11, k12]
  kernel_rfl
end Go.Proofs.YtenhhbammadpbaaGreatDoor.mendNone
