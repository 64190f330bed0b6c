/- MyTie3: the row's tie, out of its facts. -/
import Derived.Test.YtdeokdbkhkehbaaGreatDoorMyTie2
namespace Go.Proofs.YtdeokdbkhkehbaaGreatDoor.scrubNone
open Go
theorem pin1 : Tryz.pinned.checked.prog.pinnedFits "unicode/utf8.first" = true := by kernel_rfl
theorem noOwn : Tryz.pinned.checked.prog.headLifts.contains "ownunsafe" = false := by kernel_rfl
theorem fits : Tryz.pinned.checked.prog.listedFits Rows.scrubNoneRow.laid = true := by
  unfold Program.listedFits
  rw [noOwn]
  kernel_rfl
theorem tied : Tryz.prog.laidByTextLater lst [.data, .data, .data, .data, .sentinel, .sentinel] true :=
  Program.laidByTextLater_by_one 400 8 65 tW tW' tR tK tG tN tRun
theorem row_tie : Rows.scrubNoneRow.laidByTextAt .later Tryz.pinned [.data, .data, .data, .pinned, .data, .sentinel, .sentinel] true :=
  OpenClaim.laidByTextAt_pinned rfl rfl tied rfl rfl rfl rfl (fun y hy _e => by
    simp only [Rows.scrubNoneRow, List.zip_cons_cons, List.zip_nil_right, List.mem_cons, List.mem_nil_iff, or_false] at hy
    rcases hy with rfl | rfl | rfl | rfl | rfl | rfl | rfl
    · cases _e
    · cases _e
    · cases _e
    · exact ⟨pin1, by kernel_rfl⟩
    · cases _e
    · cases _e
    · cases _e) fits
end Go.Proofs.YtdeokdbkhkehbaaGreatDoor.scrubNone
