/- MyTie3: the row's tie, out of its facts. -/
import Derived.Test.YtijnnpbfgmmngaaGreatDoorMyTie2
namespace Go.Proofs.YtijnnpbfgmmngaaGreatDoor.talkNone
open Go
theorem pin1 : Tryz.pinned.checked.prog.pinnedFits "unicode/utf8.first" = true := by kernel_rfl
theorem noOwn : Tryz.pinned.checked.prog.headLifts.contains "ownunsafe" = false := by kernel_rfl
theorem fits : Tryz.pinned.checked.prog.listedFits Rows.talkNoneRow.laid = true := by
  unfold Program.listedFits
  rw [noOwn]
  kernel_rfl
theorem tied : Tryz.prog.laidByTextLater lst [.data, .sentinel, .sentinel, .data, .data, .data] true :=
  Program.laidByTextLater_by_one 400 8 65 tW tW' tR tK tG tN tRun
theorem row_tie : Rows.talkNoneRow.laidByTextAt .later Tryz.pinned [.pinned, .data, .sentinel, .sentinel, .data, .data, .data] true :=
  OpenClaim.laidByTextAt_pinned rfl rfl tied rfl rfl rfl rfl (fun y hy _e => by
    simp only [Rows.talkNoneRow, List.zip_cons_cons, List.zip_nil_right, List.mem_cons, List.mem_nil_iff, or_false] at hy
    rcases hy with rfl | rfl | rfl | rfl | rfl | rfl | rfl
    · exact ⟨pin1, by kernel_rfl⟩
    · cases _e
    · cases _e
    · cases _e
    · cases _e
    · cases _e
    · cases _e) fits
end Go.Proofs.YtijnnpbfgmmngaaGreatDoor.talkNone
