/-
  DERIVED. GIVEN WITH THE SEED: THE CARDS: each row of YtkloflhiipebmaaDoorRows.lean that lists a variable, with what it lists TIED to the program's text (the seventh form; the later family's looks); each row that meets fmt, with fmt's text TOLD by the authors' own Lean function (tested against real Go, not proved from fmt's source: count such statements apart). THE CARD IS WHAT COUNTS. Prove the row's statement (the work); the ties are given (YtkloflhiipebmaaDoorTie.lean); close each card by the builder's one call (the guide's Derived/Test/ToyasCard.lean, 'card_holds'). Laid BY PROGRAM, IN A SANDBOX (cutbox-door.mjs). By AI agents, Wed Nov 11 2026. No macro, syntax, notation, axiom, sorry.
-/
import Derived.Test.YtkloflhiipebmaaDoorRows
import GoSem.ClaimSeven
namespace Go.Proofs.YtkloflhiipebmaaDoor
namespace Rows

/-- THE TIED CARD OF 'laminalaw25.TalkParses'. -/
def talkParsesCard : Claim7 := { stood := { row := talkParsesRow, standIns := [], harness := (true, "071eac432f6d1324d67545db34b390adb9c967d33fa8fea1b4105d613d650324"), looks := true }, kinds := [], alts := [], laidByText := true, laidKinds := [.data, .data, .data, .data, .sentinel, .sentinel, .pinned], laidTests := true, laidLooks := .later }
def TalkParsesCardSaid : Prop := Claim7.holds Tryd.pinned (.plain (OpenSpec.ofChange talkParsesSpec)) talkParsesCard

/-- THE TIED CARD OF 'laminalaw25.TalkPrints'. -/
def talkPrintsCard : Claim7 := { stood := { row := talkPrintsRow, standIns := [], harness := (true, "071eac432f6d1324d67545db34b390adb9c967d33fa8fea1b4105d613d650324"), looks := true }, kinds := [], alts := [], laidByText := true, laidKinds := [.data, .data, .data, .data, .sentinel, .sentinel, .pinned], laidTests := true, laidLooks := .later }
def TalkPrintsCardSaid : Prop := Claim7.holds Tryd.pinned (.plain (OpenSpec.ofChange talkPrintsSpec)) talkPrintsCard

/-- THE SECOND FORM's CARD OF 'laminalaw25.TalkParses'. -/
def talkParsesUptoCard : Claim7 := { stood := { row := talkParsesUptoRow, standIns := [], harness := (true, "071eac432f6d1324d67545db34b390adb9c967d33fa8fea1b4105d613d650324"), looks := true }, kinds := [], alts := [], laidByText := true, laidKinds := [.data, .data, .data, .data, .sentinel, .sentinel, .pinned], laidTests := true, laidLooks := .later }
def TalkParsesUptoCardSaid : Prop := Claim7.holds Tryd.pinned (.plain (OpenSpec.upto talkParsesSpec)) talkParsesUptoCard

/-- THE SECOND FORM's CARD OF 'laminalaw25.TalkPrints'. -/
def talkPrintsUptoCard : Claim7 := { stood := { row := talkPrintsUptoRow, standIns := [], harness := (true, "071eac432f6d1324d67545db34b390adb9c967d33fa8fea1b4105d613d650324"), looks := true }, kinds := [], alts := [], laidByText := true, laidKinds := [.data, .data, .data, .data, .sentinel, .sentinel, .pinned], laidTests := true, laidLooks := .later }
def TalkPrintsUptoCardSaid : Prop := Claim7.holds Tryd.pinned (.plain (OpenSpec.upto talkPrintsSpec)) talkPrintsUptoCard
end Rows
end Go.Proofs.YtkloflhiipebmaaDoor
