/-
  DERIVED. GIVEN WITH THE SEED: THE CARDS: each row of YtijnnpbfgmmngaaGreatDoorRows.lean that lists a variable, with what it lists TIED to the program's text (the seventh form; the later family's looks); each row that meets fmt, with fmt's text TOLD by the authors' own Lean function (tested against real Go, not proved from fmt's source: count such statements apart). THE CARD IS WHAT COUNTS. Prove the row's statement (the work); the ties are given (YtijnnpbfgmmngaaGreatDoorTie.lean); close each card by the builder's one call (the guide's Derived/Test/ToyasCard.lean, 'card_holds'). Laid BY PROGRAM, IN A SANDBOX (cutbox-door.mjs). By AI agents, Wed Nov 11 2026. No macro, syntax, notation, axiom, sorry.
-/
import Derived.Test.YtijnnpbfgmmngaaGreatDoorRows
import GoSem.ClaimSeven
namespace Go.Proofs.YtijnnpbfgmmngaaGreatDoor
namespace Rows

/-- THE TIED CARD OF 'laminalaw25.TalkNone'. -/
def talkNoneCard : Claim7 := { stood := { row := talkNoneRow, standIns := [], harness := (true, "62b6b8af169c3318d02e5d0f485bd6d7dc3b2b5a23db0e07f3a93289a24842a0"), looks := true }, kinds := [], alts := [], laidByText := true, laidKinds := [.pinned, .data, .sentinel, .sentinel, .data, .data, .data], laidTests := true, laidLooks := .later }
def TalkNoneCardSaid : Prop := Claim7.holds Tryz.pinned (.plain (OpenSpec.ofChange talkNoneSpec)) talkNoneCard

/-- THE SECOND FORM's CARD OF 'laminalaw25.TalkNone'. -/
def talkNoneUptoCard : Claim7 := { stood := { row := talkNoneUptoRow, standIns := [], harness := (true, "62b6b8af169c3318d02e5d0f485bd6d7dc3b2b5a23db0e07f3a93289a24842a0"), looks := true }, kinds := [], alts := [], laidByText := true, laidKinds := [.pinned, .data, .sentinel, .sentinel, .data, .data, .data], laidTests := true, laidLooks := .later }
def TalkNoneUptoCardSaid : Prop := Claim7.holds Tryz.pinned (.plain (OpenSpec.upto talkNoneSpec)) talkNoneUptoCard
end Rows
end Go.Proofs.YtijnnpbfgmmngaaGreatDoor
