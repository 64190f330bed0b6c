/-
  DERIVED. GIVEN WITH THE SEED: THE CARDS: each row of YtdeokdbkhkehbaaGreatDoorRows.lean that lists a variable, with what it lists TIED to the program's text (the seventh form; the later family's looks); each row that meets fmt, with fmt's text TOLD by the authors' own Lean function (tested against real Go, not proved from fmt's source: count such statements apart). THE CARD IS WHAT COUNTS. Prove the row's statement (the work); the ties are given (YtdeokdbkhkehbaaGreatDoorTie.lean); close each card by the builder's one call (the guide's Derived/Test/ToyasCard.lean, 'card_holds'). Laid BY PROGRAM, IN A SANDBOX (cutbox-door.mjs). By AI agents, Wed Nov 11 2026. No macro, syntax, notation, axiom, sorry.
-/
import Derived.Test.YtdeokdbkhkehbaaGreatDoorRows
import GoSem.ClaimSeven
namespace Go.Proofs.YtdeokdbkhkehbaaGreatDoor
namespace Rows

/-- THE TIED CARD OF 'laminalaw22.ScrubNone'. -/
def scrubNoneCard : Claim7 := { stood := { row := scrubNoneRow, standIns := [], harness := (true, "8cd2a4ecc87a2fe107d6494a95af1072b607bc4c5c6a06f85ac4c2eca051b894"), looks := true }, kinds := [], alts := [], laidByText := true, laidKinds := [.data, .data, .data, .pinned, .data, .sentinel, .sentinel], laidTests := true, laidLooks := .later }
def ScrubNoneCardSaid : Prop := Claim7.holds Tryz.pinned (.plain (OpenSpec.ofChange scrubNoneSpec)) scrubNoneCard

/-- THE SECOND FORM's CARD OF 'laminalaw22.ScrubNone'. -/
def scrubNoneUptoCard : Claim7 := { stood := { row := scrubNoneUptoRow, standIns := [], harness := (true, "8cd2a4ecc87a2fe107d6494a95af1072b607bc4c5c6a06f85ac4c2eca051b894"), looks := true }, kinds := [], alts := [], laidByText := true, laidKinds := [.data, .data, .data, .pinned, .data, .sentinel, .sentinel], laidTests := true, laidLooks := .later }
def ScrubNoneUptoCardSaid : Prop := Claim7.holds Tryz.pinned (.plain (OpenSpec.upto scrubNoneSpec)) scrubNoneUptoCard
end Rows
end Go.Proofs.YtdeokdbkhkehbaaGreatDoor
