/-
  DERIVED. GIVEN WITH THE SEED: THE CARDS: each row of YtenhhbammadpbaaGreatDoorRows.lean that lists a variable, with what it lists TIED to the program's text (the seventh form; the later family's looks); each row that meets fmt, with fmt's text TOLD by the authors' own Lean function (tested against real Go, not proved from fmt's source: count such statements apart). THE CARD IS WHAT COUNTS. Prove the row's statement (the work); the ties are given (YtenhhbammadpbaaGreatDoorTie.lean); close each card by the builder's one call (the guide's Derived/Test/ToyasCard.lean, 'card_holds'). Laid BY PROGRAM, IN A SANDBOX (cutbox-door.mjs). By AI agents, Wed Nov 11 2026. No macro, syntax, notation, axiom, sorry.
-/
import Derived.Test.YtenhhbammadpbaaGreatDoorRows
import GoSem.ClaimSeven
namespace Go.Proofs.YtenhhbammadpbaaGreatDoor
namespace Rows

/-- THE TIED CARD OF 'laminalaw18.MendNone'. -/
def mendNoneCard : Claim7 := { stood := { row := mendNoneRow, standIns := [], harness := (true, "20edc44c5ee37b206c2004d911a419ab9578a8dacad04bd71b78b881ddc09c61"), looks := true }, kinds := [], alts := [], laidByText := true, laidKinds := [.data, .data, .data], laidTests := true, laidLooks := .later }
def MendNoneCardSaid : Prop := Claim7.holds Tryz.pinned (.plain (OpenSpec.ofChange mendNoneSpec)) mendNoneCard

/-- THE SECOND FORM's CARD OF 'laminalaw18.MendNone'. -/
def mendNoneUptoCard : Claim7 := { stood := { row := mendNoneUptoRow, standIns := [], harness := (true, "20edc44c5ee37b206c2004d911a419ab9578a8dacad04bd71b78b881ddc09c61"), looks := true }, kinds := [], alts := [], laidByText := true, laidKinds := [.data, .data, .data], laidTests := true, laidLooks := .later }
def MendNoneUptoCardSaid : Prop := Claim7.holds Tryz.pinned (.plain (OpenSpec.upto mendNoneSpec)) mendNoneUptoCard
end Rows
end Go.Proofs.YtenhhbammadpbaaGreatDoor
