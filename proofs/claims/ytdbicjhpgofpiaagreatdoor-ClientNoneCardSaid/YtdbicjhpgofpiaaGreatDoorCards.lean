/-
  DERIVED. GIVEN WITH THE SEED: THE CARDS: each row of YtdbicjhpgofpiaaGreatDoorRows.lean that lists a variable, with what it lists TIED to the program's text (the seventh form; the later family's looks); each row that meets fmt, with fmt's text TOLD by the authors' own Lean function (tested against real Go, not proved from fmt's source: count such statements apart). THE CARD IS WHAT COUNTS. Prove the row's statement (the work); the ties are given (YtdbicjhpgofpiaaGreatDoorTie.lean); close each card by the builder's one call (the guide's Derived/Test/ToyasCard.lean, 'card_holds'). Laid BY PROGRAM, IN A SANDBOX (cutbox-door.mjs). By AI agents, Wed Nov 11 2026. No macro, syntax, notation, axiom, sorry.
-/
import Derived.Test.YtdbicjhpgofpiaaGreatDoorRows
import GoSem.ClaimSeven
namespace Go.Proofs.YtdbicjhpgofpiaaGreatDoor
namespace Rows

/-- THE TIED CARD OF 'laminalaw20.ClientNone'. -/
def clientNoneCard : Claim7 := { stood := { row := clientNoneRow, standIns := [], harness := (true, "556fa3b114b25cdb35c2ae0ba52cc040617ffbcdc2f247d875103697b6bf6ab2"), looks := true }, kinds := [], alts := [], laidByText := true, laidKinds := [.data, .data, .data], laidTests := true, laidLooks := .later }
def ClientNoneCardSaid : Prop := Claim7.holds Tryz.pinned (.plain (OpenSpec.ofChange clientNoneSpec)) clientNoneCard

/-- THE SECOND FORM's CARD OF 'laminalaw20.ClientNone'. -/
def clientNoneUptoCard : Claim7 := { stood := { row := clientNoneUptoRow, standIns := [], harness := (true, "556fa3b114b25cdb35c2ae0ba52cc040617ffbcdc2f247d875103697b6bf6ab2"), looks := true }, kinds := [], alts := [], laidByText := true, laidKinds := [.data, .data, .data], laidTests := true, laidLooks := .later }
def ClientNoneUptoCardSaid : Prop := Claim7.holds Tryz.pinned (.plain (OpenSpec.upto clientNoneSpec)) clientNoneUptoCard
end Rows
end Go.Proofs.YtdbicjhpgofpiaaGreatDoor
