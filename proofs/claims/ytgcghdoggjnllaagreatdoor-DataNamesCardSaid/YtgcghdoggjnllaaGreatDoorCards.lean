/-
  DERIVED. GIVEN WITH THE SEED: THE CARDS: each row of YtgcghdoggjnllaaGreatDoorRows.lean that lists a variable, with what it lists TIED to the program's text (the seventh form; the later family's looks); each row that meets fmt, with fmt's text TOLD by the authors' own Lean function (tested against real Go, not proved from fmt's source: count such statements apart). THE CARD IS WHAT COUNTS. Prove the row's statement (the work); the ties are given (YtgcghdoggjnllaaGreatDoorTie.lean); close each card by the builder's one call (the guide's Derived/Test/ToyasCard.lean, 'card_holds'). Laid BY PROGRAM, IN A SANDBOX (cutbox-door.mjs). By AI agents, Wed Nov 11 2026. No macro, syntax, notation, axiom, sorry.
-/
import Derived.Test.YtgcghdoggjnllaaGreatDoorRows
import GoSem.ClaimSeven
namespace Go.Proofs.YtgcghdoggjnllaaGreatDoor
namespace Rows

/-- THE TIED CARD OF 'laminalaw14.DataNames'. -/
def dataNamesCard : Claim7 := { stood := { row := dataNamesRow, standIns := [], harness := (true, "cbef4b5edd39f39620063edbf3b482c38cb44572c4f24c89db1a89535c8d9468"), looks := true }, kinds := [], alts := [], laidByText := true, laidKinds := [.data, .data, .data], laidTests := true, laidLooks := .later }
def DataNamesCardSaid : Prop := Claim7.holds Tryz.pinned (.plain (OpenSpec.ofChange dataNamesSpec)) dataNamesCard

/-- THE SECOND FORM's CARD OF 'laminalaw14.DataNames'. -/
def dataNamesUptoCard : Claim7 := { stood := { row := dataNamesUptoRow, standIns := [], harness := (true, "cbef4b5edd39f39620063edbf3b482c38cb44572c4f24c89db1a89535c8d9468"), looks := true }, kinds := [], alts := [], laidByText := true, laidKinds := [.data, .data, .data], laidTests := true, laidLooks := .later }
def DataNamesUptoCardSaid : Prop := Claim7.holds Tryz.pinned (.plain (OpenSpec.upto dataNamesSpec)) dataNamesUptoCard
end Rows
end Go.Proofs.YtgcghdoggjnllaaGreatDoor
