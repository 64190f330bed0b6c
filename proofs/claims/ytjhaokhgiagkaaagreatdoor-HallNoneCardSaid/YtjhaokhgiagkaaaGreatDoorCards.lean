/-
  DERIVED. GIVEN WITH THE SEED: THE CARDS: each row of YtjhaokhgiagkaaaGreatDoorRows.lean that lists a variable, with what it lists TIED to the program's text (the seventh form; the later family's looks); each row that meets fmt, with fmt's text TOLD by the authors' own Lean function (tested against real Go, not proved from fmt's source: count such statements apart). THE CARD IS WHAT COUNTS. Prove the row's statement (the work); the ties are given (YtjhaokhgiagkaaaGreatDoorTie.lean); close each card by the builder's one call (the guide's Derived/Test/ToyasCard.lean, 'card_holds'). Laid BY PROGRAM, IN A SANDBOX (cutbox-door.mjs). By AI agents, Wed Nov 11 2026. No macro, syntax, notation, axiom, sorry.
-/
import Derived.Test.YtjhaokhgiagkaaaGreatDoorRows
import GoSem.ClaimSeven
namespace Go.Proofs.YtjhaokhgiagkaaaGreatDoor
namespace Rows

/-- THE TIED CARD OF 'laminalaw21.HallNone'. -/
def hallNoneCard : Claim7 := { stood := { row := hallNoneRow, standIns := [], harness := (true, "7a884beea1a82ea81a224f1e0696de7fdc1124d815f257299a51e368a8c93db5"), looks := true }, kinds := [], alts := [], laidByText := true, laidKinds := [.data, .data, .data], laidTests := true, laidLooks := .later }
def HallNoneCardSaid : Prop := Claim7.holds Tryz.pinned (.plain (OpenSpec.ofChange hallNoneSpec)) hallNoneCard

/-- THE SECOND FORM's CARD OF 'laminalaw21.HallNone'. -/
def hallNoneUptoCard : Claim7 := { stood := { row := hallNoneUptoRow, standIns := [], harness := (true, "7a884beea1a82ea81a224f1e0696de7fdc1124d815f257299a51e368a8c93db5"), looks := true }, kinds := [], alts := [], laidByText := true, laidKinds := [.data, .data, .data], laidTests := true, laidLooks := .later }
def HallNoneUptoCardSaid : Prop := Claim7.holds Tryz.pinned (.plain (OpenSpec.upto hallNoneSpec)) hallNoneUptoCard
end Rows
end Go.Proofs.YtjhaokhgiagkaaaGreatDoor
