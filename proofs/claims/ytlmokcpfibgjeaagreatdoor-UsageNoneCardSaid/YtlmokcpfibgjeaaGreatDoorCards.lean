/-
  DERIVED. GIVEN WITH THE SEED: THE CARDS: each row of YtlmokcpfibgjeaaGreatDoorRows.lean that lists a variable, with what it lists TIED to the program's text (the seventh form; the later family's looks); each row that meets fmt, with fmt's text TOLD by the authors' own Lean function (tested against real Go, not proved from fmt's source: count such statements apart). THE CARD IS WHAT COUNTS. Prove the row's statement (the work); the ties are given (YtlmokcpfibgjeaaGreatDoorTie.lean); close each card by the builder's one call (the guide's Derived/Test/ToyasCard.lean, 'card_holds'). Laid BY PROGRAM, IN A SANDBOX (cutbox-door.mjs). By AI agents, Wed Nov 11 2026. No macro, syntax, notation, axiom, sorry.
-/
import Derived.Test.YtlmokcpfibgjeaaGreatDoorRows
import GoSem.ClaimSeven
namespace Go.Proofs.YtlmokcpfibgjeaaGreatDoor
namespace Rows

/-- THE TIED CARD OF 'laminalaw24.UsageNone'. -/
def usageNoneCard : Claim7 := { stood := { row := usageNoneRow, standIns := [], harness := (true, "d9d22a11bbe7962d791c44358d0a9551938b33e18d442d36313e1605cc7bcef3"), looks := true }, kinds := [], alts := [], laidByText := true, laidKinds := [.data, .data, .data], laidTests := true, laidLooks := .later }
def UsageNoneCardSaid : Prop := Claim7.holds Tryz.pinned (.plain (OpenSpec.ofChange usageNoneSpec)) usageNoneCard

/-- THE SECOND FORM's CARD OF 'laminalaw24.UsageNone'. -/
def usageNoneUptoCard : Claim7 := { stood := { row := usageNoneUptoRow, standIns := [], harness := (true, "d9d22a11bbe7962d791c44358d0a9551938b33e18d442d36313e1605cc7bcef3"), looks := true }, kinds := [], alts := [], laidByText := true, laidKinds := [.data, .data, .data], laidTests := true, laidLooks := .later }
def UsageNoneUptoCardSaid : Prop := Claim7.holds Tryz.pinned (.plain (OpenSpec.upto usageNoneSpec)) usageNoneUptoCard
end Rows
end Go.Proofs.YtlmokcpfibgjeaaGreatDoor
