/-
  DERIVED. GIVEN WITH THE SEED: THE CARDS: each row of YtbhadhmleemjnaaDoorRows.lean that lists a variable, with what it lists TIED to the program's text (the seventh form; the later family's looks); each row that meets fmt, with fmt's text TOLD by the authors' own Lean function (tested against real Go, not proved from fmt's source: count such statements apart). THE CARD IS WHAT COUNTS. Prove the row's statement (the work); the ties are given (YtbhadhmleemjnaaDoorTie.lean); close each card by the builder's one call (the guide's Derived/Test/ToyasCard.lean, 'card_holds'). Laid BY PROGRAM, IN A SANDBOX (cutbox-door.mjs). By AI agents, Wed Nov 11 2026. No macro, syntax, notation, axiom, sorry.
-/
import Derived.Test.YtbhadhmleemjnaaDoorRows
import GoSem.ClaimSeven
namespace Go.Proofs.YtbhadhmleemjnaaDoor
namespace Rows

/-- THE TIED CARD OF 'laminalaw25.TalkAnswers'. -/
def talkAnswersCard : Claim7 := { stood := { row := talkAnswersRow, standIns := [], harness := (true, "3318ba62a67284476a4827d48af8198bb486228bf26673a61283f210fdbd14c1"), looks := true }, kinds := [], alts := [], laidByText := true, laidKinds := [.data, .data, .data, .data, .sentinel, .sentinel, .pinned], laidTests := true, laidLooks := .later }
def TalkAnswersCardSaid : Prop := Claim7.holds Tryd.pinned (.plain (OpenSpec.ofChange talkAnswersSpec)) talkAnswersCard

/-- THE SECOND FORM's CARD OF 'laminalaw25.TalkAnswers'. -/
def talkAnswersUptoCard : Claim7 := { stood := { row := talkAnswersUptoRow, standIns := [], harness := (true, "3318ba62a67284476a4827d48af8198bb486228bf26673a61283f210fdbd14c1"), looks := true }, kinds := [], alts := [], laidByText := true, laidKinds := [.data, .data, .data, .data, .sentinel, .sentinel, .pinned], laidTests := true, laidLooks := .later }
def TalkAnswersUptoCardSaid : Prop := Claim7.holds Tryd.pinned (.plain (OpenSpec.upto talkAnswersSpec)) talkAnswersUptoCard
end Rows
end Go.Proofs.YtbhadhmleemjnaaDoor
