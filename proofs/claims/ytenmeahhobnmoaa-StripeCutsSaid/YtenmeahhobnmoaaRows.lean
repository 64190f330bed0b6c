/-
  No cell of these rows narrows 'for every input' (looked for: loops, veiled, ifaces, maps, wideKeys, modest, calm, conditions, laid).
  DERIVED. THE GIVEN ROWS OF THIS SEAT. 4 by the template 'for every input the law returns true; each argument reads behind the call as it read before'; 0 by the template 'total and deterministic' (their statements: YtenmeahhobnmoaaTotals.lean).
  GIVEN WITH THE SEED: the statements are not yours to turn. If you find one false, say at which input.
  Laid BY PROGRAM, IN A SANDBOX (cutbox-rows.mjs): the forced cells as the released guide's own fill.sh prints them over the translation 990fb6c091597230… (all of the seat's roots in one cut). By AI agents, Wed Nov 11 2026. No macro, syntax, notation, axiom, sorry.
-/
import Derived.Test.YtenmeahhobnmoaaChecked
import GoSem.Claim
import GoSem.ClaimJoined
import GoSem.ClaimMapViews
import Derived.JoinedTies
import Derived.KernelRfl
namespace Go.Proofs.Ytenmeahhobnmoaa
/- THE CELL 'sum', in the pinned program and in every row, IS THE sha256 OF THE DUMP (.gsa) THAT YtenmeahhobnmoaaProg.lean LOADS. Nothing in Lean hashes anything: it is a label: what it is worth is what the hold of that sum in a sandbox is worth. -/
noncomputable def Try.pinned : Pinned := { name := "ytenmeahhobnmoaa", sum := "990fb6c0915972301d00576a2a941099b694ddc5ddffe3e873cddfc55ec1413f", checked := Try.checked }
namespace Rows
def none {H : Type} : Left H := { results := [], args := [] }

/-- 'laminalaw12.StripePieces': WHATEVER THE INPUT: true; the input reads as it did. -/
def stripePiecesSpec : ChangeSpec := { name := "stripePieces", fn := fun _ => fun
  | [d] => { results := [.lit (.bool true)], args := [d] }
  | _ => none }
def stripePiecesRow : OpenClaim := { program := "ytenmeahhobnmoaa", sum := "990fb6c0915972301d00576a2a941099b694ddc5ddffe3e873cddfc55ec1413f", func := "lamina/laminalaw12.StripePieces", spec := "stripePieces", apart := false }
def StripePiecesSaid : Prop := stripePiecesRow.holds Try.pinned (OpenSpec.ofChange stripePiecesSpec)

/-- ITS FALSE NEIGHBOUR: 'it returns false'. Refute it at one input. -/
def stripePiecesWrong : ChangeSpec := { name := "stripePieces", fn := fun _ => fun
  | [d] => { results := [.lit (.bool false)], args := [d] }
  | _ => none }
def StripePiecesWrongFalsely : Prop := stripePiecesRow.holds Try.pinned (OpenSpec.ofChange stripePiecesWrong)

/-- 'laminalaw12.StripeBytes': WHATEVER THE INPUT: true; the input reads as it did. -/
def stripeBytesSpec : ChangeSpec := { name := "stripeBytes", fn := fun _ => fun
  | [d] => { results := [.lit (.bool true)], args := [d] }
  | _ => none }
def stripeBytesRow : OpenClaim := { program := "ytenmeahhobnmoaa", sum := "990fb6c0915972301d00576a2a941099b694ddc5ddffe3e873cddfc55ec1413f", func := "lamina/laminalaw12.StripeBytes", spec := "stripeBytes", apart := false }
def StripeBytesSaid : Prop := stripeBytesRow.holds Try.pinned (OpenSpec.ofChange stripeBytesSpec)

/-- ITS FALSE NEIGHBOUR: 'it returns false'. Refute it at one input. -/
def stripeBytesWrong : ChangeSpec := { name := "stripeBytes", fn := fun _ => fun
  | [d] => { results := [.lit (.bool false)], args := [d] }
  | _ => none }
def StripeBytesWrongFalsely : Prop := stripeBytesRow.holds Try.pinned (OpenSpec.ofChange stripeBytesWrong)

/-- 'laminalaw12.StripeWhole': WHATEVER THE INPUT: true; the input reads as it did. -/
def stripeWholeSpec : ChangeSpec := { name := "stripeWhole", fn := fun _ => fun
  | [d1, d2, d3] => { results := [.lit (.bool true)], args := [d1, d2, d3] }
  | _ => none }
def stripeWholeRow : OpenClaim := { program := "ytenmeahhobnmoaa", sum := "990fb6c0915972301d00576a2a941099b694ddc5ddffe3e873cddfc55ec1413f", func := "lamina/laminalaw12.StripeWhole", spec := "stripeWhole", apart := false }
def StripeWholeSaid : Prop := stripeWholeRow.holds Try.pinned (OpenSpec.ofChange stripeWholeSpec)

/-- ITS FALSE NEIGHBOUR: 'it returns false'. Refute it at one input. -/
def stripeWholeWrong : ChangeSpec := { name := "stripeWhole", fn := fun _ => fun
  | [d1, d2, d3] => { results := [.lit (.bool false)], args := [d1, d2, d3] }
  | _ => none }
def StripeWholeWrongFalsely : Prop := stripeWholeRow.holds Try.pinned (OpenSpec.ofChange stripeWholeWrong)

/-- 'laminalaw12.StripeCuts': WHATEVER THE INPUT: true; the input reads as it did. -/
def stripeCutsSpec : ChangeSpec := { name := "stripeCuts", fn := fun _ => fun
  | [d1, d2, d3] => { results := [.lit (.bool true)], args := [d1, d2, d3] }
  | _ => none }
def stripeCutsRow : OpenClaim := { program := "ytenmeahhobnmoaa", sum := "990fb6c0915972301d00576a2a941099b694ddc5ddffe3e873cddfc55ec1413f", func := "lamina/laminalaw12.StripeCuts", spec := "stripeCuts", apart := false }
def StripeCutsSaid : Prop := stripeCutsRow.holds Try.pinned (OpenSpec.ofChange stripeCutsSpec)

/-- ITS FALSE NEIGHBOUR: 'it returns false'. Refute it at one input. -/
def stripeCutsWrong : ChangeSpec := { name := "stripeCuts", fn := fun _ => fun
  | [d1, d2, d3] => { results := [.lit (.bool false)], args := [d1, d2, d3] }
  | _ => none }
def StripeCutsWrongFalsely : Prop := stripeCutsRow.holds Try.pinned (OpenSpec.ofChange stripeCutsWrong)

/- THE SECOND FORM. 'bulk': how many values and letters a reading holds, each counted each time it is reached (what is shared counts as often as it is met; a slice's spare places count too). A statement '..UptoSaid' is the law's where the arguments, and the package variables that the reading takes, are together of bulk at most 1048576: NARROWER than '..Said'. Prove '..Said' where nothing that the law and all that it calls make is longer than what came in: it says more and counts as full. Else prove '..UptoSaid'. A law counts once. -/
mutual
def uptoBulk {H : Type} : DataW H → Nat
  | .lit (.string bytes) => bytes.length + 1
  | .lit _ => 1
  | .nil => 1
  | .ptr d => uptoBulk d + 1
  | .slice elems spare => uptoBulkAll elems + uptoBulkAll spare + 1
  | .agg parts => uptoBulkAll parts + 1
  | .iface _ d => uptoBulk d + 1
  | .map entries => uptoBulkEntries entries + 1
  | .held _ => 1
def uptoBulkAll {H : Type} : List (DataW H) → Nat
  | [] => 0
  | d :: r => uptoBulk d + uptoBulkAll r
def uptoBulkEntries {H : Type} : List (Lit × DataW H) → Nat
  | [] => 0
  | x :: r => uptoBulkEntry x + uptoBulkEntries r
def uptoBulkEntry {H : Type} : Lit × DataW H → Nat
  | (.string bytes, d) => bytes.length + uptoBulk d + 1
  | (_, d) => uptoBulk d + 1
 end
def uptoSmall : (H : Type) → List (DataW H) → Bool := fun _ ds => decide (uptoBulkAll ds ≤ 1048576)
def OpenSpec.upto (s : _root_.Go.ChangeSpec) : _root_.Go.OpenSpec := { _root_.Go.OpenSpec.ofChange s with cond := some uptoSmall }

/-- 'laminalaw12.StripePieces', WHERE WHAT IT READS IS OF BULK AT MOST 1048576: true; the input reads as it did. -/
def stripePiecesUptoRow : OpenClaim := { program := "ytenmeahhobnmoaa", sum := "990fb6c0915972301d00576a2a941099b694ddc5ddffe3e873cddfc55ec1413f", func := "lamina/laminalaw12.StripePieces", spec := "stripePieces", apart := false, narrowed := true }
def StripePiecesUptoSaid : Prop := stripePiecesUptoRow.holds Try.pinned (OpenSpec.upto stripePiecesSpec)

/-- 'laminalaw12.StripeBytes', WHERE WHAT IT READS IS OF BULK AT MOST 1048576: true; the input reads as it did. -/
def stripeBytesUptoRow : OpenClaim := { program := "ytenmeahhobnmoaa", sum := "990fb6c0915972301d00576a2a941099b694ddc5ddffe3e873cddfc55ec1413f", func := "lamina/laminalaw12.StripeBytes", spec := "stripeBytes", apart := false, narrowed := true }
def StripeBytesUptoSaid : Prop := stripeBytesUptoRow.holds Try.pinned (OpenSpec.upto stripeBytesSpec)

/-- 'laminalaw12.StripeWhole', WHERE WHAT IT READS IS OF BULK AT MOST 1048576: true; the input reads as it did. -/
def stripeWholeUptoRow : OpenClaim := { program := "ytenmeahhobnmoaa", sum := "990fb6c0915972301d00576a2a941099b694ddc5ddffe3e873cddfc55ec1413f", func := "lamina/laminalaw12.StripeWhole", spec := "stripeWhole", apart := false, narrowed := true }
def StripeWholeUptoSaid : Prop := stripeWholeUptoRow.holds Try.pinned (OpenSpec.upto stripeWholeSpec)

/-- 'laminalaw12.StripeCuts', WHERE WHAT IT READS IS OF BULK AT MOST 1048576: true; the input reads as it did. -/
def stripeCutsUptoRow : OpenClaim := { program := "ytenmeahhobnmoaa", sum := "990fb6c0915972301d00576a2a941099b694ddc5ddffe3e873cddfc55ec1413f", func := "lamina/laminalaw12.StripeCuts", spec := "stripeCuts", apart := false, narrowed := true }
def StripeCutsUptoSaid : Prop := stripeCutsUptoRow.holds Try.pinned (OpenSpec.upto stripeCutsSpec)

end Rows
end Go.Proofs.Ytenmeahhobnmoaa
