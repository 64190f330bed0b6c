/- BundleTakes holds: for every input the law returns true, and the input reads as it did. No condition beyond the row's own. -/
import Derived.Test.YtdmakachnphddaaRows
import Derived.Test.YtdmakachnphddaaX16
import Derived.Test.YtdmakachnphddaaB8p
import Derived.WalkKit
import Derived.ProofKit
import Derived.OpenShut
import Derived.ShutString
import Derived.ChangeOld
import Derived.Below
import Derived.SizedLaws
import Derived.Test.YtdmakachnphddaaVgI
open Go Go.Vi
namespace Go.Proofs.Ytdmakachnphddaa.bundleTakes
open Go.ChangeShapes Go.WideShapes Go.ChangeAt Go.RowKit
open Go.ChangeMaps (open_string shut_string)
set_option linter.unusedVariables false
set_option maxRecDepth 100000 in
theorem law_calls {H : Type} {enc : TypeId × Value → H} {W : World} {base : Nat} {args : List Value} {ds : List (DataW H)} {p : List MemPlace} (hA : DataW.TrodAll enc Try.prog W 0 (fun _ => true) true [37] args ds p)
    (hval : ∀ (j : Nat) (t : TypeId) (v : Value), [37][j]? = some t → args[j]? = some v → Value.okWide Try.prog W .any base t v) : Calls Try.prog 4 ⟨args⟩ W fun e w' => e = .returned (.bool true) ∧ KeptW W w' := by
  obtain ⟨h1, ρ1, xs, g1, _, _, r1, p1⟩ := lay_args [37] args ds p (by kernel_rfl) hA hval _ _ (In0.start W)
  cases p1 with
  | cons pc p1 =>
  cases p1 with
  | nil =>
  unfold RepV at pc
  rw [if_neg (by rw [show rowKind Try.prog 37 = false by kernel_rfl]; simp)] at pc
  obtain ⟨l, hl, hlm⟩ := C.bytes_of pc
  exact calls_ro (K := .none) C.okE (show C.E.row 4 = none by kernel_rfl) ⟨g1.good, trivial⟩ g1.ro g1.dom r1 rfl (C.law_takes _ l h1 hl)
theorem own : ownKnob Try.prog.godebug = none := by kernel_rfl
set_option maxRecDepth 100000 in
theorem lifted (os : Os) (started : os.Started) (H : Type) (enc : TypeId × Value → H) :
    ReturnsInHanded {} Try.checked os 4 .any (Rows.bundleTakesSpec.pre6 enc Try.prog Try.f4 Rows.bundleTakesRow.domain false) (Rows.bundleTakesSpec.post enc Try.prog Try.f4 false true false false) := by
  refine returnsInHanded_of_change_sized (C := Try.checked) own started (by kernel_rfl) Try.func4
    (ChangeSpec.witness6 (enc := enc) (C := Try.checked) false ⟨#[], #[.slice none 0 0], []⟩ 8 (by kernel_rfl) (by kernel_rfl) (by kernel_rfl) (by kernel_rfl)) ?_
  intro W base args ds gs before hval0 hW hcnd hsz0 _
  have hval : ∀ (j : Nat) t v, Try.f4.params[j]? = some t → args[j]? = some v → Value.okWide Try.prog W .any base t v := hval0
  have hW' := hW
  obtain ⟨p, q, hA0, hV, rfl, hfz, hnd⟩ := hW
  have hA : DataW.TrodAll enc Try.prog W 0 (fun _ => true) true Try.f4.params.toList args.toList ds p := hA0
  rw [Try.params4] at hA hval
  obtain rfl := (trodVars_none hV).1
  obtain rfl := (trodVars_none hV).2
  have hds : ∃ d1, ds = [d1] := by
    obtain ⟨v0, d0, _, h, _⟩ := trodAll_one hA
    exact ⟨d0, h⟩
  obtain ⟨d1, rfl⟩ := hds
  refine (law_calls (args := args.toList) hA (fun j t v h1 h2 => hval j t v (by simpa using h1) (by simpa using h2))).mono fun e W' ⟨he, bel⟩ => ?_
  subst he
  refine ⟨_, rfl, _, _, _, [], p, [], hW', trodAll_mk1 (shut_bool Try.underlying4 _), ?_, rfl, bel.may _, fun h => by cases h⟩
  have hk := trodAll_kept (by kernel_rfl) bel [37] args.toList _ p (by kernel_rfl) hA
  rw [Try.params4]
  exact hk
theorem over : Rows.bundleTakesRow.holds Try.pinned (OpenSpec.ofChange Rows.bundleTakesSpec) :=
  OpenClaim.holds_of_wide 4 Try.f4 rfl rfl rfl rfl rfl rfl rfl ⟨rfl, rfl, rfl, rfl, rfl⟩ rfl rfl rfl rfl rfl (by kernel_rfl) Try.func4 (by kernel_rfl)
    (of_decide_eq_true (by kernel_rfl)) (by unfold Func.isWrapper; first | (rw [if_pos (by decide +kernel)]; kernel_rfl) | (rw [if_neg (by decide +kernel)]; exact ⟨rfl, rfl⟩))
    (fun os started H enc _ => lifted os started H enc)
theorem proved : Rows.BundleTakesSaid := over
#print axioms proved
end Go.Proofs.Ytdmakachnphddaa.bundleTakes
namespace Go.Proofs.Ytdmakachnphddaa
theorem bundleTakes_holds : Rows.BundleTakesSaid := bundleTakes.proved
end Go.Proofs.Ytdmakachnphddaa
