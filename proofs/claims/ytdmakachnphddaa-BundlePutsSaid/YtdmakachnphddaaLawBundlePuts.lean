/- BundlePuts holds: for every input the law returns true, and the input reads as it did. No condition beyond the row's own. -/
import Derived.Test.YtdmakachnphddaaRows
import Derived.Test.YtdmakachnphddaaX16
import Derived.Test.YtdmakachnphddaaB8p
import Derived.WalkKit
import Derived.ProofKit
import Derived.OpenShut
import Derived.ShutString
import Derived.ChangeOld
import Derived.Below
import Derived.SizedLaws
import Derived.Test.YtdmakachnphddaaVgI
open Go Go.Vi
namespace Go.Proofs.Ytdmakachnphddaa.bundlePuts
open Go.ChangeShapes Go.WideShapes Go.ChangeAt Go.RowKit
open Go.ChangeMaps (open_string shut_string)
set_option linter.unusedVariables false
set_option maxRecDepth 100000 in
theorem law_calls {H : Type} {enc : TypeId × Value → H} {W : World} {base : Nat} {args : List Value} {ds : List (DataW H)} {p : List MemPlace} (hA : DataW.TrodAll enc Try.prog W 0 (fun _ => true) true [27] args ds p)
    (hval : ∀ (j : Nat) (t : TypeId) (v : Value), [27][j]? = some t → args[j]? = some v → Value.okWide Try.prog W .any base t v) : Calls Try.prog 3 ⟨args⟩ W fun e w' => e = .returned (.bool true) ∧ KeptW W w' := by
  obtain ⟨h1, ρ1, xs, g1, _, _, r1, p1⟩ := lay_args [27] args ds p (by kernel_rfl) hA hval _ _ (In0.start W)
  cases p1 with
  | cons pa p1 =>
  cases p1 with
  | nil =>
  obtain ⟨b, vp, vw, rfl, hp, hd⟩ := C.bun_of pa
  exact calls_ro (K := .none) C.okE (show C.E.row 3 = none by kernel_rfl) ⟨g1.good, trivial⟩ g1.ro g1.dom r1 rfl (C.law_puts b vp vw h1 hp hd)
theorem own : ownKnob Try.prog.godebug = none := by kernel_rfl
set_option maxRecDepth 100000 in
theorem lifted (os : Os) (started : os.Started) (H : Type) (enc : TypeId × Value → H) :
    ReturnsInHanded {} Try.checked os 3 .any (Rows.bundlePutsSpec.pre6 enc Try.prog Try.f3 Rows.bundlePutsRow.domain false) (Rows.bundlePutsSpec.post enc Try.prog Try.f3 false true false false) := by
  refine returnsInHanded_of_change_sized (C := Try.checked) own started (by kernel_rfl) Try.func3
    (ChangeSpec.witness6 (enc := enc) (C := Try.checked) false ⟨#[], #[.agg #[.int .i64 0, .slice none 0 0, .int .i64 0, .int .i64 0, .slice none 0 0]], []⟩ 8 (by kernel_rfl) (by kernel_rfl) (by kernel_rfl) (by kernel_rfl)) ?_
  intro W base args ds gs before hval0 hW hcnd hsz0 _
  have hval : ∀ (j : Nat) t v, Try.f3.params[j]? = some t → args[j]? = some v → Value.okWide Try.prog W .any base t v := hval0
  have hW' := hW
  obtain ⟨p, q, hA0, hV, rfl, hfz, hnd⟩ := hW
  have hA : DataW.TrodAll enc Try.prog W 0 (fun _ => true) true Try.f3.params.toList args.toList ds p := hA0
  rw [Try.params3] at hA hval
  obtain rfl := (trodVars_none hV).1
  obtain rfl := (trodVars_none hV).2
  have hds : ∃ d1, ds = [d1] := by
    obtain ⟨v0, d0, _, h, _⟩ := trodAll_one hA
    exact ⟨d0, h⟩
  obtain ⟨d1, rfl⟩ := hds
  refine (law_calls (args := args.toList) hA (fun j t v h1 h2 => hval j t v (by simpa using h1) (by simpa using h2))).mono fun e W' ⟨he, bel⟩ => ?_
  subst he
  refine ⟨_, rfl, _, _, _, [], p, [], hW', trodAll_mk1 (shut_bool Try.underlying4 _), ?_, rfl, bel.may _, fun h => by cases h⟩
  have hk := trodAll_kept (by kernel_rfl) bel [27] args.toList _ p (by kernel_rfl) hA
  rw [Try.params3]
  exact hk
theorem over : Rows.bundlePutsRow.holds Try.pinned (OpenSpec.ofChange Rows.bundlePutsSpec) :=
  OpenClaim.holds_of_wide 3 Try.f3 rfl rfl rfl rfl rfl rfl rfl ⟨rfl, rfl, rfl, rfl, rfl⟩ rfl rfl rfl rfl rfl (by kernel_rfl) Try.func3 (by kernel_rfl)
    (of_decide_eq_true (by kernel_rfl)) (by unfold Func.isWrapper; first | (rw [if_pos (by decide +kernel)]; kernel_rfl) | (rw [if_neg (by decide +kernel)]; exact ⟨rfl, rfl⟩))
    (fun os started H enc _ => lifted os started H enc)
theorem proved : Rows.BundlePutsSaid := over
#print axioms proved
end Go.Proofs.Ytdmakachnphddaa.bundlePuts
namespace Go.Proofs.Ytdmakachnphddaa
theorem bundlePuts_holds : Rows.BundlePutsSaid := bundlePuts.proved
end Go.Proofs.Ytdmakachnphddaa
