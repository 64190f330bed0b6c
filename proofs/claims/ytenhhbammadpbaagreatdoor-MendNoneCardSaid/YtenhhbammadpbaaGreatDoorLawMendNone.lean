/- MendNone holds: for every input the law returns true, and the input reads as it did. No condition beyond the row's own. -/
import Derived.Test.YtenhhbammadpbaaGreatDoorRows
import Derived.Test.YtenhhbammadpbaaGreatDoorAlive
import Derived.Test.YtenhhbammadpbaaGreatDoorFacts
import Derived.WalkKit
import Derived.ProofKit
import Derived.OpenShut
import Derived.ShutString
import Derived.ChangeOld
import Derived.Below
import Derived.SizedLaws
import Derived.Test.YtenhhbammadpbaaGreatDoorVgG
import Derived.Test.YtenhhbammadpbaaGreatDoorTie
import Derived.Test.YtenhhbammadpbaaGreatDoorCards
import Derived.SevenTiedAt
import Derived.LaidLaws
import Derived.LaidHandle
import Derived.Handed
open Go Go.Vi
namespace Go.Proofs.YtenhhbammadpbaaGreatDoor.C
theorem law_run (a0 : ByteArray) (a1 : Int) : isTrue ((callF E3 3000).fn 3 [.string a0, .int .i64 a1] h0) = true := by cases 1 <;> kernel_rfl
theorem law_calls (a0 : ByteArray) (a1 : Int) (w : World) : Calls Tryz.prog 3 #[.string a0, .int .i64 a1] w fun e w' => e = .returned (.bool true) ∧ ∀ may : MemPlace → Prop, w.keptBut w' may :=
  calls_true ok3 (by kernel_rfl) (law_run a0 a1) w
end Go.Proofs.YtenhhbammadpbaaGreatDoor.C
namespace Go.Proofs.YtenhhbammadpbaaGreatDoor.mendNone
open Go.Vi (stillFrom_at goesBy_none)
open Go.ChangeShapes Go.WideShapes Go.ChangeAt Go.RowKit
open Go.ChangeMaps (open_string shut_string)
set_option linter.unusedVariables false
theorem own : ownKnob Tryz.prog.godebug = none := by kernel_rfl
noncomputable def laidPut (g : Nat) (cs : Array Value) (w : World) : World := { w with heap := w.heap.modify g fun
    | .cells _ t frozen => .cells cs t frozen
    | o => o }
def litD : DataW Unit → List Value
  | .lit (.int k n) => [.int k n]
  | _ => []
def cellsD : DataW Unit → List Value
  | .agg l => l.flatMap fun d => match d with
    | .agg m => m.flatMap litD
    | d => litD d
  | d => litD d
noncomputable def laidWorld (os : Os) : World := laidPut 0 (cellsD (Rows.laid_internal_strconv_uint64pow10 (H := Unit))).toArray (laidPut 2 (cellsD (Rows.laid_math_bits_deBruijn64tab (H := Unit))).toArray (laidPut 1 (cellsD (Rows.laid_math_bits_deBruijn32tab (H := Unit))).toArray (World.holding Tryz.prog os ⟨#[], #[], []⟩)))
theorem laidWorld_met (os : Os) (args : Array Value) : laidMetH Tryz.prog Rows.mendNoneRow.laid ((laidWorld os).forCall (fun _ _ => 0) ⟨#[], args, []⟩).memory :=
  laidMetH_of_parts (laidMet_of_run' 100 (by kernel_rfl) (by kernel_rfl)) (by kernel_rfl)
set_option maxRecDepth 100000 in
theorem lifted (os : Os) (started : os.Started) (H : Type) (enc : TypeId × Value → H) :
    ReturnsInHanded {} Tryz.checked os 3 .any (fun w args => (Rows.mendNoneSpec.pre enc Tryz.prog Tryz.f3 Rows.mendNoneRow.domain false w args ∧ laidMetH Tryz.prog Rows.mendNoneRow.laid w) ∧ sizedMet enc Tryz.prog Tryz.f3 (OpenSpec.ofChange Rows.mendNoneSpec) false w args)
      (Rows.mendNoneSpec.post enc Tryz.prog Tryz.f3 false true false false) := by
  refine returnsInHanded_of_change_and (C := Tryz.checked) (X := fun w _ => laidMetH Tryz.prog Rows.mendNoneRow.laid w) (fun _ _ _ hh h => h.of_heap hh) own started (by kernel_rfl) Tryz.func3
    (ChangeSpec.witness_at (enc := enc) (C := Tryz.checked) (os := os) (X := fun w _ => laidMetH Tryz.prog Rows.mendNoneRow.laid w) false (laidWorld os) #[.string .empty, .int .i64 0] 8 rfl (by kernel_rfl) (by kernel_rfl) (by kernel_rfl) (by kernel_rfl) (by kernel_rfl) (laidWorld_met os _)) ?_
  intro W base args ds gs before hval0 hW hcnd hsz0 hL _
  have hsz : (DataW.weightsEach Tryz.prog (Tryz.f3.params.toList ++ Rows.mendNoneSpec.plain.varTypes Tryz.prog) (ds ++ gs)).all (· ≤ reachBytes) = true := hsz0
  have hval : ∀ (j : Nat) t v, Tryz.f3.params[j]? = some t → args[j]? = some v → Value.okWide Tryz.prog W .any base t v := hval0
  have hW' := hW
  obtain ⟨p, q, hA0, hV, rfl, hfz, hnd⟩ := hW
  have hA : DataW.TrodAll enc Tryz.prog W 0 (fun _ => true) true Tryz.f3.params.toList args.toList ds p := hA0
  rw [Tryz.params3] at hA hval hsz
  obtain ⟨v0, vs0, d0, ds0, p0, q0, hargs, rfl, rfl, h0, r0⟩ := trodAll_cons hA
  obtain ⟨v1, vs1, d1, ds1, p1, q1, rfl, rfl, rfl, h1, r1⟩ := trodAll_cons r0
  obtain ⟨rfl, rfl, rfl⟩ := trodAll_nil r1
  obtain rfl : args = #[v0, v1] := by cases args; simp_all
  obtain ⟨rfl, rfl⟩ := trodVars_none hV
  obtain ⟨a0, rfl, rfl, rfl, w0⟩ := open_string Tryz.underlying9 (hval 0 9 v0 rfl rfl) h0
  obtain ⟨a1, rfl, rfl, rfl, w1⟩ := open_int Tryz.underlying3 (hval 1 3 v1 rfl rfl) h1
  clear hA0 hval0 hsz0 hsz
  refine (C.law_calls a0 a1 W).mono fun e W' ⟨he, bel⟩ => ?_
  subst he
  exact ⟨_, rfl, _, _, _, [], _, [], hW', trodAll_mk1 (shut_bool Tryz.underlying4 _), (trodAll_cons_mk (shut_string Tryz.underlying9 w0) (trodAll_cons_mk (shut_int Tryz.underlying3 w1) trodAll_mk0)), rfl, bel _, fun h => by cases h⟩
theorem still (g : Nat) (fn : Func) (hf : Tryz.prog.funcs[g]? = some fn) : fn.goes = false := by
  by_cases h0 : g < 120
  · exact stillFrom_at (a := 0) (n := 120) (by kernel_rfl) (by omega) (by omega) hf
  by_cases h1 : g < 240
  · exact stillFrom_at (a := 120) (n := 120) (by kernel_rfl) (by omega) (by omega) hf
  by_cases h2 : g < 360
  · exact stillFrom_at (a := 240) (n := 120) (by kernel_rfl) (by omega) (by omega) hf
  by_cases h3 : g < 455
  · exact stillFrom_at (a := 360) (n := 95) (by kernel_rfl) (by omega) (by omega) hf
  have hs : Tryz.prog.funcs.size = 455 := by kernel_rfl
  have := (Array.getElem?_eq_some_iff.1 hf).1
  omega
theorem over : Rows.mendNoneRow.holds Tryz.pinned (OpenSpec.ofChange Rows.mendNoneSpec) :=
  OpenClaim.holds_of_wide 3 Tryz.f3 rfl rfl rfl rfl rfl rfl rfl ⟨rfl, rfl, rfl, rfl, rfl⟩ rfl rfl rfl rfl rfl (by kernel_rfl) Tryz.func3 facts
    (of_decide_eq_true (by kernel_rfl)) (by unfold Func.isWrapper; first | (rw [if_pos (by decide +kernel)]; kernel_rfl) | (rw [if_neg (by decide +kernel)]; exact ⟨rfl, rfl⟩))
    (fun os started H enc _ => lifted os started H enc)
theorem stand (f : FuncId) (fn : Func) (hf : Tryz.prog.funcNamed "lamina/laminalaw18.MendNone" = some f) (hfn : Tryz.prog.funcs[f]? = some fn) :
    true = Tryz.prog.looks [] ∧ ∀ (j : Nat) t, fn.params[j]? = some t → Tryz.prog.wantsStandIn t = false := by
  obtain rfl : f = 3 := Option.some.inj ((show Tryz.prog.funcNamed "lamina/laminalaw18.MendNone" = some 3 by kernel_rfl).symm.trans hf) |>.symm
  obtain rfl : fn = Tryz.f3 := (Option.some.inj (Tryz.func3.symm.trans hfn)).symm
  refine ⟨by kernel_rfl, fun j t ht => ?_⟩
  have hall : (Tryz.f3.params.toList.all fun t => !Tryz.prog.wantsStandIn t) = true := by kernel_rfl
  have hm : t ∈ Tryz.f3.params.toList := List.mem_iff_getElem?.2 ⟨j, by rw [Array.getElem?_toList]; exact ht⟩
  simpa using List.all_eq_true.1 hall t hm
theorem proved : Rows.MendNoneCardSaid :=
  Claim7.holds_tied_plain_at .later [] [.data, .data, .data] true (true, "20edc44c5ee37b206c2004d911a419ab9578a8dacad04bd71b78b881ddc09c61") true
    over (fun _ h => by cases h) (by kernel_rfl) (fun _ h => by cases h) mendNone_row_tie rfl ⟨rfl, rfl⟩ (by kernel_rfl) rfl stand (goesBy_none still rfl)
#print axioms proved
end Go.Proofs.YtenhhbammadpbaaGreatDoor.mendNone
namespace Go.Proofs.YtenhhbammadpbaaGreatDoor
theorem mendNone_holds : Rows.MendNoneCardSaid := mendNone.proved
end Go.Proofs.YtenhhbammadpbaaGreatDoor
