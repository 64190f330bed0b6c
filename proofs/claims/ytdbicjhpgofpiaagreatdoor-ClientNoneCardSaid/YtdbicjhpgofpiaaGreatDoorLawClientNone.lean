/- ClientNone holds: for every input the law returns true, and the input reads as it did. No condition beyond the row's own. -/
import Derived.Test.YtdbicjhpgofpiaaGreatDoorRows
import Derived.Test.YtdbicjhpgofpiaaGreatDoorAlive
import Derived.WalkKit
import Derived.ProofKit
import Derived.OpenShut
import Derived.ShutString
import Derived.ChangeOld
import Derived.Below
import Derived.SizedLaws
import Derived.Test.YtdbicjhpgofpiaaGreatDoorTie
import Derived.Test.YtdbicjhpgofpiaaGreatDoorVa6
import Derived.Test.YtdbicjhpgofpiaaGreatDoorCards
import Derived.SevenTiedAt
import Derived.LaidLaws
import Derived.LaidHandle
import Derived.Handed
open Go Go.Vi
namespace Go.Proofs.YtdbicjhpgofpiaaGreatDoor.C
theorem law_run (a0 : Int) : isTrue ((callF E3 3000).fn 3 [.int .i64 a0] h0) = true := by kernel_rfl
theorem law_calls (a0 : Int) (w : World) : Calls Tryz.prog 3 #[.int .i64 a0] w fun e w' => e = .returned (.bool true) ∧ ∀ may : MemPlace → Prop, w.keptBut w' may :=
  calls_true ok3 (by kernel_rfl) (law_run a0) w
end Go.Proofs.YtdbicjhpgofpiaaGreatDoor.C
namespace Go.Proofs.YtdbicjhpgofpiaaGreatDoor.clientNone
open Go.Vi (stillFrom_at goesBy_none)
open Go.ChangeShapes Go.WideShapes Go.ChangeAt Go.RowKit
open Go.ChangeMaps (open_string shut_string)
set_option linter.unusedVariables false
theorem own : ownKnob Tryz.prog.godebug = none := by kernel_rfl
/-- A world in which the listed variables hold what the text lays. -/
noncomputable def laidPut (g : Nat) (cs : Array Value) (w : World) : World := { w with heap := w.heap.modify g fun
    | .cells _ t frozen => .cells cs t frozen
    | o => o }
noncomputable def laidWorld (os : Os) : World := laidPut 0 #[.int .u64 1, .int .u64 10, .int .u64 100, .int .u64 1000, .int .u64 10000, .int .u64 100000, .int .u64 1000000, .int .u64 10000000, .int .u64 100000000, .int .u64 1000000000, .int .u64 10000000000, .int .u64 100000000000, .int .u64 1000000000000, .int .u64 10000000000000, .int .u64 100000000000000, .int .u64 1000000000000000, .int .u64 10000000000000000, .int .u64 100000000000000000, .int .u64 1000000000000000000, .int .u64 10000000000000000000] (laidPut 2 #[.int .u8 0, .int .u8 1, .int .u8 56, .int .u8 2, .int .u8 57, .int .u8 49, .int .u8 28, .int .u8 3, .int .u8 61, .int .u8 58, .int .u8 42, .int .u8 50, .int .u8 38, .int .u8 29, .int .u8 17, .int .u8 4, .int .u8 62, .int .u8 47, .int .u8 59, .int .u8 36, .int .u8 45, .int .u8 43, .int .u8 51, .int .u8 22, .int .u8 53, .int .u8 39, .int .u8 33, .int .u8 30, .int .u8 24, .int .u8 18, .int .u8 12, .int .u8 5, .int .u8 63, .int .u8 55, .int .u8 48, .int .u8 27, .int .u8 60, .int .u8 41, .int .u8 37, .int .u8 16, .int .u8 46, .int .u8 35, .int .u8 44, .int .u8 21, .int .u8 52, .int .u8 32, .int .u8 23, .int .u8 11, .int .u8 54, .int .u8 26, .int .u8 40, .int .u8 15, .int .u8 34, .int .u8 20, .int .u8 31, .int .u8 10, .int .u8 25, .int .u8 14, .int .u8 19, .int .u8 9, .int .u8 13, .int .u8 8, .int .u8 7, .int .u8 6] (laidPut 1 #[.int .u8 0, .int .u8 1, .int .u8 28, .int .u8 2, .int .u8 29, .int .u8 14, .int .u8 24, .int .u8 3, .int .u8 30, .int .u8 22, .int .u8 20, .int .u8 15, .int .u8 25, .int .u8 17, .int .u8 4, .int .u8 8, .int .u8 31, .int .u8 27, .int .u8 13, .int .u8 23, .int .u8 21, .int .u8 19, .int .u8 16, .int .u8 7, .int .u8 26, .int .u8 12, .int .u8 18, .int .u8 6, .int .u8 11, .int .u8 5, .int .u8 10, .int .u8 9] (World.holding Tryz.prog os ⟨#[], #[], []⟩)))
theorem laidWorld_met (os : Os) (args : Array Value) : laidMetH Tryz.prog Rows.clientNoneRow.laid ((laidWorld os).forCall (fun _ _ => 0) ⟨#[], args, []⟩).memory :=
  laidMetH_of_parts (laidMet_of_run' 100 (by kernel_rfl) (by kernel_rfl)) (by kernel_rfl)
set_option maxRecDepth 100000 in
theorem lifted (os : Os) (started : os.Started) (H : Type) (enc : TypeId × Value → H) :
    ReturnsInHanded {} Tryz.checked os 3 .any (fun w args => (Rows.clientNoneSpec.pre enc Tryz.prog Tryz.f3 Rows.clientNoneRow.domain false w args ∧ laidMetH Tryz.prog Rows.clientNoneRow.laid w) ∧ sizedMet enc Tryz.prog Tryz.f3 (OpenSpec.ofChange Rows.clientNoneSpec) false w args)
      (Rows.clientNoneSpec.post enc Tryz.prog Tryz.f3 false true false false) := by
  refine returnsInHanded_of_change_and (C := Tryz.checked) (X := fun w _ => laidMetH Tryz.prog Rows.clientNoneRow.laid w) (fun _ _ _ hh h => h.of_heap hh) own started (by kernel_rfl) Tryz.func3
    (ChangeSpec.witness_at (enc := enc) (C := Tryz.checked) (os := os) (X := fun w _ => laidMetH Tryz.prog Rows.clientNoneRow.laid w) false (laidWorld os) #[.int .i64 0] 8 rfl (by kernel_rfl) (by kernel_rfl) (by kernel_rfl) (by kernel_rfl) (by kernel_rfl) (laidWorld_met os _)) ?_
  intro W base args ds gs before hval0 hW hcnd hsz0 hL _
  have hsz : (DataW.weightsEach Tryz.prog (Tryz.f3.params.toList ++ Rows.clientNoneSpec.plain.varTypes Tryz.prog) (ds ++ gs)).all (· ≤ reachBytes) = true := hsz0
  have hval : ∀ (j : Nat) t v, Tryz.f3.params[j]? = some t → args[j]? = some v → Value.okWide Tryz.prog W .any base t v := hval0
  have hW' := hW
  obtain ⟨p, q, hA0, hV, rfl, hfz, hnd⟩ := hW
  have hA : DataW.TrodAll enc Tryz.prog W 0 (fun _ => true) true Tryz.f3.params.toList args.toList ds p := hA0
  rw [Tryz.params3] at hA hval hsz
  obtain ⟨v0, vs0, d0, ds0, p0, q0, hargs, rfl, rfl, h0, r0⟩ := trodAll_cons hA
  obtain ⟨rfl, rfl, rfl⟩ := trodAll_nil r0
  obtain rfl : args = #[v0] := by cases args; simp_all
  obtain ⟨rfl, rfl⟩ := trodVars_none hV
  obtain ⟨a0, rfl, rfl, rfl, w0⟩ := open_int Tryz.underlying3 (hval 0 3 v0 rfl rfl) h0
  clear hA0 hval0 hsz0 hsz
  refine (C.law_calls a0 W).mono fun e W' ⟨he, bel⟩ => ?_
  subst he
  exact ⟨_, rfl, _, _, _, [], _, [], hW', trodAll_mk1 (shut_bool Tryz.underlying4 _), (trodAll_cons_mk (shut_int Tryz.underlying3 w0) trodAll_mk0), rfl, bel _, fun h => by cases h⟩
theorem jA : (Rows.clientNoneRow.inPlace == Tryz.prog.inPlace 3) = true := by kernel_rfl
theorem jB : (Rows.clientNoneRow.unfollowed == Tryz.prog.unfollowed 3) = true := by kernel_rfl
theorem jC : (Rows.clientNoneRow.recurses == Tryz.prog.recurses 3) = true := by kernel_rfl
theorem jD : (Rows.clientNoneRow.named == Tryz.prog.varsNamed 3) = true := by kernel_rfl
theorem facts : joinedFacts Tryz.prog 3 Tryz.f3 Rows.clientNoneSpec Rows.clientNoneRow = true := by
  unfold joinedFacts
  rw [jA, jB, jC, jD]
  kernel_rfl
theorem still (g : Nat) (fn : Func) (hf : Tryz.prog.funcs[g]? = some fn) : fn.goes = false := by
  by_cases h0 : g < 120
  · exact stillFrom_at (a := 0) (n := 120) (by kernel_rfl) (by omega) (by omega) hf
  by_cases h1 : g < 240
  · exact stillFrom_at (a := 120) (n := 120) (by kernel_rfl) (by omega) (by omega) hf
  by_cases h2 : g < 360
  · exact stillFrom_at (a := 240) (n := 120) (by kernel_rfl) (by omega) (by omega) hf
  by_cases h3 : g < 480
  · exact stillFrom_at (a := 360) (n := 120) (by kernel_rfl) (by omega) (by omega) hf
  by_cases h4 : g < 534
  · exact stillFrom_at (a := 480) (n := 54) (by kernel_rfl) (by omega) (by omega) hf
  have hs : Tryz.prog.funcs.size = 534 := by kernel_rfl
  have := (Array.getElem?_eq_some_iff.1 hf).1
  omega
theorem over : Rows.clientNoneRow.holds Tryz.pinned (OpenSpec.ofChange Rows.clientNoneSpec) :=
  OpenClaim.holds_of_wide 3 Tryz.f3 rfl rfl rfl rfl rfl rfl rfl ⟨rfl, rfl, rfl, rfl, rfl⟩ rfl rfl rfl rfl rfl (by kernel_rfl) Tryz.func3 facts
    (of_decide_eq_true (by kernel_rfl)) (by unfold Func.isWrapper; first | (rw [if_pos (by decide +kernel)]; kernel_rfl) | (rw [if_neg (by decide +kernel)]; exact ⟨rfl, rfl⟩))
    (fun os started H enc _ => lifted os started H enc)
theorem stand (f : FuncId) (fn : Func) (hf : Tryz.prog.funcNamed "lamina/laminalaw20.ClientNone" = some f) (hfn : Tryz.prog.funcs[f]? = some fn) :
    true = Tryz.prog.looks [] ∧ ∀ (j : Nat) t, fn.params[j]? = some t → Tryz.prog.wantsStandIn t = false := by
  obtain rfl : f = 3 := Option.some.inj ((show Tryz.prog.funcNamed "lamina/laminalaw20.ClientNone" = some 3 by kernel_rfl).symm.trans hf) |>.symm
  obtain rfl : fn = Tryz.f3 := (Option.some.inj (Tryz.func3.symm.trans hfn)).symm
  refine ⟨by kernel_rfl, fun j t ht => ?_⟩
  have hall : (Tryz.f3.params.toList.all fun t => !Tryz.prog.wantsStandIn t) = true := by kernel_rfl
  have hm : t ∈ Tryz.f3.params.toList := List.mem_iff_getElem?.2 ⟨j, by rw [Array.getElem?_toList]; exact ht⟩
  simpa using List.all_eq_true.1 hall t hm
theorem proved : Rows.ClientNoneCardSaid :=
  Claim7.holds_tied_plain_at .later [] [.data, .data, .data] true (true, "556fa3b114b25cdb35c2ae0ba52cc040617ffbcdc2f247d875103697b6bf6ab2") true
    over (fun _ h => by cases h) (by kernel_rfl) (fun _ h => by cases h) clientNone_row_tie rfl ⟨rfl, rfl⟩ (by kernel_rfl) rfl stand (goesBy_none still rfl)
#print axioms proved
end Go.Proofs.YtdbicjhpgofpiaaGreatDoor.clientNone
namespace Go.Proofs.YtdbicjhpgofpiaaGreatDoor
/-- The row, under a short name, for the claim. -/
theorem clientNone_holds : Rows.ClientNoneCardSaid := clientNone.proved
end Go.Proofs.YtdbicjhpgofpiaaGreatDoor
