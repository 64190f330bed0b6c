/- ScrubNone holds: for every input the law returns true, and the input reads as it did. No condition beyond the row's own. -/
import Derived.Test.YtdeokdbkhkehbaaGreatDoorRows
import Derived.Test.YtdeokdbkhkehbaaGreatDoorAlive
import Derived.WalkKit
import Derived.ProofKit
import Derived.OpenShut
import Derived.ShutString
import Derived.ChangeOld
import Derived.Below
import Derived.SizedLaws
import Derived.Test.YtdeokdbkhkehbaaGreatDoorVgH
import Derived.Test.YtdeokdbkhkehbaaGreatDoorVgG
import Derived.Lib.SmallJoins
import Derived.Test.YtdeokdbkhkehbaaGreatDoorFacts
import Derived.Test.YtdeokdbkhkehbaaGreatDoorCards
import Derived.SevenTiedAt
import Derived.LaidLaws
import Derived.LaidHandle
import Derived.Handed
open Go Go.Vi
namespace Go.Proofs.YtdeokdbkhkehbaaGreatDoor.C
theorem law_run (a0 a1 a2 : Int) (s3 s4 : ByteArray) : isTrue ((callF E3 3000).fn 3 [.agg #[.int .i64 a0, .int .i64 a1, .int .i64 a2, .string s3, .string s4]] h0) = true := by kernel_rfl
theorem law_calls (a0 a1 a2 : Int) (s3 s4 : ByteArray) (w : World) : Calls Tryz.prog 3 #[.agg #[.int .i64 a0, .int .i64 a1, .int .i64 a2, .string s3, .string s4]] w fun e w' => e = .returned (.bool true) ∧ ∀ may : MemPlace → Prop, w.keptBut w' may :=
  calls_true ok3 (by kernel_rfl) (law_run a0 a1 a2 s3 s4) w
end Go.Proofs.YtdeokdbkhkehbaaGreatDoor.C
namespace Go.Proofs.YtdeokdbkhkehbaaGreatDoor.scrubNone
open Go.Vi (stillFrom_at goesBy_none open_agg5 shut_agg5)
open Go.ChangeShapes Go.WideShapes Go.ChangeAt Go.RowKit Go.Joins Go.Deep
open Go.ChangeMaps (open_string shut_string)
set_option linter.unusedVariables false
theorem cellsF : Tryz.prog.cellsOf 23 = 5 := by kernel_rfl
theorem own : ownKnob Tryz.prog.godebug = none := by kernel_rfl
/-- A world in which the listed variables hold what the text lays. -/
noncomputable def laidPut (g : Nat) (cs : Array Value) (w : World) : World := { w with heap := w.heap.modify g fun
    | .cells _ t frozen => .cells cs t frozen
    | o => o }
def litD : DataW Unit → List Value
  | .lit (.int k n) => [.int k n]
  | _ => []
def cellsD : DataW Unit → List Value
  | .agg l => l.flatMap fun d => match d with
    | .agg m => m.flatMap litD
    | d => litD d
  | d => litD d
def strD : DataW Unit → ByteArray
  | .iface _ (.ptr (.agg [.lit (.string l)])) => ⟨⟨l⟩⟩
  | _ => .empty
noncomputable def laidErr (g tp te : Nat) (s : ByteArray) (w : World) : World := laidPut g #[.iface tp (.pointer (some ⟨w.heap.size, 0, none⟩))] (w.alloc (.cells #[.string s] te))
noncomputable def laidWorld (os : Os) : World := laidErr 1 586 588 (strD (Rows.laid_strconv_ErrRange (H := Unit))) (laidErr 0 586 588 (strD (Rows.laid_strconv_ErrSyntax (H := Unit))) (laidPut 5 (cellsD (Rows.laid_unicode_utf8_acceptRanges (H := Unit))).toArray (laidPut 4 (cellsD (Rows.laid_unicode_utf8_first)).toArray (laidPut 7 (cellsD (Rows.laid_math_bits_deBruijn64tab (H := Unit))).toArray (laidPut 6 (cellsD (Rows.laid_math_bits_deBruijn32tab (H := Unit))).toArray (laidPut 2 (cellsD (Rows.laid_internal_strconv_uint64pow10 (H := Unit))).toArray (World.holding Tryz.prog os ⟨#[], #[], []⟩)))))))
theorem laidWorld_met (os : Os) (args : Array Value) : laidMetH Tryz.prog Rows.scrubNoneRow.laid ((laidWorld os).forCall (fun _ _ => 0) ⟨#[], args, []⟩).memory :=
  laidMetH_of_parts (laidMet_of_run' 100 (by kernel_rfl) (by kernel_rfl)) (by kernel_rfl)
set_option maxRecDepth 100000 in
theorem lifted (os : Os) (started : os.Started) (H : Type) (enc : TypeId × Value → H) :
    ReturnsInHanded {} Tryz.checked os 3 .any (fun w args => (Rows.scrubNoneSpec.pre enc Tryz.prog Tryz.f3 Rows.scrubNoneRow.domain false w args ∧ laidMetH Tryz.prog Rows.scrubNoneRow.laid w) ∧ sizedMet enc Tryz.prog Tryz.f3 (OpenSpec.ofChange Rows.scrubNoneSpec) false w args)
      (Rows.scrubNoneSpec.post enc Tryz.prog Tryz.f3 false true false false) := by
  refine returnsInHanded_of_change_and (C := Tryz.checked) (X := fun w _ => laidMetH Tryz.prog Rows.scrubNoneRow.laid w) (fun _ _ _ hh h => h.of_heap hh) own started (by kernel_rfl) Tryz.func3
    (ChangeSpec.witness_at (enc := enc) (C := Tryz.checked) (os := os) (X := fun w _ => laidMetH Tryz.prog Rows.scrubNoneRow.laid w) false (laidWorld os) #[.agg #[.int .i64 0, .int .i64 0, .int .i64 0, .string .empty, .string .empty]] 8 rfl (by kernel_rfl) (by kernel_rfl) (by kernel_rfl) (by kernel_rfl) (by kernel_rfl) (laidWorld_met os _)) ?_
  intro W base args ds gs before hval0 hW hcnd hsz0 hL _
  have hsz : (DataW.weightsEach Tryz.prog (Tryz.f3.params.toList ++ Rows.scrubNoneSpec.plain.varTypes Tryz.prog) (ds ++ gs)).all (· ≤ reachBytes) = true := hsz0
  have hval : ∀ (j : Nat) t v, Tryz.f3.params[j]? = some t → args[j]? = some v → Value.okWide Tryz.prog W .any base t v := hval0
  have hW' := hW
  obtain ⟨p, q, hA0, hV, rfl, hfz, hnd⟩ := hW
  have hA : DataW.TrodAll enc Tryz.prog W 0 (fun _ => true) true Tryz.f3.params.toList args.toList ds p := hA0
  rw [Tryz.params3] at hA hval hsz
  obtain ⟨v0, d0, rfl, rfl, h0⟩ := trodAll_one hA
  obtain ⟨rfl, rfl⟩ := trodVars_none hV
  obtain ⟨c0, c1, c2, c3, c4, y0, y1, y2, y3, y4, m, rfl, rfl, rfl, hy0, hy1, hy2, hy3, hy4⟩ := open_agg5 Tryz.underlying23 (by kernel_rfl) cellsF (hval 0 23 v0 rfl rfl) h0
  obtain ⟨a0, e0, rfl, w0⟩ := DataW.trod_int Tryz.underlying3 hy0
  obtain ⟨a1, e1, rfl, w1⟩ := DataW.trod_int Tryz.underlying3 hy1
  obtain ⟨a2, e2, rfl, w2⟩ := DataW.trod_int Tryz.underlying3 hy2
  obtain ⟨s3, e3, rfl, w3⟩ := DataW.trod_string Tryz.underlying9 hy3
  obtain ⟨s4, e4, rfl, w4⟩ := DataW.trod_string Tryz.underlying9 hy4
  simp at e0 e1 e2 e3 e4
  subst e0 e1 e2 e3 e4
  simp only [List.append_nil] at hW'
  have reads : ∀ (W' : World) (sp : Nat → Bool), DataW.Trod enc Tryz.prog W' 0 sp true 23 (.agg #[.int .i64 a0, .int .i64 a1, .int .i64 a2, .string s3, .string s4]) (.agg [.lit (.int .i64 a0), .lit (.int .i64 a1), .lit (.int .i64 a2), .lit (.string s3.data.toList), .lit (.string s4.data.toList)]) [] := fun W' sp =>
    shut_agg5 (y0 := (.lit (.int .i64 a0), [])) (y1 := (.lit (.int .i64 a1), [])) (y2 := (.lit (.int .i64 a2), [])) (y3 := (.lit (.string s3.data.toList), [])) (y4 := (.lit (.string s4.data.toList), [])) Tryz.underlying23 (by kernel_rfl) cellsF
      ⟨1, by simp [DataW.trod, Tryz.underlying3, w0]⟩ ⟨1, by simp [DataW.trod, Tryz.underlying3, w1]⟩ ⟨1, by simp [DataW.trod, Tryz.underlying3, w2]⟩ ⟨1, by simp [DataW.trod, Tryz.underlying9, w3]⟩ ⟨1, by simp [DataW.trod, Tryz.underlying9, w4]⟩
  clear hA0 hval0 hsz0 hsz
  refine (C.law_calls a0 a1 a2 s3 s4 W).mono fun e W' ⟨he, bel⟩ => ?_
  subst he
  exact ⟨_, rfl, _, _, _, [], _, [], hW', trodAll_mk1 (shut_bool Tryz.underlying4 _), (trodAll_cons_mk (reads _ _) trodAll_mk0), rfl, bel _, fun h => by cases h⟩
theorem still (g : Nat) (fn : Func) (hf : Tryz.prog.funcs[g]? = some fn) : fn.goes = false := by
  by_cases h0 : g < 120
  · exact stillFrom_at (a := 0) (n := 120) (by kernel_rfl) (by omega) (by omega) hf
  by_cases h1 : g < 240
  · exact stillFrom_at (a := 120) (n := 120) (by kernel_rfl) (by omega) (by omega) hf
  by_cases h2 : g < 360
  · exact stillFrom_at (a := 240) (n := 120) (by kernel_rfl) (by omega) (by omega) hf
  by_cases h3 : g < 480
  · exact stillFrom_at (a := 360) (n := 120) (by kernel_rfl) (by omega) (by omega) hf
  by_cases h4 : g < 554
  · exact stillFrom_at (a := 480) (n := 74) (by kernel_rfl) (by omega) (by omega) hf
  have hs : Tryz.prog.funcs.size = 554 := by kernel_rfl
  have := (Array.getElem?_eq_some_iff.1 hf).1
  omega
theorem over : Rows.scrubNoneRow.holds Tryz.pinned (OpenSpec.ofChange Rows.scrubNoneSpec) :=
  OpenClaim.holds_of_wide 3 Tryz.f3 rfl rfl rfl rfl rfl rfl rfl ⟨rfl, rfl, rfl, rfl, rfl⟩ rfl rfl rfl rfl rfl (by kernel_rfl) Tryz.func3 facts
    (of_decide_eq_true (by kernel_rfl)) (by unfold Func.isWrapper; first | (rw [if_pos (by decide +kernel)]; kernel_rfl) | (rw [if_neg (by decide +kernel)]; exact ⟨rfl, rfl⟩))
    (fun os started H enc _ => lifted os started H enc)
theorem stand (f : FuncId) (fn : Func) (hf : Tryz.prog.funcNamed "lamina/laminalaw22.ScrubNone" = some f) (hfn : Tryz.prog.funcs[f]? = some fn) :
    true = Tryz.prog.looks [] ∧ ∀ (j : Nat) t, fn.params[j]? = some t → Tryz.prog.wantsStandIn t = false := by
  obtain rfl : f = 3 := Option.some.inj ((show Tryz.prog.funcNamed "lamina/laminalaw22.ScrubNone" = some 3 by kernel_rfl).symm.trans hf) |>.symm
  obtain rfl : fn = Tryz.f3 := (Option.some.inj (Tryz.func3.symm.trans hfn)).symm
  refine ⟨by kernel_rfl, fun j t ht => ?_⟩
  have hall : (Tryz.f3.params.toList.all fun t => !Tryz.prog.wantsStandIn t) = true := by kernel_rfl
  have hm : t ∈ Tryz.f3.params.toList := List.mem_iff_getElem?.2 ⟨j, by rw [Array.getElem?_toList]; exact ht⟩
  simpa using List.all_eq_true.1 hall t hm
theorem proved : Rows.ScrubNoneCardSaid :=
  Claim7.holds_tied_plain_at .later [] [.data, .data, .data, .pinned, .data, .sentinel, .sentinel] true (true, "8cd2a4ecc87a2fe107d6494a95af1072b607bc4c5c6a06f85ac4c2eca051b894") true
    over (fun _ h => by cases h) (by kernel_rfl) (fun _ h => by cases h) row_tie rfl ⟨rfl, rfl⟩ (by kernel_rfl) rfl stand (goesBy_none still rfl)
#print axioms proved
end Go.Proofs.YtdeokdbkhkehbaaGreatDoor.scrubNone
namespace Go.Proofs.YtdeokdbkhkehbaaGreatDoor
/-- The row, under a short name, for the claim. -/
theorem scrubNone_holds : Rows.ScrubNoneCardSaid := scrubNone.proved
end Go.Proofs.YtdeokdbkhkehbaaGreatDoor
