/- TalkParses holds: for every input the law returns true, and the input reads as it did. No condition beyond the row's own. -/
import Derived.Test.YtkloflhiipebmaaDoorRows
import Derived.Test.YtkloflhiipebmaaDoorU19
import Derived.Shelf.Vars
import Derived.Lib.LaidTab
import Derived.Stop.LaidErr
import Derived.WalkKit
import Derived.ProofKit
import Derived.OpenShut
import Derived.ShutString
import Derived.ChangeOld
import Derived.Below
import Derived.Carry
import Derived.SizedLaws
import Derived.Test.YtkloflhiipebmaaDoorVgG
import Derived.Lib.SmallJoins
import Derived.Test.YtkloflhiipebmaaDoorTie
import Derived.Test.YtkloflhiipebmaaDoorCards
import Derived.SevenTiedAt
import Derived.LaidLaws
import Derived.LaidHandle
import Derived.Handed
open Go Go.Vi
namespace Go.Proofs.YtkloflhiipebmaaDoor.talkParses
open Go.Vi (stillFrom_at goesBy_none)
open Go.ChangeShapes Go.WideShapes Go.ChangeAt Go.RowKit Go.Joins Go.Deep
open Go.ChangeMaps (open_string shut_string)
set_option linter.unusedVariables false
theorem g0 : Tryd.prog.globalNamed "internal/bytealg.MaxLen" = some 0 := by kernel_rfl
theorem g1 : Tryd.prog.globalNamed "strconv.ErrSyntax" = some 1 := by kernel_rfl
theorem g2 : Tryd.prog.globalNamed "strconv.ErrRange" = some 2 := by kernel_rfl
theorem g7 : Tryd.prog.globalNamed "math/bits.deBruijn64tab" = some 7 := by kernel_rfl
theorem star : "*" ++ "errors.errorString" = "*errors.errorString" := by decide
theorem rowE (u : TypeId) (h : Tryd.prog.typeName? 3 u = some "*errors.errorString") : u = 135 :=
  typeName_ptr_named (nm := "errors.errorString") (by rw [star]; kernel_rfl) (by kernel_rfl) (by decide) u (by rw [star]; exact h)
theorem gl8 : 0 < Tryd.prog.globals.size := by
  rw [show Tryd.prog.globals.size = 8 from by kernel_rfl]
  decide
theorem cells9 : Tryd.prog.cellsOf 9 = 1 := by kernel_rfl
theorem cellsE : Tryd.prog.cellsOf 137 = 1 := by kernel_rfl
theorem envW_of {W : World} (h : laidMetH Tryd.prog Rows.talkParsesRow.laid W) (hsh : W.ShapedOpen Tryd.prog) : C.EnvW W ∧ 8 ≤ W.heap.size := by
  have h1 : laidMet Tryd.prog Rows.talkParsesRow.laid W := h
  have h2 := laidMet.tail h1
  have h3 := laidMet.tail h2
  have h4 := laidMet.tail h3
  have h5 := laidMet.tail h4
  have h6 := laidMet.tail h5
  obtain ⟨a0, s0, hv0, hc0, _, _⟩ := laid_sentinel (g := 2) (ti := 27) (tp := 135) (te := 137) (ts := 9) h5 g2 (by kernel_rfl) Tryd.underlying27 rowE Tryd.underlying135 Tryd.underlying137 rfl rfl Tryd.underlying9 cellsE cells9
  obtain ⟨a1, s1, hv1, hc1, _, _⟩ := laid_sentinel (g := 1) (ti := 27) (tp := 135) (te := 137) (ts := 9) h6 g1 (by kernel_rfl) Tryd.underlying27 rowE Tryd.underlying135 Tryd.underlying137 rfl rfl Tryd.underlying9 cellsE cells9
  obtain ⟨m, hm⟩ := cell_of_shapedOpen_int (g := 0) (t := 3) (zero := #[.int .i64 0]) (k := .i64) hsh gl8 (by kernel_rfl) rfl (by kernel_rfl) (by kernel_rfl) (by kernel_rfl)
  refine ⟨⟨Lib.tabIs_of_head (g := 3) (t := 123) (e := 76) (n := 20) (by kernel_rfl) (by kernel_rfl) (by kernel_rfl) (by kernel_rfl) (by kernel_rfl) (by kernel_rfl) h3, ⟨m, hm⟩, ⟨135, _, by simpa using World.var?_cell g1 hv1 0⟩, 135, _, by simpa using World.var?_cell g2 hv0 0⟩, ?_⟩
  obtain ⟨ps, ⟨g', t', cs, fuel, p, q, hg', ht', hvar, hd, _, _⟩, _⟩ := h2
  cases hq : W.heap[7]? with
  | some o => exact (Array.getElem?_eq_some_iff.1 hq).1
  | none =>
    unfold World.var? at hvar
    rw [g7] at hvar
    simp only [Option.bind_some, hq] at hvar
    cases hvar
theorem law_calls (s : ByteArray) (W : World) (e : C.EnvW W) (h8 : 8 ≤ W.heap.size) : Calls Tryd.prog 3 #[.string s] W fun e w' => e = .returned (.bool true) ∧ KeptW W w' :=
  calls_ret C.okE (show C.E.row 3 = none by kernel_rfl) (args := [.string (strOf (strL s))]) (v := .bool true) rfl rfl (C.law_parses (strL s) h0) W ⟨e, h8, fun _ _ _ _ h => nomatch h⟩
/-- the wrap of a law's contract: what is laid, and the world's shape. -/
theorem hand {H : Type} {enc : TypeId × Value → H} {a : Assume} {C : Checked} {os : Os} {f : FuncId} {fn : Func} {s : ChangeSpec} {conds : List PathCond} {apart fresh handsOn again : Bool} {X : World → Array Value → Prop}
    (hX : ∀ (w w' : World) (args : Array Value), w.heap = w'.heap → X w args → X w' args)
    (own : ownKnob C.prog.godebug = none) (started : os.Started) (noInit : C.prog.inits.idxOf? f = none) (hfn : C.prog.funcs[f]? = some fn)
    (witness : ∃ (w : World) (tape : Tape) (i : Input), w.os = os ∧ (w.forCall tape i).Shaped C.prog ∧ i.vars = [] ∧ Input.okWide C.prog (w.forCall tape i) .any w.heap.size f i ∧
      ((s.pre enc C.prog fn conds apart (w.forCall tape i).memory i.args ∧ X (w.forCall tape i).memory i.args) ∧ sizedMet enc C.prog fn (OpenSpec.ofChange s) apart (w.forCall tape i).memory i.args) ∧ a.holds C.prog (lone (Frame.enter C.prog f i.args .normal) [] (w.forCall tape i)))
    (contract : ∀ (W : World) (base : Nat) (args : Array Value) (ds gs : List (DataW H)) (before : List MemPlace),
      (∀ (j : Nat) t v, fn.params[j]? = some t → args[j]? = some v → Value.okWide C.prog W .any base t v) →
      DataW.Whole enc C.prog fn.params.toList s.vars apart W args.toList ds gs before → X W args → W.ShapedOpen C.prog →
      Calls C.prog f args W fun e W' => ∃ v, e = .returned v ∧ s.post enc C.prog fn apart fresh handsOn again W args v W') :
    ReturnsInHanded a C os f .any (fun w args => (s.pre enc C.prog fn conds apart w args ∧ X w args) ∧ sizedMet enc C.prog fn (OpenSpec.ofChange s) apart w args) (s.post enc C.prog fn apart fresh handsOn again) := by
  refine returnsInHanded_of_calls own started noInit witness ?_
  intro w tape i _ hsh _ hok hpre _
  obtain ⟨_, _, _, fn', hfn', _, _, _, _, hval⟩ := hok
  obtain rfl : fn' = fn := Option.some.inj (hfn'.symm.trans hfn)
  obtain ⟨⟨⟨ds, gs, before, hw, _⟩, hx⟩, _⟩ := hpre
  refine (contract (w.forCall tape i) w.heap.size i.args ds gs before hval (DataW.Whole.of_heap (w' := w.forCall tape i) (by rfl) hw) (hX _ _ _ (by rfl) hx) hsh).mono fun e W' ⟨v, he, hp⟩ => ?_
  subst he
  exact ChangeSpec.post_blind hp
theorem own : ownKnob Tryd.prog.godebug = none := by kernel_rfl
/-- A world in which the listed variables hold what the text lays. -/
noncomputable def laidPut (g : Nat) (cs : Array Value) (w : World) : World := { w with heap := w.heap.modify g fun
    | .cells _ t frozen => .cells cs t frozen
    | o => o }
def litD : DataW Unit → List Value
  | .lit (.int k n) => [.int k n]
  | _ => []
def cellsD : DataW Unit → List Value
  | .agg l => l.flatMap fun d => match d with
    | .agg m => m.flatMap litD
    | d => litD d
  | d => litD d
def strD : DataW Unit → ByteArray
  | .iface _ (.ptr (.agg [.lit (.string l)])) => ⟨⟨l⟩⟩
  | _ => .empty
noncomputable def laidErr (g tp te : Nat) (s : ByteArray) (w : World) : World := laidPut g #[.iface tp (.pointer (some ⟨w.heap.size, 0, none⟩))] (w.alloc (.cells #[.string s] te))
noncomputable def laidWorld (os : Os) : World := laidErr 2 135 137 (strD (Rows.laid_strconv_ErrRange (H := Unit))) (laidErr 1 135 137 (strD (Rows.laid_strconv_ErrSyntax (H := Unit))) (laidPut 5 (cellsD (Rows.laid_unicode_utf8_acceptRanges (H := Unit))).toArray (laidPut 4 (cellsD (Rows.laid_unicode_utf8_first)).toArray
  (laidPut 7 (cellsD (Rows.laid_math_bits_deBruijn64tab (H := Unit))).toArray (laidPut 6 (cellsD (Rows.laid_math_bits_deBruijn32tab (H := Unit))).toArray (laidPut 3 (cellsD (Rows.laid_internal_strconv_uint64pow10 (H := Unit))).toArray (World.holding Tryd.prog os ⟨#[], #[], []⟩)))))))
theorem laidWorld_met (os : Os) (args : Array Value) : laidMetH Tryd.prog Rows.talkParsesRow.laid ((laidWorld os).forCall (fun _ _ => 0) ⟨#[], args, []⟩).memory :=
  laidMetH_of_parts (laidMet_of_run' 100 (by kernel_rfl) (by kernel_rfl)) (by kernel_rfl)
set_option maxRecDepth 100000 in
theorem lifted (os : Os) (started : os.Started) (H : Type) (enc : TypeId × Value → H) :
    ReturnsInHanded {} Tryd.checked os 3 .any (fun w args => (Rows.talkParsesSpec.pre enc Tryd.prog Tryd.f3 Rows.talkParsesRow.domain false w args ∧ laidMetH Tryd.prog Rows.talkParsesRow.laid w) ∧ sizedMet enc Tryd.prog Tryd.f3 (OpenSpec.ofChange Rows.talkParsesSpec) false w args)
      (Rows.talkParsesSpec.post enc Tryd.prog Tryd.f3 false true false false) := by
  refine hand (C := Tryd.checked) (X := fun w _ => laidMetH Tryd.prog Rows.talkParsesRow.laid w) (fun _ _ _ hh h => h.of_heap hh) own started (by kernel_rfl) Tryd.func3
    (ChangeSpec.witness_at (enc := enc) (C := Tryd.checked) (os := os) (X := fun w _ => laidMetH Tryd.prog Rows.talkParsesRow.laid w) false (laidWorld os) #[.string .empty] 8 rfl (by kernel_rfl) (by kernel_rfl) (by kernel_rfl) (by kernel_rfl) (by kernel_rfl) (laidWorld_met os _)) ?_
  intro W base args ds gs before hval0 hW hL hsh
  have hval : ∀ (j : Nat) t v, Tryd.f3.params[j]? = some t → args[j]? = some v → Value.okWide Tryd.prog W .any base t v := hval0
  have hW' := hW
  obtain ⟨p, q, hA0, hV, rfl, hfz, hnd⟩ := hW
  have hA : DataW.TrodAll enc Tryd.prog W 0 (fun _ => true) true Tryd.f3.params.toList args.toList ds p := hA0
  rw [Tryd.params3] at hA hval
  obtain ⟨v0, d0, hargs, rfl, h0⟩ := trodAll_one hA
  obtain rfl : args = #[v0] := by cases args; simp_all
  obtain ⟨rfl, rfl⟩ := trodVars_none hV
  obtain ⟨s, rfl, rfl, rfl, hs⟩ := open_string Tryd.underlying9 (hval 0 9 v0 rfl rfl) h0
  obtain ⟨he, h8⟩ := envW_of hL hsh
  refine (law_calls s W he h8).mono fun e W' ⟨he, bel⟩ => ?_
  subst he
  exact ⟨_, rfl, _, _, _, [], _, [], hW', trodAll_mk1 (shut_bool Tryd.underlying4 _), trodAll_mk1 (shut_string Tryd.underlying9 hs), rfl, bel.may _, fun h => by cases h⟩
theorem jA : (Rows.talkParsesRow.inPlace == Tryd.prog.inPlace 3) = true := by kernel_rfl
theorem jB : (Rows.talkParsesRow.unfollowed == Tryd.prog.unfollowed 3) = true := by kernel_rfl
theorem jC : (Rows.talkParsesRow.recurses == Tryd.prog.recurses 3) = true := by kernel_rfl
theorem jD : (Rows.talkParsesRow.named == Tryd.prog.varsNamed 3) = true := by kernel_rfl
theorem facts : joinedFacts Tryd.prog 3 Tryd.f3 Rows.talkParsesSpec Rows.talkParsesRow = true := by
  unfold joinedFacts
  rw [jA, jB, jC, jD]
  kernel_rfl
theorem still (g : Nat) (fn : Func) (hf : Tryd.prog.funcs[g]? = some fn) : fn.goes = false := by
  by_cases h0 : g < 130
  · exact stillFrom_at (a := 0) (n := 130) (by kernel_rfl) (by omega) (by omega) hf
  have hs : Tryd.prog.funcs.size = 130 := by kernel_rfl
  have := (Array.getElem?_eq_some_iff.1 hf).1
  omega
theorem over : Rows.talkParsesRow.holds Tryd.pinned (OpenSpec.ofChange Rows.talkParsesSpec) :=
  OpenClaim.holds_of_wide 3 Tryd.f3 rfl rfl rfl rfl rfl rfl rfl ⟨rfl, rfl, rfl, rfl, rfl⟩ rfl rfl rfl rfl rfl (by kernel_rfl) Tryd.func3 facts
    (of_decide_eq_true (by kernel_rfl)) (by unfold Func.isWrapper; first | (rw [if_pos (by decide +kernel)]; kernel_rfl) | (rw [if_neg (by decide +kernel)]; exact ⟨rfl, rfl⟩))
    (fun os started H enc _ => lifted os started H enc)
theorem stand (f : FuncId) (fn : Func) (hf : Tryd.prog.funcNamed "lamina/laminalaw25.TalkParses" = some f) (hfn : Tryd.prog.funcs[f]? = some fn) :
    true = Tryd.prog.looks [] ∧ ∀ (j : Nat) t, fn.params[j]? = some t → Tryd.prog.wantsStandIn t = false := by
  obtain rfl : f = 3 := Option.some.inj ((show Tryd.prog.funcNamed "lamina/laminalaw25.TalkParses" = some 3 by kernel_rfl).symm.trans hf) |>.symm
  obtain rfl : fn = Tryd.f3 := (Option.some.inj (Tryd.func3.symm.trans hfn)).symm
  refine ⟨by kernel_rfl, fun j t ht => ?_⟩
  have hall : (Tryd.f3.params.toList.all fun t => !Tryd.prog.wantsStandIn t) = true := by kernel_rfl
  have hm : t ∈ Tryd.f3.params.toList := List.mem_iff_getElem?.2 ⟨j, by rw [Array.getElem?_toList]; exact ht⟩
  simpa using List.all_eq_true.1 hall t hm
theorem proved : Rows.TalkParsesCardSaid :=
  Claim7.holds_tied_plain_at .later [] [.data, .data, .data, .data, .sentinel, .sentinel, .pinned] true (true, "071eac432f6d1324d67545db34b390adb9c967d33fa8fea1b4105d613d650324") true
    over (fun _ h => by cases h) (by kernel_rfl) (fun _ h => by cases h) talkParses_row_tie rfl ⟨rfl, rfl⟩ (by kernel_rfl) rfl stand (goesBy_none still rfl)
#print axioms proved
end Go.Proofs.YtkloflhiipebmaaDoor.talkParses
namespace Go.Proofs.YtkloflhiipebmaaDoor
/-- The row, under a short name, for the claim. -/
theorem talkParses_holds : Rows.TalkParsesCardSaid := talkParses.proved
end Go.Proofs.YtkloflhiipebmaaDoor
