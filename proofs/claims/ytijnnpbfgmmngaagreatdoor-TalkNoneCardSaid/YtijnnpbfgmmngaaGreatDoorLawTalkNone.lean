/- TalkNone holds: for every input the law returns true, and the input reads as it did. No condition beyond the row's own. -/
import Derived.Test.YtijnnpbfgmmngaaGreatDoorRows
import Derived.Test.YtijnnpbfgmmngaaGreatDoorN2
import Derived.Test.YtijnnpbfgmmngaaGreatDoorVgJ
import Derived.Shelf.Vars
import Derived.Lib.LaidTab
import Derived.Stop.LaidErr
import Derived.WalkKit
import Derived.ProofKit
import Derived.OpenShut
import Derived.ShutString
import Derived.ChangeOld
import Derived.Below
import Derived.Carry
import Derived.SizedLaws
import Derived.Test.YtijnnpbfgmmngaaGreatDoorVgG
import Derived.Lib.SmallJoins
import Derived.Test.YtijnnpbfgmmngaaGreatDoorFacts
import Derived.Test.YtijnnpbfgmmngaaGreatDoorWit2
import Derived.Test.YtijnnpbfgmmngaaGreatDoorCards
import Derived.SevenTiedAt
import Derived.LaidLaws
import Derived.LaidHandle
import Derived.Handed
open Go Go.Vi
namespace Go.Proofs.YtijnnpbfgmmngaaGreatDoor.talkNone
open Go.Vi (stillFrom_at goesBy_none)
open Go.ChangeShapes Go.WideShapes Go.ChangeAt Go.RowKit Go.Joins Go.Deep
open Go.ChangeMaps (open_string shut_string)
set_option linter.unusedVariables false
theorem g0 : Tryz.prog.globalNamed "internal/bytealg.MaxLen" = some 0 := by kernel_rfl
theorem g1 : Tryz.prog.globalNamed "strconv.ErrSyntax" = some 1 := by kernel_rfl
theorem g2 : Tryz.prog.globalNamed "strconv.ErrRange" = some 2 := by kernel_rfl
theorem g7 : Tryz.prog.globalNamed "math/bits.deBruijn64tab" = some 7 := by kernel_rfl
theorem star : "*" ++ "errors.errorString" = "*errors.errorString" := by decide
theorem rowE (u : TypeId) (h : Tryz.prog.typeName? 3 u = some "*errors.errorString") : u = 145 :=
  typeName_ptr_named (nm := "errors.errorString") (by rw [star]; kernel_rfl) (by kernel_rfl) (by decide) u (by rw [star]; exact h)
theorem gl8 : 0 < Tryz.prog.globals.size := by
  rw [show Tryz.prog.globals.size = 8 from by kernel_rfl]
  decide
theorem cells9 : Tryz.prog.cellsOf 9 = 1 := by kernel_rfl
theorem cellsE : Tryz.prog.cellsOf 147 = 1 := by kernel_rfl
theorem envW_of {W : World} (h : laidMetH Tryz.prog Rows.talkNoneRow.laid W) (hsh : W.ShapedOpen Tryz.prog) : C.EnvW W ∧ 8 ≤ W.heap.size := by
  have h1 : laidMet Tryz.prog Rows.talkNoneRow.laid W := h
  have h2 := laidMet.tail h1
  have h3 := laidMet.tail h2
  have h4 := laidMet.tail h3
  have h5 := laidMet.tail h4
  have h6 := laidMet.tail h5
  have h7 := laidMet.tail h6
  obtain ⟨a0, s0, hv0, hc0, _, _⟩ := laid_sentinel (g := 2) (ti := 34) (tp := 145) (te := 147) (ts := 9) h4 g2 (by kernel_rfl) Tryz.underlying34 rowE Tryz.underlying145 Tryz.underlying147 rfl rfl Tryz.underlying9 cellsE cells9
  obtain ⟨a1, s1, hv1, hc1, _, _⟩ := laid_sentinel (g := 1) (ti := 34) (tp := 145) (te := 147) (ts := 9) h3 g1 (by kernel_rfl) Tryz.underlying34 rowE Tryz.underlying145 Tryz.underlying147 rfl rfl Tryz.underlying9 cellsE cells9
  obtain ⟨m, hm⟩ := cell_of_shapedOpen_int (g := 0) (t := 3) (zero := #[.int .i64 0]) (k := .i64) hsh gl8 (by kernel_rfl) rfl (by kernel_rfl) (by kernel_rfl) (by kernel_rfl)
  refine ⟨⟨Lib.tabIs_of_head (g := 3) (t := 131) (e := 63) (n := 20) (by kernel_rfl) (by kernel_rfl) (by kernel_rfl) (by kernel_rfl) (by kernel_rfl) (by kernel_rfl) h5, ⟨m, hm⟩, ⟨145, _, by simpa using World.var?_cell g1 hv1 0⟩, 145, _, by simpa using World.var?_cell g2 hv0 0⟩, ?_⟩
  obtain ⟨ps, ⟨g', t', cs, fuel, p, q, hg', ht', hvar, hd, _, _⟩, _⟩ := h7
  cases hq : W.heap[7]? with
  | some o => exact (Array.getElem?_eq_some_iff.1 hq).1
  | none =>
    unfold World.var? at hvar
    rw [g7] at hvar
    simp only [Option.bind_some, hq] at hvar
    cases hvar
theorem known_ro {ρ : Map} {h : Heap} {W : World} (g : In0 ρ h W) (e : C.EnvW W) (h8 : 8 ≤ W.heap.size) : Go.Vi.Good C.KT ρ h W := ⟨g.good, (⟨e, h8, fun _ _ b i hb hz => by rw [g.ro b i hb] at hz; cases hz⟩ : C.KT.is ρ W)⟩
theorem texts_row {h : Heap} : ∀ (row : List Value) (n : Nat), row.length = n → (∀ i, i < n → Rep Tryz.prog h 9 ((row.drop (i * Tryz.prog.cellsOf 9)).take (Tryz.prog.cellsOf 9))) → ∃ l : List (List UInt8), row = Tk.textsV l
  | [], _, _, _ => ⟨[], rfl⟩
  | x :: row, n, hn, hall => by
    obtain ⟨l, hl⟩ := texts_row row (n - 1) (by simp at hn; omega) fun i hi => by
      have := hall (i + 1) (by omega)
      rw [cells9, Nat.mul_one] at this ⊢
      exact this
    obtain ⟨s, hs, _⟩ := Rep.string_inv (hall 0 (by simp at hn; omega)) Tryz.underlying9
    rw [cells9] at hs
    have hs : [x] = [.string (strOf s)] := hs
    cases hs
    exact ⟨s :: l, by rw [hl]; rfl⟩
theorem texts_of {h : Heap} {x : Value} (r : Rep Tryz.prog h 22 [x]) : ∃ l : List (List UInt8), RowV h 1 x (Tk.textsV l) := by
  rcases r.slice_inv Tryz.underlying22 with e | e | ⟨b, row, len, cap, e, hb, hg, hrl, hlc, hp, hcm, hel⟩
  · cases e; exact ⟨[], RowV.nil _ _⟩
  · cases e; exact ⟨[], RowV.void _ _⟩
  · cases e
    rw [cells9, Nat.mul_one] at hrl
    obtain ⟨l, rfl⟩ := texts_row row cap hrl hel
    refine ⟨l.take len, ?_⟩
    have := RowV.own (z := 1) (n := len) (c := cap) hb hlc hg (by rw [hrl]; omega)
    rw [Nat.mul_one] at this
    have e : Tk.textsV (l.take len) = (Tk.textsV l).take len := by unfold Tk.textsV; rw [List.map_take]
    rw [e]
    exact this
set_option maxRecDepth 100000 in
theorem law_calls {H : Type} {enc : TypeId × Value → H} {W : World} {base : Nat} {args : List Value} {ds : List (DataW H)} {p : List MemPlace} (hA : DataW.TrodAll enc Tryz.prog W 0 (fun _ => true) true [22] args ds p)
    (hval : ∀ (j : Nat) (t : TypeId) (v : Value), [22][j]? = some t → args[j]? = some v → Value.okWide Tryz.prog W .any base t v) (e : C.EnvW W) (h8 : 8 ≤ W.heap.size) : Calls Tryz.prog 3 ⟨args⟩ W fun e w' => e = .returned (.bool true) ∧ KeptW W w' := by
  obtain ⟨h1, ρ1, xs, g1, _, _, r1, p1⟩ := lay_args [22] args ds p (by kernel_rfl) hA hval _ _ (In0.start W)
  cases p1 with
  | cons pv ps =>
  cases ps with
  | nil =>
  unfold RepV at pv
  rw [if_neg (by rw [show rowKind Tryz.prog 22 = false by kernel_rfl]; simp)] at pv
  obtain ⟨l, hl⟩ := texts_of pv
  exact calls_ro C.okE (show C.E.row 3 = none by kernel_rfl) (known_ro g1 e h8) g1.ro g1.dom r1 rfl (C.law_none _ l h1 hl)
theorem hand {H : Type} {enc : TypeId × Value → H} {a : Assume} {C : Checked} {os : Os} {f : FuncId} {fn : Func} {s : ChangeSpec} {conds : List PathCond} {apart fresh handsOn again : Bool} {X : World → Array Value → Prop}
    (hX : ∀ (w w' : World) (args : Array Value), w.heap = w'.heap → X w args → X w' args)
    (own : ownKnob C.prog.godebug = none) (started : os.Started) (noInit : C.prog.inits.idxOf? f = none) (hfn : C.prog.funcs[f]? = some fn)
    (witness : ∃ (w : World) (tape : Tape) (i : Input), w.os = os ∧ (w.forCall tape i).Shaped C.prog ∧ i.vars = [] ∧ Input.okWide C.prog (w.forCall tape i) .any w.heap.size f i ∧
      ((s.pre enc C.prog fn conds apart (w.forCall tape i).memory i.args ∧ X (w.forCall tape i).memory i.args) ∧ sizedMet enc C.prog fn (OpenSpec.ofChange s) apart (w.forCall tape i).memory i.args) ∧ a.holds C.prog (lone (Frame.enter C.prog f i.args .normal) [] (w.forCall tape i)))
    (contract : ∀ (W : World) (base : Nat) (args : Array Value) (ds gs : List (DataW H)) (before : List MemPlace),
      (∀ (j : Nat) t v, fn.params[j]? = some t → args[j]? = some v → Value.okWide C.prog W .any base t v) →
      DataW.Whole enc C.prog fn.params.toList s.vars apart W args.toList ds gs before → X W args → W.ShapedOpen C.prog →
      Calls C.prog f args W fun e W' => ∃ v, e = .returned v ∧ s.post enc C.prog fn apart fresh handsOn again W args v W') :
    ReturnsInHanded a C os f .any (fun w args => (s.pre enc C.prog fn conds apart w args ∧ X w args) ∧ sizedMet enc C.prog fn (OpenSpec.ofChange s) apart w args) (s.post enc C.prog fn apart fresh handsOn again) := by
  refine returnsInHanded_of_calls own started noInit witness ?_
  intro w tape i _ hsh _ hok hpre _
  obtain ⟨_, _, _, fn', hfn', _, _, _, _, hval⟩ := hok
  obtain rfl : fn' = fn := Option.some.inj (hfn'.symm.trans hfn)
  obtain ⟨⟨⟨ds, gs, before, hw, _⟩, hx⟩, _⟩ := hpre
  refine (contract (w.forCall tape i) w.heap.size i.args ds gs before hval (DataW.Whole.of_heap (w' := w.forCall tape i) (by rfl) hw) (hX _ _ _ (by rfl) hx) hsh).mono fun e W' ⟨v, he, hp⟩ => ?_
  subst he
  exact ChangeSpec.post_blind hp
set_option maxRecDepth 100000 in
theorem lifted (os : Os) (started : os.Started) (H : Type) (enc : TypeId × Value → H) :
    ReturnsInHanded {} Tryz.checked os 3 .any (fun w args => (Rows.talkNoneSpec.pre enc Tryz.prog Tryz.f3 Rows.talkNoneRow.domain false w args ∧ laidMetH Tryz.prog Rows.talkNoneRow.laid w) ∧ sizedMet enc Tryz.prog Tryz.f3 (OpenSpec.ofChange Rows.talkNoneSpec) false w args)
      (Rows.talkNoneSpec.post enc Tryz.prog Tryz.f3 false true false false) := by
  refine hand (C := Tryz.checked) (X := fun w _ => laidMetH Tryz.prog Rows.talkNoneRow.laid w) (fun _ _ _ hh h => h.of_heap hh) own started noInit Tryz.func3
    (ChangeSpec.witness_at (enc := enc) (C := Tryz.checked) (os := os) (X := fun w _ => laidMetH Tryz.prog Rows.talkNoneRow.laid w) false (laidWorld os) #[.slice none 0 0] 8 rfl (wv os) (wr os) (wo os) (wp H enc os) (wz H enc os) (laidWorld_met os _)) ?_
  intro W base args ds gs before hval0 hW hL hsh
  have hval : ∀ (j : Nat) t v, Tryz.f3.params[j]? = some t → args[j]? = some v → Value.okWide Tryz.prog W .any base t v := hval0
  have hW' := hW
  obtain ⟨p, q, hA0, hV, rfl, hfz, hnd⟩ := hW
  have hA : DataW.TrodAll enc Tryz.prog W 0 (fun _ => true) true Tryz.f3.params.toList args.toList ds p := hA0
  rw [Tryz.params3] at hA hval
  obtain rfl := (trodVars_none hV).1
  obtain rfl := (trodVars_none hV).2
  obtain ⟨he, h8⟩ := envW_of hL hsh
  have hds : ∃ d1, ds = [d1] := by
    obtain ⟨v0, d0, _, h, _⟩ := trodAll_one hA
    exact ⟨d0, h⟩
  obtain ⟨d1, rfl⟩ := hds
  refine (law_calls (args := args.toList) hA (fun j t v h1 h2 => hval j t v (by simpa using h1) (by simpa using h2)) he h8).mono fun e W' ⟨he, bel⟩ => ?_
  subst he
  refine ⟨_, rfl, _, _, _, [], p, [], hW', trodAll_mk1 (shut_bool Tryz.underlying4 _), ?_, rfl, bel.may _, fun h => by cases h⟩
  have hk := trodAll_kept (by kernel_rfl) bel [22] args.toList _ p (by kernel_rfl) hA
  rw [Tryz.params3]
  exact hk
theorem still (g : Nat) (fn : Func) (hf : Tryz.prog.funcs[g]? = some fn) : fn.goes = false := by
  by_cases h0 : g < 120
  · exact stillFrom_at (a := 0) (n := 120) (by kernel_rfl) (by omega) (by omega) hf
  by_cases h1 : g < 240
  · exact stillFrom_at (a := 120) (n := 120) (by kernel_rfl) (by omega) (by omega) hf
  by_cases h2 : g < 360
  · exact stillFrom_at (a := 240) (n := 120) (by kernel_rfl) (by omega) (by omega) hf
  by_cases h3 : g < 480
  · exact stillFrom_at (a := 360) (n := 120) (by kernel_rfl) (by omega) (by omega) hf
  by_cases h4 : g < 588
  · exact stillFrom_at (a := 480) (n := 108) (by kernel_rfl) (by omega) (by omega) hf
  have hs : Tryz.prog.funcs.size = 588 := by kernel_rfl
  have := (Array.getElem?_eq_some_iff.1 hf).1
  omega
theorem over : Rows.talkNoneRow.holds Tryz.pinned (OpenSpec.ofChange Rows.talkNoneSpec) :=
  OpenClaim.holds_of_wide 3 Tryz.f3 rfl rfl rfl rfl rfl rfl rfl ⟨rfl, rfl, rfl, rfl, rfl⟩ rfl rfl rfl rfl rfl (by kernel_rfl) Tryz.func3 facts
    (of_decide_eq_true (by kernel_rfl)) (by unfold Func.isWrapper; first | (rw [if_pos (by decide +kernel)]; kernel_rfl) | (rw [if_neg (by decide +kernel)]; exact ⟨rfl, rfl⟩))
    (fun os started H enc _ => lifted os started H enc)
theorem stand (f : FuncId) (fn : Func) (hf : Tryz.prog.funcNamed "lamina/laminalaw25.TalkNone" = some f) (hfn : Tryz.prog.funcs[f]? = some fn) :
    true = Tryz.prog.looks [] ∧ ∀ (j : Nat) t, fn.params[j]? = some t → Tryz.prog.wantsStandIn t = false := by
  obtain rfl : f = 3 := Option.some.inj ((show Tryz.prog.funcNamed "lamina/laminalaw25.TalkNone" = some 3 by kernel_rfl).symm.trans hf) |>.symm
  obtain rfl : fn = Tryz.f3 := (Option.some.inj (Tryz.func3.symm.trans hfn)).symm
  refine ⟨by kernel_rfl, fun j t ht => ?_⟩
  have hall : (Tryz.f3.params.toList.all fun t => !Tryz.prog.wantsStandIn t) = true := by kernel_rfl
  have hm : t ∈ Tryz.f3.params.toList := List.mem_iff_getElem?.2 ⟨j, by rw [Array.getElem?_toList]; exact ht⟩
  simpa using List.all_eq_true.1 hall t hm
theorem proved : Rows.TalkNoneCardSaid :=
  Claim7.holds_tied_plain_at .later [] [.pinned, .data, .sentinel, .sentinel, .data, .data, .data] true (true, "62b6b8af169c3318d02e5d0f485bd6d7dc3b2b5a23db0e07f3a93289a24842a0") true
    over (fun _ h => by cases h) (by kernel_rfl) (fun _ h => by cases h) row_tie rfl ⟨rfl, rfl⟩ (by kernel_rfl) rfl stand (goesBy_none still rfl)
#print axioms proved
end Go.Proofs.YtijnnpbfgmmngaaGreatDoor.talkNone
namespace Go.Proofs.YtijnnpbfgmmngaaGreatDoor
theorem talkNone_holds : Rows.TalkNoneCardSaid := talkNone.proved
end Go.Proofs.YtijnnpbfgmmngaaGreatDoor
