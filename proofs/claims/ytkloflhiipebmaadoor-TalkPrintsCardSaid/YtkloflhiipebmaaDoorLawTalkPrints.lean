/- TalkPrints holds: for every input the law returns true, and the input reads as it did. No condition beyond the row's own. -/
import Derived.Test.YtkloflhiipebmaaDoorRows
import Derived.Test.YtkloflhiipebmaaDoorU20
import Derived.Test.YtkloflhiipebmaaDoorVgJ
import Derived.Shelf.Vars
import Derived.Lib.LaidTab
import Derived.Stop.LaidErr
import Derived.WalkKit
import Derived.ProofKit
import Derived.OpenShut
import Derived.ShutString
import Derived.ChangeOld
import Derived.Below
import Derived.Carry
import Derived.SizedLaws
import Derived.Test.YtkloflhiipebmaaDoorVgG
import Derived.Lib.SmallJoins
import Derived.Test.YtkloflhiipebmaaDoorTie
import Derived.Test.YtkloflhiipebmaaDoorCards
import Derived.SevenTiedAt
import Derived.LaidLaws
import Derived.LaidHandle
import Derived.Handed
open Go Go.Vi
namespace Go.Proofs.YtkloflhiipebmaaDoor.talkPrints
open Go.Vi (stillFrom_at goesBy_none)
open Go.ChangeShapes Go.WideShapes Go.ChangeAt Go.RowKit Go.Joins Go.Deep
open Go.ChangeMaps (open_string shut_string)
set_option linter.unusedVariables false
theorem g0 : Tryd.prog.globalNamed "internal/bytealg.MaxLen" = some 0 := by kernel_rfl
theorem g1 : Tryd.prog.globalNamed "strconv.ErrSyntax" = some 1 := by kernel_rfl
theorem g2 : Tryd.prog.globalNamed "strconv.ErrRange" = some 2 := by kernel_rfl
theorem g7 : Tryd.prog.globalNamed "math/bits.deBruijn64tab" = some 7 := by kernel_rfl
theorem star : "*" ++ "errors.errorString" = "*errors.errorString" := by decide
theorem rowE (u : TypeId) (h : Tryd.prog.typeName? 3 u = some "*errors.errorString") : u = 135 :=
  typeName_ptr_named (nm := "errors.errorString") (by rw [star]; kernel_rfl) (by kernel_rfl) (by decide) u (by rw [star]; exact h)
theorem gl8 : 0 < Tryd.prog.globals.size := by
  rw [show Tryd.prog.globals.size = 8 from by kernel_rfl]
  decide
theorem cells9 : Tryd.prog.cellsOf 9 = 1 := by kernel_rfl
theorem cellsE : Tryd.prog.cellsOf 137 = 1 := by kernel_rfl
theorem envW_of {W : World} (h : laidMetH Tryd.prog Rows.talkPrintsRow.laid W) (hsh : W.ShapedOpen Tryd.prog) : C.EnvW W ∧ 8 ≤ W.heap.size := by
  have h1 : laidMet Tryd.prog Rows.talkPrintsRow.laid W := h
  have h2 := laidMet.tail h1
  have h3 := laidMet.tail h2
  have h4 := laidMet.tail h3
  have h5 := laidMet.tail h4
  have h6 := laidMet.tail h5
  obtain ⟨a0, s0, hv0, hc0, _, _⟩ := laid_sentinel (g := 2) (ti := 27) (tp := 135) (te := 137) (ts := 9) h5 g2 (by kernel_rfl) Tryd.underlying27 rowE Tryd.underlying135 Tryd.underlying137 rfl rfl Tryd.underlying9 cellsE cells9
  obtain ⟨a1, s1, hv1, hc1, _, _⟩ := laid_sentinel (g := 1) (ti := 27) (tp := 135) (te := 137) (ts := 9) h6 g1 (by kernel_rfl) Tryd.underlying27 rowE Tryd.underlying135 Tryd.underlying137 rfl rfl Tryd.underlying9 cellsE cells9
  obtain ⟨m, hm⟩ := cell_of_shapedOpen_int (g := 0) (t := 3) (zero := #[.int .i64 0]) (k := .i64) hsh gl8 (by kernel_rfl) rfl (by kernel_rfl) (by kernel_rfl) (by kernel_rfl)
  refine ⟨⟨Lib.tabIs_of_head (g := 3) (t := 123) (e := 76) (n := 20) (by kernel_rfl) (by kernel_rfl) (by kernel_rfl) (by kernel_rfl) (by kernel_rfl) (by kernel_rfl) h3, ⟨m, hm⟩, ⟨135, _, by simpa using World.var?_cell g1 hv1 0⟩, 135, _, by simpa using World.var?_cell g2 hv0 0⟩, ?_⟩
  obtain ⟨ps, ⟨g', t', cs, fuel, p, q, hg', ht', hvar, hd, _, _⟩, _⟩ := h2
  cases hq : W.heap[7]? with
  | some o => exact (Array.getElem?_eq_some_iff.1 hq).1
  | none =>
    unfold World.var? at hvar
    rw [g7] at hvar
    simp only [Option.bind_some, hq] at hvar
    cases hvar
theorem known_ro {ρ : Map} {h : Heap} {W : World} (g : In0 ρ h W) (e : C.EnvW W) (h8 : 8 ≤ W.heap.size) : Go.Vi.Good C.KT ρ h W := ⟨g.good, (⟨e, h8, fun _ _ b i hb hz => by rw [g.ro b i hb] at hz; cases hz⟩ : C.KT.is ρ W)⟩
theorem law_fin {ρ : Map} {h : Heap} {W : World} (g : In0 ρ h W) (e : C.EnvW W) (h8 : 8 ≤ W.heap.size) {c : Int} (hc : Tk.inR c) {o : Tk.TOp} (hi : C.OpIn o) {d : Value} (hd : C.RowG h d o.data) {args : List Value} (rel : VRels ρ [.int .i64 c, .agg ⟨C.opC o d⟩] args) :
    Calls Tryd.prog 4 ⟨args⟩ W fun e w' => e = .returned (.bool true) ∧ KeptW W w' :=
  calls_ro C.okE (show C.E.row 4 = none by kernel_rfl) (known_ro g e h8) g.ro g.dom rel rfl (C.law_prints c o d h hc hi hd)
set_option maxRecDepth 100000 in
theorem law_calls {H : Type} {enc : TypeId × Value → H} {W : World} {base : Nat} {args : List Value} {ds : List (DataW H)} {p : List MemPlace} (hA : DataW.TrodAll enc Tryd.prog W 0 (fun _ => true) true [3, 30] args ds p)
    (hval : ∀ (j : Nat) (t : TypeId) (v : Value), [3, 30][j]? = some t → args[j]? = some v → Value.okWide Tryd.prog W .any base t v) (e : C.EnvW W) (h8 : 8 ≤ W.heap.size) : Calls Tryd.prog 4 ⟨args⟩ W fun e w' => e = .returned (.bool true) ∧ KeptW W w' := by
  obtain ⟨h1, ρ1, xs, g1, _, _, r1, p1⟩ := lay_args [3, 30] args ds p (by kernel_rfl) hA hval _ _ (In0.start W)
  cases p1 with
  | cons pv ps =>
  cases ps with
  | cons po pn =>
  cases pn with
  | nil =>
  rename_i v o
  unfold RepV at pv po
  rw [if_neg (by rw [show rowKind Tryd.prog 3 = false by kernel_rfl]; simp)] at pv
  rw [if_pos (by kernel_rfl)] at po
  obtain ⟨c, hn, hc0, hc1⟩ := pv.int_inv Tryd.underlying3
  cases hn
  obtain ⟨cs, rfl, hc⟩ := po
  have hl : cs.length = 11 := (hc.struct_inv Tryd.underlying30).1.trans (by kernel_rfl)
  match cs, hl with
  | [x0, x1, x2, x3, x4, x5, x6, x7, x8, x9, x10], _ =>
  obtain ⟨k0, e0, a0, b0⟩ := (hc.field Tryd.underlying30 0 rfl (n := 1) (by kernel_rfl)).int_inv Tryd.underlying3
  have e0 : [x0] = [.int .i64 k0] := e0
  cases e0
  obtain ⟨s1, e1, l1⟩ := (hc.field Tryd.underlying30 1 rfl (n := 1) (by kernel_rfl)).string_inv Tryd.underlying9
  have e1 : [x1] = [.string (strOf s1)] := e1
  cases e1
  obtain ⟨s2, e2, l2⟩ := (hc.field Tryd.underlying30 2 rfl (n := 1) (by kernel_rfl)).string_inv Tryd.underlying9
  have e2 : [x2] = [.string (strOf s2)] := e2
  cases e2
  obtain ⟨s3, e3, l3⟩ := (hc.field Tryd.underlying30 3 rfl (n := 1) (by kernel_rfl)).string_inv Tryd.underlying9
  have e3 : [x3] = [.string (strOf s3)] := e3
  cases e3
  obtain ⟨s4, e4, l4⟩ := (hc.field Tryd.underlying30 4 rfl (n := 1) (by kernel_rfl)).string_inv Tryd.underlying9
  have e4 : [x4] = [.string (strOf s4)] := e4
  cases e4
  obtain ⟨k5, e5, a5, b5⟩ := (hc.field Tryd.underlying30 5 rfl (n := 1) (by kernel_rfl)).int_inv Tryd.underlying3
  have e5 : [x5] = [.int .i64 k5] := e5
  cases e5
  obtain ⟨k6, e6, a6, b6⟩ := (hc.field Tryd.underlying30 6 rfl (n := 1) (by kernel_rfl)).int_inv Tryd.underlying3
  have e6 : [x6] = [.int .i64 k6] := e6
  cases e6
  obtain ⟨k7, e7, a7, b7⟩ := (hc.field Tryd.underlying30 7 rfl (n := 1) (by kernel_rfl)).int_inv Tryd.underlying3
  have e7 : [x7] = [.int .i64 k7] := e7
  cases e7
  obtain ⟨k8, e8, a8, b8⟩ := (hc.field Tryd.underlying30 8 rfl (n := 1) (by kernel_rfl)).int_inv Tryd.underlying3
  have e8 : [x8] = [.int .i64 k8] := e8
  cases e8
  obtain ⟨t10, e10⟩ := (hc.field Tryd.underlying30 10 rfl (n := 1) (by kernel_rfl)).bool_inv Tryd.underlying4
  have e10 : [x10] = [.bool t10] := e10
  cases e10
  have fin : ∀ (d : Value) (l : List UInt8) (ρ : Map) (h : Heap), In0 ρ h W → C.RowG h d l → VRels ρ [.int .i64 c, .agg ⟨[.int .i64 k0, .string (strOf s1), .string (strOf s2), .string (strOf s3), .string (strOf s4), .int .i64 k5, .int .i64 k6, .int .i64 k7, .int .i64 k8, d, .bool t10]⟩] args →
      Calls Tryd.prog 4 ⟨args⟩ W fun e w' => e = .returned (.bool true) ∧ KeptW W w' := fun d l ρ h g hd rel =>
    law_fin g e h8 ⟨hc0, hc1⟩ (o := ⟨k0, s1, s2, s3, s4, k5, k6, k7, k8, l, t10⟩) ⟨⟨a0, b0⟩, ⟨a5, b5⟩, ⟨a6, b6⟩, ⟨a7, b7⟩, ⟨a8, b8⟩⟩ hd rel
  have hx9 := hc.field Tryd.underlying30 9 rfl (n := 1) (by kernel_rfl)
  rcases hx9.slice_inv Tryd.underlying23 with e9 | e9 | ⟨b, row, len, cap, e9, hb, hg, hrl, hlc, hp, hcm, hel⟩
  · have e9 : [x9] = [.slice none 0 0] := e9
    cases e9
    exact fin _ [] ρ1 h1 g1 (.inl ⟨rfl, rfl⟩) r1
  · have e9 : [x9] = [.slice (some ⟨0, 0, some 0⟩) 0 0] := e9
    cases e9
    obtain ⟨v0, r0, rfl, rv0, rr⟩ := r1.cons_inv
    obtain ⟨v1, r2, rfl, ro, rn⟩ := rr.cons_inv
    have := rn.nil_inv
    subst this
    obtain ⟨cs', rfl, rc⟩ := ro.agg_inv
    obtain ⟨y9, hy9, ry9⟩ := rc.get (j := 9) rfl
    cases ry9 with
    | sliceE a =>
      obtain ⟨cs2, hcs2, _, ts, hts, _, hall⟩ := hval 1 30 _ rfl rfl
      cases hcs2
      have hts' : Tryd.prog.cellTypes Tryd.prog.depth 30 = some [3, 9, 9, 9, 9, 3, 3, 3, 3, 23, 4] := by kernel_rfl
      rw [hts'] at hts
      cases hts
      obtain ⟨u, hu, hok⟩ := hall 9 _ (by rw [← Array.getElem?_toList]; exact hy9)
      have hu : some 23 = some u := hu
      cases hu
      have hhas : W.has Tryd.prog .any base a 5 0 := by
        have := hok
        unfold Cell.okWide at this
        rw [Tryd.underlying23] at this
        simp only [Cell.ok, Tryd.underlying23] at this
        exact this.2.2
      obtain ⟨hsp, c', el, fr, hB, hoff⟩ := has_cells hhas
      have g2 := g1.row hB (cs := []) (o := a.off) (by simpa using hoff) (by simpa using VRels.nil)
      have e2 := upd_ext (ρ := ρ1) (n := h1.next) ⟨a.block, a.off, none, c'.size, true⟩ (g1.dom _ (Nat.le_refl _))
      refine fin (.slice (some ⟨h1.next, 0, none⟩) 0 0) [] _ _ g2 (.inr ⟨h1.next, 0, 0, [], false, none, Nat.lt_succ_self _, rfl, get_new_same h1 _, by simp, by simp⟩) ?_
      refine .cons (rv0.ext e2) (.cons ?_ .nil)
      refine .agg' (l := [.int .i64 k0, .string (strOf s1), .string (strOf s2), .string (strOf s3), .string (strOf s4), .int .i64 k5, .int .i64 k6, .int .i64 k7, .int .i64 k8, .slice (some ⟨h1.next, 0, none⟩) 0 0, .bool t10]) (l' := cs'.toList) ?_
      refine (rc.ext e2).set_left (k := 9) hy9 ?_
      obtain ⟨ab, ao, asp⟩ := a
      simp only at hsp
      subst hsp
      exact .slice h1.next 0 0 0 _ ao 0 upd_self (Nat.le_refl _) (.inl rfl) (Nat.le_refl _) (fun _ => rfl) (fun z hz => by cases hz)
  · have e9 : [x9] = [.slice (some ⟨b, 0, none⟩) len cap] := e9
    cases e9
    have hcz : Tryd.prog.cellsOf 5 = 1 := by kernel_rfl
    rw [hcz, Nat.mul_one] at hrl
    obtain ⟨l, rfl⟩ := bytes_row Tryd.underlying5 hcz row cap hrl hel
    rw [List.length_map] at hrl
    have hlen : (l.take len).length = len := by rw [List.length_take]; omega
    refine fin _ (l.take len) ρ1 h1 g1 (.inr ⟨b, 0, cap, l.map byteV, false, none, hb, by rw [hlen], hg, by rw [hlen, List.length_map]; omega, ?_⟩) r1
    rw [hlen, List.drop_zero, List.map_take]
theorem hand {H : Type} {enc : TypeId × Value → H} {a : Assume} {C : Checked} {os : Os} {f : FuncId} {fn : Func} {s : ChangeSpec} {conds : List PathCond} {apart fresh handsOn again : Bool} {X : World → Array Value → Prop}
    (hX : ∀ (w w' : World) (args : Array Value), w.heap = w'.heap → X w args → X w' args)
    (own : ownKnob C.prog.godebug = none) (started : os.Started) (noInit : C.prog.inits.idxOf? f = none) (hfn : C.prog.funcs[f]? = some fn)
    (witness : ∃ (w : World) (tape : Tape) (i : Input), w.os = os ∧ (w.forCall tape i).Shaped C.prog ∧ i.vars = [] ∧ Input.okWide C.prog (w.forCall tape i) .any w.heap.size f i ∧
      ((s.pre enc C.prog fn conds apart (w.forCall tape i).memory i.args ∧ X (w.forCall tape i).memory i.args) ∧ sizedMet enc C.prog fn (OpenSpec.ofChange s) apart (w.forCall tape i).memory i.args) ∧ a.holds C.prog (lone (Frame.enter C.prog f i.args .normal) [] (w.forCall tape i)))
    (contract : ∀ (W : World) (base : Nat) (args : Array Value) (ds gs : List (DataW H)) (before : List MemPlace),
      (∀ (j : Nat) t v, fn.params[j]? = some t → args[j]? = some v → Value.okWide C.prog W .any base t v) →
      DataW.Whole enc C.prog fn.params.toList s.vars apart W args.toList ds gs before → X W args → W.ShapedOpen C.prog →
      Calls C.prog f args W fun e W' => ∃ v, e = .returned v ∧ s.post enc C.prog fn apart fresh handsOn again W args v W') :
    ReturnsInHanded a C os f .any (fun w args => (s.pre enc C.prog fn conds apart w args ∧ X w args) ∧ sizedMet enc C.prog fn (OpenSpec.ofChange s) apart w args) (s.post enc C.prog fn apart fresh handsOn again) := by
  refine returnsInHanded_of_calls own started noInit witness ?_
  intro w tape i _ hsh _ hok hpre _
  obtain ⟨_, _, _, fn', hfn', _, _, _, _, hval⟩ := hok
  obtain rfl : fn' = fn := Option.some.inj (hfn'.symm.trans hfn)
  obtain ⟨⟨⟨ds, gs, before, hw, _⟩, hx⟩, _⟩ := hpre
  refine (contract (w.forCall tape i) w.heap.size i.args ds gs before hval (DataW.Whole.of_heap (w' := w.forCall tape i) (by rfl) hw) (hX _ _ _ (by rfl) hx) hsh).mono fun e W' ⟨v, he, hp⟩ => ?_
  subst he
  exact ChangeSpec.post_blind hp
theorem own : ownKnob Tryd.prog.godebug = none := by kernel_rfl
noncomputable def laidPut (g : Nat) (cs : Array Value) (w : World) : World := { w with heap := w.heap.modify g fun
    | .cells _ t frozen => .cells cs t frozen
    | o => o }
def litD : DataW Unit → List Value
  | .lit (.int k n) => [.int k n]
  | _ => []
def cellsD : DataW Unit → List Value
  | .agg l => l.flatMap fun d => match d with
    | .agg m => m.flatMap litD
    | d => litD d
  | d => litD d
def strD : DataW Unit → ByteArray
  | .iface _ (.ptr (.agg [.lit (.string l)])) => ⟨⟨l⟩⟩
  | _ => .empty
noncomputable def laidErr (g tp te : Nat) (s : ByteArray) (w : World) : World := laidPut g #[.iface tp (.pointer (some ⟨w.heap.size, 0, none⟩))] (w.alloc (.cells #[.string s] te))
noncomputable def laidWorld (os : Os) : World := laidErr 2 135 137 (strD (Rows.laid_strconv_ErrRange (H := Unit))) (laidErr 1 135 137 (strD (Rows.laid_strconv_ErrSyntax (H := Unit))) (laidPut 5 (cellsD (Rows.laid_unicode_utf8_acceptRanges (H := Unit))).toArray (laidPut 4 (cellsD (Rows.laid_unicode_utf8_first)).toArray
  (laidPut 7 (cellsD (Rows.laid_math_bits_deBruijn64tab (H := Unit))).toArray (laidPut 6 (cellsD (Rows.laid_math_bits_deBruijn32tab (H := Unit))).toArray (laidPut 3 (cellsD (Rows.laid_internal_strconv_uint64pow10 (H := Unit))).toArray (World.holding Tryd.prog os ⟨#[], #[], []⟩)))))))
theorem laidWorld_met (os : Os) (args : Array Value) : laidMetH Tryd.prog Rows.talkPrintsRow.laid ((laidWorld os).forCall (fun _ _ => 0) ⟨#[], args, []⟩).memory :=
  laidMetH_of_parts (laidMet_of_run' 100 (by kernel_rfl) (by kernel_rfl)) (by kernel_rfl)
set_option maxRecDepth 100000 in
theorem lifted (os : Os) (started : os.Started) (H : Type) (enc : TypeId × Value → H) :
    ReturnsInHanded {} Tryd.checked os 4 .any (fun w args => (Rows.talkPrintsSpec.pre enc Tryd.prog Tryd.f4 Rows.talkPrintsRow.domain false w args ∧ laidMetH Tryd.prog Rows.talkPrintsRow.laid w) ∧ sizedMet enc Tryd.prog Tryd.f4 (OpenSpec.ofChange Rows.talkPrintsSpec) false w args)
      (Rows.talkPrintsSpec.post enc Tryd.prog Tryd.f4 false true false false) := by
  refine hand (C := Tryd.checked) (X := fun w _ => laidMetH Tryd.prog Rows.talkPrintsRow.laid w) (fun _ _ _ hh h => h.of_heap hh) own started (by kernel_rfl) Tryd.func4
    (ChangeSpec.witness_at (enc := enc) (C := Tryd.checked) (os := os) (X := fun w _ => laidMetH Tryd.prog Rows.talkPrintsRow.laid w) false (laidWorld os) #[.int .i64 0, .agg #[.int .i64 0, .string .empty, .string .empty, .string .empty, .string .empty, .int .i64 0, .int .i64 0, .int .i64 0, .int .i64 0, .slice none 0 0, .bool false]] 8 rfl (by kernel_rfl) (by kernel_rfl) (by kernel_rfl) (by kernel_rfl) (by kernel_rfl) (laidWorld_met os _)) ?_
  intro W base args ds gs before hval0 hW hL hsh
  have hval : ∀ (j : Nat) t v, Tryd.f4.params[j]? = some t → args[j]? = some v → Value.okWide Tryd.prog W .any base t v := hval0
  have hW' := hW
  obtain ⟨p, q, hA0, hV, rfl, hfz, hnd⟩ := hW
  have hA : DataW.TrodAll enc Tryd.prog W 0 (fun _ => true) true Tryd.f4.params.toList args.toList ds p := hA0
  rw [Tryd.params4] at hA hval
  obtain rfl := (trodVars_none hV).1
  obtain rfl := (trodVars_none hV).2
  obtain ⟨he, h8⟩ := envW_of hL hsh
  have hds : ∃ d1 d2, ds = [d1, d2] := by
    obtain ⟨v0, v1, d0, d1, p0, p1, _, h, _⟩ := trodAll_two hA
    exact ⟨d0, d1, h⟩
  obtain ⟨d1, d2, rfl⟩ := hds
  refine (law_calls (args := args.toList) hA (fun j t v h1 h2 => hval j t v (by simpa using h1) (by simpa using h2)) he h8).mono fun e W' ⟨he, bel⟩ => ?_
  subst he
  refine ⟨_, rfl, _, _, _, [], p, [], hW', trodAll_mk1 (shut_bool Tryd.underlying4 _), ?_, rfl, bel.may _, fun h => by cases h⟩
  have hk := trodAll_kept (by kernel_rfl) bel [3, 30] args.toList _ p (by kernel_rfl) hA
  rw [Tryd.params4]
  exact hk
theorem jA : (Rows.talkPrintsRow.inPlace == Tryd.prog.inPlace 4) = true := by kernel_rfl
theorem jB : (Rows.talkPrintsRow.unfollowed == Tryd.prog.unfollowed 4) = true := by kernel_rfl
theorem jC : (Rows.talkPrintsRow.recurses == Tryd.prog.recurses 4) = true := by kernel_rfl
theorem jD : (Rows.talkPrintsRow.named == Tryd.prog.varsNamed 4) = true := by kernel_rfl
theorem facts : joinedFacts Tryd.prog 4 Tryd.f4 Rows.talkPrintsSpec Rows.talkPrintsRow = true := by
  unfold joinedFacts
  rw [jA, jB, jC, jD]
  kernel_rfl
theorem still (g : Nat) (fn : Func) (hf : Tryd.prog.funcs[g]? = some fn) : fn.goes = false := by
  by_cases h0 : g < 130
  · exact stillFrom_at (a := 0) (n := 130) (by kernel_rfl) (by omega) (by omega) hf
  have hs : Tryd.prog.funcs.size = 130 := by kernel_rfl
  have := (Array.getElem?_eq_some_iff.1 hf).1
  omega
theorem over : Rows.talkPrintsRow.holds Tryd.pinned (OpenSpec.ofChange Rows.talkPrintsSpec) :=
  OpenClaim.holds_of_wide 4 Tryd.f4 rfl rfl rfl rfl rfl rfl rfl ⟨rfl, rfl, rfl, rfl, rfl⟩ rfl rfl rfl rfl rfl (by kernel_rfl) Tryd.func4 facts
    (of_decide_eq_true (by kernel_rfl)) (by unfold Func.isWrapper; first | (rw [if_pos (by decide +kernel)]; kernel_rfl) | (rw [if_neg (by decide +kernel)]; exact ⟨rfl, rfl⟩))
    (fun os started H enc _ => lifted os started H enc)
theorem stand (f : FuncId) (fn : Func) (hf : Tryd.prog.funcNamed "lamina/laminalaw25.TalkPrints" = some f) (hfn : Tryd.prog.funcs[f]? = some fn) :
    true = Tryd.prog.looks [] ∧ ∀ (j : Nat) t, fn.params[j]? = some t → Tryd.prog.wantsStandIn t = false := by
  obtain rfl : f = 4 := Option.some.inj ((show Tryd.prog.funcNamed "lamina/laminalaw25.TalkPrints" = some 4 by kernel_rfl).symm.trans hf) |>.symm
  obtain rfl : fn = Tryd.f4 := (Option.some.inj (Tryd.func4.symm.trans hfn)).symm
  refine ⟨by kernel_rfl, fun j t ht => ?_⟩
  have hall : (Tryd.f4.params.toList.all fun t => !Tryd.prog.wantsStandIn t) = true := by kernel_rfl
  have hm : t ∈ Tryd.f4.params.toList := List.mem_iff_getElem?.2 ⟨j, by rw [Array.getElem?_toList]; exact ht⟩
  simpa using List.all_eq_true.1 hall t hm
theorem proved : Rows.TalkPrintsCardSaid :=
  Claim7.holds_tied_plain_at .later [] [.data, .data, .data, .data, .sentinel, .sentinel, .pinned] true (true, "071eac432f6d1324d67545db34b390adb9c967d33fa8fea1b4105d613d650324") true
    over (fun _ h => by cases h) (by kernel_rfl) (fun _ h => by cases h) talkPrints_row_tie rfl ⟨rfl, rfl⟩ (by kernel_rfl) rfl stand (goesBy_none still rfl)
#print axioms proved
end Go.Proofs.YtkloflhiipebmaaDoor.talkPrints
namespace Go.Proofs.YtkloflhiipebmaaDoor
theorem talkPrints_holds : Rows.TalkPrintsCardSaid := talkPrints.proved
end Go.Proofs.YtkloflhiipebmaaDoor
