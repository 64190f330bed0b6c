/- TalkAnswers holds: for every input the law returns true, and the input reads as it did. No condition beyond the row's own. -/
import Derived.Test.YtbhadhmleemjnaaDoorRows
import Derived.Test.YtbhadhmleemjnaaDoorTa7
import Derived.Lib.LaidTab
import Derived.Stop.LaidErr
import Derived.WalkKit
import Derived.ProofKit
import Derived.OpenShut
import Derived.ShutString
import Derived.ChangeOld
import Derived.Below
import Derived.Carry
import Derived.SizedLaws
import Derived.Test.YtbhadhmleemjnaaDoorVgH
import Derived.Lib.SmallJoins
import Derived.Test.YtbhadhmleemjnaaDoorTie
import Derived.Test.YtbhadhmleemjnaaDoorCards
import Derived.SevenTiedAt
import Derived.LaidLaws
import Derived.LaidHandle
import Derived.Handed
open Go Go.Vi
namespace Go.Proofs.YtbhadhmleemjnaaDoor.talkAnswers
open Go.Vi (stillFrom_at goesBy_none)
open Go.ChangeShapes Go.WideShapes Go.ChangeAt Go.RowKit Go.Joins Go.Deep
open Go.ChangeMaps (open_string shut_string)
set_option linter.unusedVariables false
theorem cells5 : Tryd.prog.cellsOf 5 = 1 := by kernel_rfl
theorem wf_i64 {n : Int} (h : (Lit.int .i64 n).wf = true) : -9223372036854775808 ≤ n ∧ n ≤ 9223372036854775807 := by
  have h := h; simp only [Lit.wf, Bool.and_eq_true, decide_eq_true_eq] at h; exact ⟨h.1, h.2⟩
theorem wf_u8 {n : Int} (h : (Lit.int .u8 n).wf = true) : 0 ≤ n ∧ n ≤ 255 := by
  have h := h; simp only [Lit.wf, Bool.and_eq_true, decide_eq_true_eq] at h; exact ⟨h.1, h.2⟩
theorem tab_of {W : World} (h : laidMetH Tryd.prog Rows.talkAnswersRow.laid W) : C.TabOk W := by
  have h1 : laidMet Tryd.prog Rows.talkAnswersRow.laid W := h
  have h2 := laidMet.tail (laidMet.tail h1)
  exact Lib.tabIs_of_head (g := 0) (t := 96) (e := 59) (n := 20) (by kernel_rfl) (by kernel_rfl) (by kernel_rfl) (by kernel_rfl) (by kernel_rfl) (by kernel_rfl) h2
theorem trod_kept {H : Type} {enc : TypeId × Value → H} {P : Program} {t : TypeId} (hl : laidOutB P = true) (hr : P.readableRec t = true) (hrow : t < P.types.size) {W W' : World} {v : Value} {d : DataW H} {ps : List MemPlace}
    (h : DataW.Trod enc P W 0 (fun _ => true) true t v d ps) (k : C.KeptW W W') (hlt : ∀ x ∈ ps, x.block < W.heap.size) : DataW.Trod enc P W' 0 (fun b => decide (b < W.heap.size)) true t v d ps :=
  WideElems.Trod_stays hl hr hrow h (fun x hx => by
    have hb := k.2.2.2 x.block (hlt x hx)
    cases x with
    | cell b o => exact World.cell?_of_block (w := W) hb
    | map b => exact hb) (fun x hx => by simpa using hlt x hx)
set_option maxRecDepth 100000 in
theorem row_of {H : Type} {enc : TypeId × Value → H} {W : World} {v : Value} {d : DataW H} {ps : List MemPlace} {base : Nat} (hok : Value.okWide Tryd.prog W .any base 22 v) (h : DataW.Trod enc Tryd.prog W 0 (fun _ => true) true 22 v d ps) : ∃ l, C.IsRow W v l := by
  obtain ⟨sa, sl, sc, rfl⟩ := okWide_slice Tryd.underlying22 hok
  obtain ⟨fuel, hf⟩ := h
  rcases open_ints Tryd.underlying22 Tryd.underlying5 cells5 hf with ⟨hc, _⟩ | ⟨a, len, cap, zs, hc, _, hle, _, hz, _, hcell, hwf⟩
  · exact ⟨[], .inl ⟨by simpa [Value.cells] using hc, rfl⟩⟩
  · have hv : (Value.slice sa sl sc) = .slice (some a) len cap := by simpa [Value.cells] using hc
    rw [hv]
    have hz : zs.length = cap := by simpa using hz
    have hlen : ((zs.take len).map fun z => UInt8.ofNat z.toNat).length = len := by simp; omega
    have key : ∀ j b, ((zs.take len).map fun z => UInt8.ofNat z.toNat)[j]? = some b → W.cell? (a.add j) = some (.int .u8 (b.toNat : Int)) := by
      intro j b hj
      have hjl : j < len := by
        have := (List.getElem?_eq_some_iff.1 hj).1
        omega
      rw [hcell j (by omega)]
      have hzj : zs[j]? = some (zs[j]'(by omega)) := List.getElem?_eq_getElem _
      rw [List.getElem?_map, List.getElem?_take, if_pos hjl, hzj] at hj
      simp only [Option.map_some, Option.some.injEq] at hj
      have hw := wf_u8 (hwf (zs[j]'(by omega)) (List.getElem_mem _))
      subst hj
      rw [List.getD_eq_getElem?_getD, hzj]
      simp only [Option.getD_some]
      congr 2
      simp
      omega
    refine ⟨_, .inr ⟨a, cap, ?_, fun hne => ⟨?_, key⟩⟩⟩
    · rw [hlen]
    · obtain ⟨b, hb⟩ : ∃ b, ((zs.take len).map fun z => UInt8.ofNat z.toNat)[0]? = some b := by
        cases hq : ((zs.take len).map fun z => UInt8.ofNat z.toNat) with
        | nil => exact absurd hq hne
        | cons b r => exact ⟨b, rfl⟩
      have := World.block_lt_of_cell? W _ (key 0 b hb)
      rwa [C.add_block] at this
theorem own : ownKnob Tryd.prog.godebug = none := by kernel_rfl
/-- A world in which the listed variables hold what the text lays. -/
noncomputable def laidPut (g : Nat) (cs : Array Value) (w : World) : World := { w with heap := w.heap.modify g fun
    | .cells _ t frozen => .cells cs t frozen
    | o => o }
def litD : DataW Unit → List Value
  | .lit (.int k n) => [.int k n]
  | _ => []
def cellsD : DataW Unit → List Value
  | .agg l => l.flatMap fun d => match d with
    | .agg m => m.flatMap litD
    | d => litD d
  | d => litD d
def strD : DataW Unit → ByteArray
  | .iface _ (.ptr (.agg [.lit (.string l)])) => ⟨⟨l⟩⟩
  | _ => .empty
noncomputable def laidErr (g tp te : Nat) (s : ByteArray) (w : World) : World := laidPut g #[.iface tp (.pointer (some ⟨w.heap.size, 0, none⟩))] (w.alloc (.cells #[.string s] te))
noncomputable def laidWorld (os : Os) : World := laidErr 3 116 118 (strD (Rows.laid_strconv_ErrRange (H := Unit))) (laidErr 2 116 118 (strD (Rows.laid_strconv_ErrSyntax (H := Unit))) (laidPut 5 (cellsD (Rows.laid_unicode_utf8_acceptRanges (H := Unit))).toArray (laidPut 4 (cellsD (Rows.laid_unicode_utf8_first)).toArray
  (laidPut 7 (cellsD (Rows.laid_math_bits_deBruijn64tab (H := Unit))).toArray (laidPut 6 (cellsD (Rows.laid_math_bits_deBruijn32tab (H := Unit))).toArray (laidPut 0 (cellsD (Rows.laid_internal_strconv_uint64pow10 (H := Unit))).toArray (World.holding Tryd.prog os ⟨#[], #[], []⟩)))))))
theorem laidWorld_met (os : Os) (args : Array Value) : laidMetH Tryd.prog Rows.talkAnswersRow.laid ((laidWorld os).forCall (fun _ _ => 0) ⟨#[], args, []⟩).memory :=
  laidMetH_of_parts (laidMet_of_run' 100 (by kernel_rfl) (by kernel_rfl)) (by kernel_rfl)
set_option maxRecDepth 100000 in
theorem lifted (os : Os) (started : os.Started) (H : Type) (enc : TypeId × Value → H) :
    ReturnsInHanded {} Tryd.checked os 3 .any (fun w args => (Rows.talkAnswersSpec.pre enc Tryd.prog Tryd.f3 Rows.talkAnswersRow.domain false w args ∧ laidMetH Tryd.prog Rows.talkAnswersRow.laid w) ∧ sizedMet enc Tryd.prog Tryd.f3 (OpenSpec.ofChange Rows.talkAnswersSpec) false w args)
      (Rows.talkAnswersSpec.post enc Tryd.prog Tryd.f3 false true false false) := by
  refine returnsInHanded_of_change_and (C := Tryd.checked) (X := fun w _ => laidMetH Tryd.prog Rows.talkAnswersRow.laid w) (fun _ _ _ hh h => h.of_heap hh) own started (by kernel_rfl) Tryd.func3
    (ChangeSpec.witness_at (enc := enc) (C := Tryd.checked) (os := os) (X := fun w _ => laidMetH Tryd.prog Rows.talkAnswersRow.laid w) false (laidWorld os) #[.slice none 0 0, .int .i64 0, .int .i64 0] 8 rfl (by kernel_rfl) (by kernel_rfl) (by kernel_rfl) (by kernel_rfl) (by kernel_rfl) (laidWorld_met os _)) ?_
  intro W base args ds gs before hval0 hW hcnd hsz0 hL _
  have hsz : (DataW.weightsEach Tryd.prog (Tryd.f3.params.toList ++ Rows.talkAnswersSpec.plain.varTypes Tryd.prog) (ds ++ gs)).all (· ≤ reachBytes) = true := hsz0
  have hval : ∀ (j : Nat) t v, Tryd.f3.params[j]? = some t → args[j]? = some v → Value.okWide Tryd.prog W .any base t v := hval0
  have hW' := hW
  obtain ⟨p, q, hA0, hV, rfl, hfz, hnd⟩ := hW
  have hA : DataW.TrodAll enc Tryd.prog W 0 (fun _ => true) true Tryd.f3.params.toList args.toList ds p := hA0
  rw [Tryd.params3] at hA hval hsz
  obtain ⟨v0, vs0, d0, ds0, p0, q0, hargs, rfl, rfl, h0, r0⟩ := trodAll_cons hA
  obtain ⟨v1, vs1, d1, ds1, p1, q1, rfl, rfl, rfl, h1, r1⟩ := trodAll_cons r0
  obtain ⟨v2, vs2, d2, ds2, p2, q2, rfl, rfl, rfl, h2, r2⟩ := trodAll_cons r1
  obtain ⟨rfl, rfl, rfl⟩ := trodAll_nil r2
  obtain rfl : args = #[v0, v1, v2] := by cases args; simp_all
  obtain ⟨rfl, rfl⟩ := trodVars_none hV
  obtain ⟨a1, rfl, rfl, rfl, w1⟩ := open_int Tryd.underlying3 (hval 1 3 v1 rfl rfl) h1
  obtain ⟨a2, rfl, rfl, rfl, w2⟩ := open_int Tryd.underlying3 (hval 2 3 v2 rfl rfl) h2
  obtain ⟨l, hl⟩ := row_of (hval 0 22 v0 rfl rfl) h0
  have hlt : ∀ x ∈ p0, x.block < W.heap.size := fun x hx => hW'.lt x (by simp [hx])
  clear hA0 hval0 hsz0 hsz
  refine (C.law_calls v0 l a1 a2 (wf_i64 w1).1 (wf_i64 w1).2 W hl (tab_of hL)).mono fun e W' ⟨he, bel⟩ => ?_
  subst he
  exact ⟨_, rfl, _, _, _, [], _, [], hW', trodAll_mk1 (shut_bool Tryd.underlying4 _), (trodAll_cons_mk (trod_kept (by kernel_rfl) (by kernel_rfl) (of_decide_eq_true (by kernel_rfl)) h0 bel hlt) (trodAll_cons_mk (shut_int Tryd.underlying3 w1) (trodAll_cons_mk (shut_int Tryd.underlying3 w2) trodAll_mk0))), rfl, bel.may _, fun h => by cases h⟩
theorem jA : (Rows.talkAnswersRow.inPlace == Tryd.prog.inPlace 3) = true := by kernel_rfl
theorem jB : (Rows.talkAnswersRow.unfollowed == Tryd.prog.unfollowed 3) = true := by kernel_rfl
theorem jC : (Rows.talkAnswersRow.recurses == Tryd.prog.recurses 3) = true := by kernel_rfl
theorem jD : (Rows.talkAnswersRow.named == Tryd.prog.varsNamed 3) = true := by kernel_rfl
theorem facts : joinedFacts Tryd.prog 3 Tryd.f3 Rows.talkAnswersSpec Rows.talkAnswersRow = true := by
  unfold joinedFacts
  rw [jA, jB, jC, jD]
  kernel_rfl
theorem still (g : Nat) (fn : Func) (hf : Tryd.prog.funcs[g]? = some fn) : fn.goes = false := by
  by_cases h0 : g < 108
  · exact stillFrom_at (a := 0) (n := 108) (by kernel_rfl) (by omega) (by omega) hf
  have hs : Tryd.prog.funcs.size = 108 := by kernel_rfl
  have := (Array.getElem?_eq_some_iff.1 hf).1
  omega
theorem over : Rows.talkAnswersRow.holds Tryd.pinned (OpenSpec.ofChange Rows.talkAnswersSpec) :=
  OpenClaim.holds_of_wide 3 Tryd.f3 rfl rfl rfl rfl rfl rfl rfl ⟨rfl, rfl, rfl, rfl, rfl⟩ rfl rfl rfl rfl rfl (by kernel_rfl) Tryd.func3 facts
    (of_decide_eq_true (by kernel_rfl)) (by unfold Func.isWrapper; first | (rw [if_pos (by decide +kernel)]; kernel_rfl) | (rw [if_neg (by decide +kernel)]; exact ⟨rfl, rfl⟩))
    (fun os started H enc _ => lifted os started H enc)
theorem stand (f : FuncId) (fn : Func) (hf : Tryd.prog.funcNamed "lamina/laminalaw25.TalkAnswers" = some f) (hfn : Tryd.prog.funcs[f]? = some fn) :
    true = Tryd.prog.looks [] ∧ ∀ (j : Nat) t, fn.params[j]? = some t → Tryd.prog.wantsStandIn t = false := by
  obtain rfl : f = 3 := Option.some.inj ((show Tryd.prog.funcNamed "lamina/laminalaw25.TalkAnswers" = some 3 by kernel_rfl).symm.trans hf) |>.symm
  obtain rfl : fn = Tryd.f3 := (Option.some.inj (Tryd.func3.symm.trans hfn)).symm
  refine ⟨by kernel_rfl, fun j t ht => ?_⟩
  have hall : (Tryd.f3.params.toList.all fun t => !Tryd.prog.wantsStandIn t) = true := by kernel_rfl
  have hm : t ∈ Tryd.f3.params.toList := List.mem_iff_getElem?.2 ⟨j, by rw [Array.getElem?_toList]; exact ht⟩
  simpa using List.all_eq_true.1 hall t hm
theorem proved : Rows.TalkAnswersCardSaid :=
  Claim7.holds_tied_plain_at .later [] [.data, .data, .data, .data, .sentinel, .sentinel, .pinned] true (true, "3318ba62a67284476a4827d48af8198bb486228bf26673a61283f210fdbd14c1") true
    over (fun _ h => by cases h) (by kernel_rfl) (fun _ h => by cases h) talkAnswers_row_tie rfl ⟨rfl, rfl⟩ (by kernel_rfl) rfl stand (goesBy_none still rfl)
#print axioms proved
end Go.Proofs.YtbhadhmleemjnaaDoor.talkAnswers
namespace Go.Proofs.YtbhadhmleemjnaaDoor
/-- The row, under a short name, for the claim. -/
theorem talkAnswers_holds : Rows.TalkAnswersCardSaid := talkAnswers.proved
end Go.Proofs.YtbhadhmleemjnaaDoor
