/- Vi14: a region whose order is drawn. Vi15: code and calls. Vs0: the interpreter's equations in a form that simp can step through: the part that decides is looked at first, what follows is left alone until then. Vs1: operations without what the interpreter doesn't look at; guards by the slot that decides. Vs3: the interpreter's equations, without lambdas: simp goes from operation to operation. Vs4: equations of the other operations. Vs5: code with slim regions, and its equations. Vs6: the environment that a program gives: its types and functions, looked up in the program itself. Vs7: from the interpreter's equation to a Go call, where the arguments hold no pointers. Vs8: regions whose order is drawn, with slim operations. Vs9: a drawn region's operations, one equation for each kind. Vf0: the interpreter again, so laid that the kernel runs it fast: temporaries in a tree, small branches, what does not turn with the state set apart. -/
import Derived.Test.YtnhpmnafhamecaaDoorVgC
import Derived.LoopN
import Derived.Conc.LoneSelect
import Derived.Below
namespace Go.Vi
variable {K : Known}
section
variable {P : Program} {E : Env} {call : CallV} {ops : Array Oper} {T : Nat → Tmps} {H : Nat → Heap} {V : Nat → Value} {D : List Deferred} {rd : Option Nat}
theorem drawV_next (rk : RowOk K P E) (ck : CallOk K P call) {ops : Array Oper} : ∀ (r : List Oper) (j : Nat) (s : St) (hs : List Heap) (rs : List Seen) (s' : St) (hs' : List Heap) (rs' : List Seen), drawV E call ops r j s hs rs = some (s', hs', rs') → s.2.next ≤ s'.2.next := by
  intro r
  induction r with
  | nil => intro j s hs rs s' hs' rs' h; simp [drawV] at h; rw [h.1]; exact Nat.le_refl _
  | cons o r ih =>
    intro j s hs rs s' hs' rs' h
    simp only [drawV] at h
    split at h
    · split at h
      · rename_i v h1 hst
        have := stepV_next rk ck hst
        have := ih _ _ _ _ _ _ _ h
        simp only at this; omega
      · cases h
    · have := ih _ _ _ _ _ _ _ h; exact this

theorem mem_ready {listed : Array Bool} {i : Nat} (h : i ∈ Region.ready .any ops listed) (hsz : listed.size = ops.size) :
    i < ops.size ∧ listed[i]? = some false ∧ ∃ o, ops[i]? = some o ∧ ∀ e ∈ o.after.toList, Region.binds .any e = true → Lst listed e.on := by
  unfold Region.ready at h
  rw [List.mem_filter, List.mem_range] at h
  obtain ⟨h1, h2⟩ := h
  rw [Bool.and_eq_true] at h2
  have ho : ops[i]? = some ops[i] := Array.getElem?_eq_getElem h1
  refine ⟨h1, ?_, ops[i], ho, fun e he hb => ?_⟩
  · have h3 := h2.1
    rw [Array.getD_eq_getD_getElem?] at h3
    have : listed[i]? = some (listed[i]'(by omega)) := Array.getElem?_eq_getElem (by omega)
    rw [this] at h3 ⊢
    simpa using h3
  · have h3 := h2.2
    rw [ho] at h3
    simp only [Option.map_some, Option.getD_some] at h3
    have := Array.all_eq_true_iff_forall_mem.1 h3 e (by simpa using he)
    simp only [hb, Bool.not_true, Bool.false_or] at this
    unfold Lst
    rw [Array.getD_eq_getD_getElem?] at this
    cases hq : listed[e.on]? with
    | none => rw [hq] at this; simp at this
    | some b => rw [hq] at this; simp at this; rw [this]
theorem ready_of {listed : Array Bool} {i : Nat} {o : Oper} (ho : ops[i]? = some o) (hf : listed[i]? = some false) (he : ∀ e ∈ o.after.toList, Region.binds .any e = true → Lst listed e.on) : i ∈ Region.ready .any ops listed := by
  unfold Region.ready
  have hlt : i < ops.size := (Array.getElem?_eq_some_iff.1 ho).1
  rw [List.mem_filter, List.mem_range]
  refine ⟨hlt, ?_⟩
  rw [Bool.and_eq_true]
  refine ⟨by rw [Array.getD_eq_getD_getElem?, hf]; rfl, ?_⟩
  rw [ho]
  simp only [Option.map_some, Option.getD_some]
  rw [Array.all_eq_true_iff_forall_mem]
  intro e hm
  by_cases hb : Region.binds .any e = true
  · have := he e (by simpa using hm) hb
    unfold Lst at this
    rw [hb, Array.getD_eq_getD_getElem?, this]; rfl
  · simp [Bool.not_eq_true] at hb; simp [hb]
/-- where nothing is ready, all is done. -/
theorem all_done {listed : Array Bool} (hsz : listed.size = ops.size) (he : edgesOk ops = true) (h : Region.ready .any ops listed = []) : ∀ j, j < ops.size → Lst listed j := by
  intro j
  induction j using Nat.strongRecOn with
  | _ j ih =>
    intro hj
    have ho : ops[j]? = some ops[j] := Array.getElem?_eq_getElem hj
    have hl : listed[j]? = some (listed[j]'(by omega)) := Array.getElem?_eq_getElem (by omega)
    cases hb : listed[j]'(by omega) with
    | true => unfold Lst; rw [hl, hb]
    | false =>
      exfalso
      have : j ∈ Region.ready .any ops listed := by
        refine ready_of ho (by rw [hl, hb]) fun e hm hbi => ?_
        have hlt : e.on < j := by
          unfold edgesOk at he
          rw [List.all_eq_true] at he
          have := he (ops[j], j) (by
            rw [List.mem_iff_getElem?]
            exact ⟨j, by rw [List.getElem?_zipIdx, Array.getElem?_toList, ho]; simp⟩)
          simp only at this
          have := Array.all_eq_true_iff_forall_mem.1 this e (by simpa using hm)
          simpa [hbi] using this
        exact ih e.on hlt (by omega)
      rw [h] at this; cases this

theorem draw_sound (ko : TysOk P E) (mo : MethOk P E) (rk : RowOk K P E) (ck : CallOk K P call) {p : Plan} (hp : mkPlan ops = some p) (hok : ops.toList.all opOk = true) {s s' : St} {hs : List Heap} {rs : List Seen}
    (hd : drawV E call ops ops.toList 0 s [] [] = some (s', hs, rs)) (hrs : rs.all (seenOk E p hs) = true) {ρ : Map} {a : Act} {w : World} (sr : SRel K D ρ s a w) (win : Win ρ s.2 s'.2)
    {Q : Exit → Act → World → Prop} (kk : ∀ ρ' a' w', SRel K D ρ' s' a' w' → Stp ρ s.2 w ρ' s'.2 w' → Q .normal a' w') :
    wpAnyIn (W rd) 0 P .any ops Q ops.size (Array.replicate ops.size false) a w := by
  obtain ⟨T, H, V, hT0, hH0, tr, hTn, hHn, hhs, _, hread⟩ := drawV_trace ops.toList 0 s [] [] s' hs rs (by simp) (Nat.zero_le _) hd
  have pi := plan_is hp
  have hhs' : hs = (hidx ops).map H ++ [H ops.size] := by
    rw [hhs]; simp only [List.nil_append, Nat.sub_zero]
    unfold hidx; rw [List.range_eq_range']
  have hstage : ∀ k, k ≤ (hidx ops).length → hs[k]? = some (H (nx ops k)) := by
    intro k hk
    rw [hhs']
    by_cases hlt : k < (hidx ops).length
    · have h1 : (hidx ops)[k]? = some (hidx ops)[k] := List.getElem?_eq_getElem hlt
      rw [List.getElem?_append_left (by simpa using hlt), List.getElem?_map, h1, nx_some h1]; rfl
    · have : k = (hidx ops).length := by omega
      subst this
      rw [List.getElem?_append_right (by simp)]
      simp [nx]
  have g0 : Good K ρ (H 0) w := by rw [hH0]; exact sr.g
  have win0 : Win ρ (H 0) (H ops.size) := by rw [hH0, hHn]; exact win
  have start : Inv K E ops T H V D ρ w (fun _ => False) 0 ρ (T 0) a w := inv_start rk ck tr g0 win0 (by rw [hT0]; exact sr.t) sr.d
  -- what is owed at the end
  have finish : ∀ (L : Nat → Prop) k ρ1 TL a1 w1, Inv K E ops T H V D ρ w L k ρ1 TL a1 w1 → (∀ j, j < ops.size → L j) → Q .normal a1 w1 := by
    intro L k ρ1 TL a1 w1 iv hall
    have hk : k = (hidx ops).length := by
      rcases Nat.lt_or_ge k (hidx ops).length with h | h
      · have h1 : (hidx ops)[k]? = some (hidx ops)[k] := List.getElem?_eq_getElem h
        have := (iv.cnt k _ h1).1 (hall _ (hidx_mem h1).1); omega
      · have := iv.kle; omega
    have hnx : nx ops k = ops.size := by subst hk; simp [nx]
    have good := iv.good
    have vf := iv.vframe
    have de := iv.dead
    have fr := iv.fromN
    rw [hnx] at good vf de fr
    have htl : TL = T ops.size := by
      apply List.ext_getElem
      · rw [iv.tl, T_len tr _ (Nat.le_refl _)]
      · intro d h1 h2
        have hd0 : d < (T 0).length := by rw [← iv.tl]; exact h1
        have e := (iv.slot d hd0).uniq (slot_text tr hd0 ops.size (Nat.le_refl _)) (fun j o ho _ => by
          have : j < ops.size := (Array.getElem?_eq_some_iff.1 ho).1
          exact ⟨fun _ => this, fun _ => hall j this⟩)
        rw [List.getD_eq_getElem?_getD, List.getElem?_eq_getElem h1, List.getD_eq_getElem?_getD, List.getElem?_eq_getElem h2] at e
        simpa using e
    have es1 : s'.1 = T ops.size := hTn.symm
    have es2 : s'.2 = H ops.size := hHn.symm
    refine kk ρ1 a1 w1 ⟨by rw [es1, ← htl]; exact iv.trel, iv.d, by rw [es2]; exact good⟩ ?_
    rw [es2, ← hH0]
    have hle := next_le' rk ck tr (Nat.zero_le ops.size) (Nat.le_refl _)
    refine ⟨iv.ext, fun b h1 h2 => ?_, win0, hle, vf, de, iv.grow, iv.rframe, fr, iv.same⟩
    obtain ⟨j, _, hj, h3, h4⟩ := iv.dom b h1 h2
    have := next_le' rk ck tr (Nat.zero_le j) (Nat.le_of_lt hj)
    have := next_le' rk ck tr (show j + 1 ≤ ops.size by omega) (Nat.le_refl _)
    omega
  -- the step
  have go : ∀ (fuel : Nat) (listed : Array Bool), listed.size = ops.size → listed.toList.count false ≤ fuel →
      ∀ (k : Nat) (ρ1 : Map) (TL : Tmps) (a1 : Act) (w1 : World), DownC ops (Lst listed) → Inv K E ops T H V D ρ w (Lst listed) k ρ1 TL a1 w1 → wpAnyIn (W rd) 0 P .any ops Q fuel listed a1 w1 := by
    intro fuel
    induction fuel with
    | zero =>
      intro listed hsz hcnt k ρ1 TL a1 w1 dc iv
      have hall : ∀ j, j < ops.size → Lst listed j := by
        intro j hj
        have h1 : listed[j]? = some (listed[j]'(by omega)) := Array.getElem?_eq_getElem (by omega)
        unfold Lst
        rw [h1]
        cases hq : listed[j]'(by omega) with
        | true => rfl
        | false =>
          exfalso
          have h2 : false ∈ listed.toList := by rw [← hq]; simp
          have := List.count_pos_iff.2 h2
          omega
      refine ⟨?_, finish _ _ _ _ _ _ iv hall⟩
      cases hr : Region.ready .any ops listed with
      | nil => rfl
      | cons x l =>
        exfalso
        obtain ⟨h1, h2, _⟩ := mem_ready (ops := ops) (listed := listed) (i := x) (by rw [hr]; exact List.mem_cons_self) hsz
        have := hall x h1
        unfold Lst at this
        rw [h2] at this; cases this
    | succ fuel ih =>
      intro listed hsz hcnt k ρ1 TL a1 w1 dc iv
      refine ⟨fun hr => finish _ _ _ _ _ _ iv (all_done hsz pi.edges hr), fun i hir => ?_⟩
      obtain ⟨hlt, hf, o, ho, hb⟩ := mem_ready hir hsz
      have hni : ¬ Lst listed i := by unfold Lst; rw [hf]; simp
      have hlast := ready_last pi dc ho hni hb
      have hev := ready_ev pi dc ho hni hb tr iv
      have hev2 : ∀ x ∈ o.op.operands, evV (T i) x = evV TL x := fun x hx => (hev x hx).symm
      have hwt := ready_wanted pi dc ho hni hb tr iv
      have okk : opOk o = true := by
        rw [List.all_eq_true] at hok
        exact hok o (by rw [List.mem_iff_getElem?]; exact ⟨i, by rw [Array.getElem?_toList]; exact ho⟩)
      -- what is listed next
      have hsz' : (listed.setIfInBounds i true).size = ops.size := by rw [Array.size_setIfInBounds]; exact hsz
      have hL' : Lst (listed.setIfInBounds i true) = fun m => Lst listed m ∨ m = i := by
        funext m
        unfold Lst
        rw [Array.getElem?_setIfInBounds]
        by_cases hm : i = m
        · subst hm; rw [if_pos rfl, if_pos (by omega)]; simp
        · rw [if_neg hm]
          exact propext ⟨.inl, fun h => h.resolve_right (Ne.symm hm)⟩
      have hcnt' : (listed.setIfInBounds i true).toList.count false ≤ fuel := by
        have h1 : i < listed.toList.length := by simpa [hsz] using hlt
        have h2 : listed.toList[i] = false := by
          have := (Array.getElem?_eq_some_iff.1 hf).2
          simpa using this
        rw [Array.toList_setIfInBounds, List.count_set h1, h2]
        have h3 : false ∈ listed.toList := by rw [← h2]; exact List.getElem_mem h1
        have h4 := List.count_pos_iff.2 h3
        generalize List.count false listed.toList = c at hcnt h4 ⊢
        have e1 : (if (false == false) = true then 1 else 0) = 1 := rfl
        have e2 : (if (true == false) = true then 1 else 0) = 0 := rfl
        rw [e1, e2]; omega
      have dc' : DownC ops (fun m => Lst listed m ∨ m = i) := by
        intro j x hj hx e he hbi
        rcases hj with hj | hj
        · exact .inl (dc j x hj hx e he hbi)
        · subst hj; rw [ho] at hx; cases hx; exact .inl (hb e he hbi)
      have next : ∀ k' ρ' TL' a' w', Inv K E ops T H V D ρ w (fun m => Lst listed m ∨ m = i) k' ρ' TL' a' w' → wpAnyIn (W rd) 0 P .any ops Q fuel (listed.setIfInBounds i true) a' w' := by
        intro k' ρ' TL' a' w' iv'
        exact ih _ hsz' hcnt' k' ρ' TL' a' w' (by rw [hL']; exact dc') (by rw [hL']; exact iv')
      have he := iv.trel.ev
      have rw1 := ready_win ho hni rk ck tr win0 iv
      unfold wpOpIn
      simp only [ho]
      rw [← wanted_eq iv.trel, hwt]
      by_cases hw : wantedV ops o (T i) = true
      · rw [if_pos hw]
        refine ⟨fun _ _ => trivial, ?_⟩
        have hs := tr.run i o (Nat.zero_le _) ho hw
        rw [Oper.semAt_eq _ _ _ (opOk_defer okk), exec_eq okk]
        cases hh : heavyOp o with
        | true =>
          have hki := ready_heavy pi dc ho hni hb iv hh
          have hg := iv.good
          rw [nx_some hki] at hg
          obtain ⟨l1, l2, l3⟩ := light_no (E := E) (ev := evV (T i)) (hp := H i) hh
          unfold stepV at hs
          simp only [l1, l2, l3] at hs
          rw [heavy_congr hev2] at hs
          refine heavy_sound ko mo rk ck hg rw1 he hs (opOk_sel okk) fun w' ρ' v' rv g' st => ?_
          exact next _ _ _ _ _ (inv_heavy rk ck tr win0 g0.fresh iv ho hni hki hlast rv g' st)
        | false =>
          have hlight : heavyAt ops i = false := by unfold heavyAt; rw [ho]; exact hh
          unfold stepV at hs
          simp only at hs
          split at hs
          · rename_i v0 hp
            simp only [Option.some.injEq, Prod.mk.injEq] at hs
            rw [pure_congr hev2] at hp
            obtain ⟨v', rv, run⟩ := pure_sound (P := P) ko he hp
            rw [run]
            refine next _ _ _ _ _ (inv_value iv ho hni hlight (fun b hal => ?_) hlast (by rw [← hs.1]; exact rv))
            obtain ⟨o', _, h1, _, _, h2, _⟩ := hal
            rw [ho] at h1; cases h1
            rw [pure_congr hev2, hp] at h2; cases h2
          · rename_i hp
            split at hs
            · rename_i v0 hr
              simp only [Option.some.injEq, Prod.mk.injEq] at hs
              have hseen := hread i o (Nat.zero_le _) ⟨ho, hh, hw, hp, by rw [hr]; rfl⟩
              have hso := (List.all_eq_true.1 hrs) _ hseen
              unfold seenOk at hso
              simp only at hso
              have hlo := ready_lo pi dc ho hni hb iv
              have hhi := ready_hi pi dc ho hni hb iv
              have h1 := (List.all_eq_true.1 hso) (k - p.lo.getD i 0) (by rw [List.mem_range]; omega)
              rw [show p.lo.getD i 0 + (k - p.lo.getD i 0) = k by omega, hstage k iv.kle] at h1
              simp only at h1
              split at h1
              · rename_i v1 hr1
                have hv1 := veq_eq _ _ _ h1
                rw [read_congr hev2] at hr1
                obtain ⟨v', rv, run⟩ := read_sound (P := P) ko iv.good he hr1
                rw [run]
                refine next _ _ _ _ _ (inv_value iv ho hni hlight (fun b hal => ?_) hlast (by rw [← hv1]; exact rv))
                obtain ⟨o', _, h1, _, _, _, h2, _⟩ := hal
                rw [ho] at h1; cases h1
                rw [hr] at h2; cases h2
              · cases h1
            · rename_i hr
              split at hs
              · rename_i b m hn
                simp only [Option.some.injEq, Prod.mk.injEq] at hs
                have hal : Al E ops T H i b := ⟨o, m, ho, hh, hw, hp, hr, hn⟩
                rw [new_congr hev2] at hn
                obtain ⟨w', v', x, run, hi, hsz1, hold, hor, hv⟩ := (new_sound (P := P) ko he hn w1).out
                rw [run]
                refine next _ _ _ _ _ (inv_new rk ck tr win0 iv ho hni hlight hal (ready_light pi dc ho hni hb iv hh) hlast hi hsz1 hold hor fun ρ' hρ' => ?_)
                rw [← hs.1]
                exact hv ρ' _ hρ'
              · rw [heavy_no hh] at hs; cases hs
      · rw [if_neg hw]
        refine ⟨fun _ _ => trivial, ?_⟩
        obtain ⟨hv, hH⟩ := tr.off i o (Nat.zero_le _) ho (by simpa using hw)
        cases hh : heavyOp o with
        | true =>
          have hki := ready_heavy pi dc ho hni hb iv hh
          have hg := iv.good
          rw [nx_some hki] at hg
          refine next _ _ _ _ _ (inv_heavy (ρ' := ρ1) (w' := w1) rk ck tr win0 g0.fresh iv ho hni hki hlast (by rw [hv]; exact undef_rel) (by rw [hH]; exact hg) (by rw [hH]; exact .refl _ _ _))
        | false =>
          have hlight : heavyAt ops i = false := by unfold heavyAt; rw [ho]; exact hh
          refine next _ _ _ _ _ (inv_value iv ho hni hlight (fun b hal => ?_) hlast (by rw [hv]; exact undef_rel))
          obtain ⟨o', _, h1, _, h2, _⟩ := hal
          rw [ho] at h1; cases h1
          exact hw h2
  refine go ops.size (Array.replicate ops.size false) (by simp) (by rw [Array.toList_replicate]; exact Nat.le_trans List.count_le_length (by simp)) 0 ρ (T 0) a w (fun j o hj => ?_) ?_
  · unfold Lst at hj
    rw [Array.getElem?_replicate] at hj
    split at hj <;> cases hj
  · have e : Lst (Array.replicate ops.size false) = fun _ => False := by
      funext j
      unfold Lst
      rw [Array.getElem?_replicate]
      split <;> simp
    rw [e]; exact start
end
end Go.Vi
namespace Go.Vi
variable {K : Known}
def exitOf : Ex → Exit
  | .normal => .normal
  | .exit id => .exit id
  | .ret => .ret
structure FunOk (P : Program) (f : FuncId) (x : Fun) : Prop where
  fn : P.funcs[f]? = some x.fn
  body : x.fn.body = some x.body
  name : x.fn.name ≠ "runtime.NumGoroutine"
  plan : planOk x.plan x.body = true
  code : codeOk x.body = true
structure EnvOk (K : Known) (P : Program) (E : Env) : Prop where
  ty : TysOk P E
  meth : MethOk P E
  fn : ∀ f x, E.fn f = some x → FunOk P f x
  ext : ∀ f g, E.ext f = some g → ∀ args h v h', g args h = some (v, h') → Enters P f ∧ h.next ≤ h'.next ∧
    ∀ ρ w (args' : Array Value), Good K ρ h w → Win ρ h h' → VRels ρ args args'.toList → Calls P f args' w (Post K ρ h w v h')
  mixed : P.follows .mixedOrders = true
  row : RowOk K P E

/-! ## The marks among a frame's deferred calls -/
def markOf (r : Nat) : Deferred := { target := .collected r, args := #[] }
structure Marked (B : Nat) (D : List Deferred) (ρ : Map) (w : World) : Prop where
  ex : ∃ rs : List Nat, D = rs.map markOf ∧ rs.Nodup ∧ ∀ r ∈ rs, B ≤ r ∧ w.heap[r]? = some (.deferred (some [])) ∧ ∀ b i, ρ b = some i → i.blk ≠ r
  base : B ≤ w.heap.size
theorem Marked.nil {B : Nat} {ρ : Map} {w : World} (h : B ≤ w.heap.size) : Marked B [] ρ w := ⟨⟨[], rfl, List.nodup_nil, fun _ h => absurd h (by simp)⟩, h⟩
theorem heap_lt {w : World} {r : Nat} {o : Obj} (h : w.heap[r]? = some o) : r < w.heap.size := (Array.getElem?_eq_some_iff.1 h).1
theorem Marked.stp {B : Nat} {D : List Deferred} {ρ ρ' : Map} {h h' : Heap} {w w' : World} (m : Marked B D ρ w) (s : Stp ρ h w ρ' h' w') : Marked B D ρ' w' := by
  obtain ⟨⟨rs, hD, hnd, hall⟩, hb⟩ := m
  refine ⟨⟨rs, hD, hnd, fun r hr => ?_⟩, Nat.le_trans hb s.grow⟩
  obtain ⟨h1, h2, h3⟩ := hall r hr
  have hlt := heap_lt h2
  refine ⟨h1, by rw [s.rframe r hlt (fun b i hb _ => h3 b i hb)]; exact h2, fun b i hbi => ?_⟩
  cases hq : ρ b with
  | some i0 => have := s.ext _ _ hq; rw [hbi] at this; cases this; exact h3 b i hq
  | none =>
    rcases s.fromN b i hq hbi with h4 | ⟨c, j, hc, _, _, he⟩
    · omega
    · rw [← he]; exact h3 c j hc
theorem Marked.push {B : Nat} {D : List Deferred} {ρ : Map} {w : World} {r : Nat} (m : Marked B D ρ w) (hB : B ≤ r) (hr : w.heap[r]? = some (.deferred (some []))) (hn : ∀ b i, ρ b = some i → i.blk ≠ r)
    (hd : ∀ q, markOf q ∈ D → q ≠ r) : Marked B (markOf r :: D) ρ w := by
  obtain ⟨⟨rs, hD, hnd, hall⟩, hb⟩ := m
  refine ⟨⟨r :: rs, by rw [hD]; rfl, ?_, fun q hq => ?_⟩, hb⟩
  · refine List.nodup_cons.2 ⟨fun hm => ?_, hnd⟩
    exact hd r (by rw [hD]; exact List.mem_map.2 ⟨r, hm, rfl⟩) rfl
  · rcases List.mem_cons.1 hq with rfl | hq
    · exact ⟨hB, hr, hn⟩
    · exact hall q hq

theorem trel_rels {ρ : Map} {t : Tmps} {a : Act} (h : TRel ρ t a) : VRels ρ t a.tmps.toList := by
  refine .of_get (by rw [h.1]; simp) fun j v v' h1 h2 => ?_
  have := h.2 j
  rw [List.getD_eq_getElem?_getD, h1, Array.getD_eq_getD_getElem?, ← Array.getElem?_toList, h2] at this
  exact this
theorem trel_of {ρ : Map} {t : Tmps} {a : Act} (hall : VRels ρ t a.tmps.toList) : TRel ρ t a := by
  refine ⟨by rw [hall.1]; simp, fun i => ?_⟩
  rw [List.getD_eq_getElem?_getD, Array.getD_eq_getD_getElem?]
  cases hx : t[i]? with
  | none =>
    have : a.tmps[i]? = none := by
      rw [← Array.getElem?_toList, List.getElem?_eq_none_iff, ← hall.1]
      exact List.getElem?_eq_none_iff.1 hx
    rw [this]; exact undef_rel
  | some v =>
    obtain ⟨v', hv', rv⟩ := hall.get hx
    rw [Array.getElem?_toList] at hv'
    rw [hv']; exact rv
theorem rels_set {ρ : Map} {l l' : List Value} (h : VRels ρ l l') (n : Nat) {v v' : Value} (hv : VRel ρ v v') : VRels ρ (l.set n v) (l'.set n v') := by
  refine .of_get (by simp [h.1]) fun j x x' h1 h2 => ?_
  rw [List.getElem?_set] at h1 h2
  split at h1
  · rename_i e
    subst e
    rw [if_pos rfl] at h2
    split at h1
    · split at h2
      · cases h1; cases h2; exact hv
      · cases h2
    · cases h1
  · rename_i e
    rw [if_neg e] at h2
    obtain ⟨u, hu, hr⟩ := h.get h1
    rw [hu] at h2; cases h2; exact hr
theorem setAll_rels {ρ : Map} : ∀ (ps : List Tmp) (l l' : List Value) (t : List Value) (T : Array Value), VRels ρ l l' → VRels ρ t T.toList →
    VRels ρ (setAll (ps.zip l) t) ((ps.zip l').foldl (fun tmps (p : Tmp × Value) => tmps.setIfInBounds p.1 p.2) T).toList := by
  intro ps
  induction ps with
  | nil => intro l l' t T _ ht; exact ht
  | cons p ps ih =>
    intro l l' t T hl ht
    cases l with
    | nil => have := hl.nil_inv; subst this; exact ht
    | cons v l =>
      obtain ⟨v', r', rfl, hv, hr⟩ := hl.cons_inv
      simp only [List.zip_cons_cons, setAll, List.foldl_cons]
      exact ih _ _ _ _ hr (by rw [Array.toList_setIfInBounds]; exact rels_set ht _ hv)

section
variable {P : Program} {E : Env} {call : CallV} {D : List Deferred} {rd : Option Nat} {B : Nat}
theorem region_next (rk : RowOk K P E) (ck : CallOk K P call) {pl : Option Plan} {ops : Array Oper} {draw : Bool} {s s' : St} (h : regionV E call pl ops draw s = some s') : s.2.next ≤ s'.2.next := by
  unfold regionV at h
  split at h
  · split at h
    · cases h
    · split at h
      · rename_i s2 hs rs hd
        split at h
        · cases h; exact drawV_next rk ck _ _ _ _ _ _ _ _ hd
        · cases h
      · cases h
  · exact opsV_next rk ck _ _ _ h
open Go.Conc in
theorem putObj_setChan (w : World) (r cap : Nat) (buf : Array Value) (s n : Nat) : w.setChan r cap buf false s n false = w.putObj r (.chan cap buf false s n false) := rfl
/-- a step of the machine at a select of one case: what comes of it. -/
theorem sel_out (ko : TysOk P E) {ρ : Map} {t : Tmps} {h h1 : Heap} {a : Act} {w : World} (g : Good K ρ h w) (tr : TRel ρ t a) {o : Oper} {cs : Array SelectCase} {bl : Bool} (hsel : o.op = .select cs bl)
    (hop : o.op.operands.all okOperand = true) {v : Value} (hs : selV E (evV t) h cs bl = some (v, h1)) :
    ∃ (cc : CommCase) (v' : Value) (w' : World), (execOp a.eval o).run P w = .ok (.comm #[cc] false .select) w ∧ VRel ρ v v' ∧ Good K ρ h1 w' ∧ Stp ρ h w ρ h1 w' ∧
      ∀ (fr : Frame) (fs : List Frame) (es : Array Event), stepG P true { frame := fr, callers := fs, status := .running, dying := none } w = .comm { frame := fr, callers := fs, status := .running, dying := none } #[cc] false .select w es →
        step P (lone fr fs w) = .next (lone (fr.finish v') fs w') := by
  obtain ⟨dst, op, ty, pos, after, guard⟩ := o
  simp only at hsel
  subst hsel
  unfold selV at hs
  split at hs
  · rename_i c hcs
    replace hs := bind_some.1 hs; obtain ⟨i, hi, hs⟩ := hs
    replace hs := bind_some.1 hs; obtain ⟨z, hz, hs⟩ := hs
    have hcs' : cs = #[c] := Array.ext' (by rw [hcs])
    subst hcs'
    have hall := Array.all_eq_true_iff_forall_mem.1 hop
    have hm1 : okOperand c.chan = true := hall _ (by simp [Op.operands])
    have hm2 : ∀ x, c.send = some x → okOperand x = true := fun x hx => hall _ (by simp [Op.operands, hx])
    have hzr := zero_rel (ρ := ρ) (ko _ _ hi) hz
    split at hs
    · rename_i r0 hcv
      have hc := tr.ev c.chan
      rw [hcv, ← eval_ok hm1] at hc
      generalize hy : a.eval c.chan = y at hc
      cases hc with
      | chan _ q hq =>
      split at hs
      · rename_i cp buf hget
        obtain ⟨buf', sn, rc, hw, hrel⟩ := g.rel _ _ _ hq hget
        have hsz : buf'.size = buf.length := by rw [hrel.1]; simp
        have hrun : (execOp a.eval ⟨dst, .select #[c] false, ty, pos, after, guard⟩).run P w = .ok (.comm #[{ chan := .chan (some q.blk), send := c.send.map a.eval, zero := z }] false .select) w := by
          simp [execOp, hy, run_zero (ko _ _ hi) hz]
        split at hs
        · rename_i x hx
          have hxr := tr.ev x
          rw [← eval_ok (hm2 x hx)] at hxr
          rw [hx] at hrun
          split at hs
          · rename_i hlt
            cases hs
            obtain ⟨g', s'⟩ := set_obj (o := .chan cp (buf'.push (a.eval x)) false (sn + 1) rc false) (x := .chan cp (buf ++ [evV t x])) g hq (by rw [hget]; simp)
              ⟨_, _, _, World.putObj_heap_same (g.lt _ _ hq), by rw [Array.toList_push]; exact hrel.append (.cons hxr .nil)⟩
            refine ⟨_, _, _, hrun, plain_rel 3 (.tuple #[goInt 0, .bool false]) rfl, g', s', fun fr fs es he => ?_⟩
            exact Go.Conc.step_lone_select_send_room he hw (by omega)
          · rename_i hge
            cases hs
            refine ⟨_, _, w, hrun, plain_rel 3 (.tuple #[goInt (-1), .bool false]) rfl, g, .refl _ _ _, fun fr fs es he => ?_⟩
            exact Go.Conc.step_lone_select_send_full he hw (by omega)
        · rename_i hx
          rw [hx] at hrun
          split at hs
          · rename_i u r' 
            cases hs
            obtain ⟨u', b', hb', hu, hr'⟩ := hrel.cons_inv
            have hbe : buf' = (u' :: b').toArray := Array.ext' (by rw [hb'])
            subst hbe
            obtain ⟨g', s'⟩ := set_obj (o := .chan cp b'.toArray false sn (rc + 1) false) (x := .chan cp r') g hq (by rw [hget]; simp)
              ⟨_, _, _, World.putObj_heap_same (g.lt _ _ hq), hr'⟩
            refine ⟨_, .tuple #[goInt 0, .bool true, u'], _, hrun, .tuple _ _ rfl (fun j h1 h2 => ?_), g', s', fun fr fs es he => ?_⟩
            · match j, h1 with
              | 0, _ => exact .int _ _
              | 1, _ => exact .bool _
              | 2, _ => exact hu
            · have := Go.Conc.step_lone_select_recv_buf he hw (by simp)
              have e1 : (u' :: b').toArray.extract 1 (u' :: b').toArray.size = b'.toArray := by
                apply Array.ext'; simp [List.take_of_length_le]
              rw [e1] at this
              exact this
          · cases hs
            have hb0 := hrel.nil_inv
            have hbe : buf' = #[] := Array.ext' hb0
            subst hbe
            refine ⟨_, .tuple #[goInt (-1), .bool false, z], w, hrun, .tuple _ _ rfl (fun j h1 h2 => ?_), g, .refl _ _ _, fun fr fs es he => ?_⟩
            · match j, h1 with
              | 0, _ => exact .int _ _
              | 1, _ => exact .bool _
              | 2, _ => exact hzr
            · exact Go.Conc.step_lone_select_default he hw
      · cases hs
    · cases hs
  · cases hs
theorem select_head (ko : TysOk P E) (mo : MethOk P E) (rk : RowOk K P E) (ck : CallOk K P call) {ops : Array Oper} (hh : selHead ops = true) {s s' : St} {ρ : Map} {a : Act} {w : World} (h : opsV E call ops ops.toList s = some s')
    (sr : SRel K D ρ s a w) (win : Win ρ s.2 s'.2) {id : Nat} {Q : Exit → Act → World → Prop} (k : ∀ ρ' a' w', SRel K D ρ' s' a' w' → Stp ρ s.2 w ρ' s'.2 w' → Q .normal a' w') : (Code.region id ops false).wpIn (W rd) 0 P Q a w := by
  unfold selHead at hh
  split at hh
  · rename_i o r hops
    simp only [Bool.and_eq_true] at hh
    obtain ⟨⟨⟨h1, h2⟩, h3⟩, h4⟩ := hh
    obtain ⟨cs, bl, hsel⟩ : ∃ cs bl, o.op = .select cs bl := by
      cases hop : o.op <;> rw [hop] at h1 <;> simp at h1
      exact ⟨_, _, rfl⟩
    have hgd : o.guard = none := by simpa using h3
    have hwv : wantedV ops o s.1 = true := by unfold wantedV; rw [hgd]
    have hw : Region.wanted o (yielded ops a.tmps) = true := by rw [← wanted_eq sr.t]; exact hwv
    have hheavy : heavyOp o = true := by unfold heavyOp; rw [hsel]
    rw [hops] at h
    unfold opsV at h
    rw [if_pos hwv] at h
    split at h
    · rename_i v h1' hst
      unfold stepV at hst
      obtain ⟨l1, l2, l3⟩ := light_no (E := E) (ev := evV s.1) (hp := s.2) hheavy
      simp only [l1, l2, l3] at hst
      have hst' : selV E (evV s.1) s.2 cs bl = some (v, h1') := by
        unfold heavyV at hst
        rw [hsel] at hst
        exact hst
      obtain ⟨cc, v', w', hrun, rv, g', st, hstep⟩ := sel_out ko sr.g sr.t hsel h2 hst'
      have sr1 : SRel K D ρ (putV s.1 o.dst v, h1') (a.put o.dst v') w' := ⟨sr.t.put rv o.dst, by rw [put_defers]; exact sr.d, g'⟩
      have hn := opsV_next rk ck _ _ _ h
      simp only at hn
      have hl : wpListIn (W rd) 0 P ops Q r (a.put o.dst v') w' :=
        ops_sound ko mo rk ck _ _ _ _ _ _ h h4 sr1 (win.sub st (Nat.le_refl _)) fun ρ2 a2 w2 sr2 st2 => k ρ2 a2 w2 sr2 (Stp.trans sr.g.fresh g'.fresh st st2)
      have hsz : ops.size = r.length + 1 := by rw [← Array.length_toList, hops]; rfl
      have ho : ops[0]? = some o := by rw [← Array.getElem?_toList, hops]; rfl
      have hl2 : wpOpsIn (W rd) 0 P ops Q (List.range' 1 r.length) (a.put o.dst v') w' := by
        rw [wpOpsIn_eq_wpListIn r 1 (fun j => by rw [← Array.getElem?_toList, hops, Nat.add_comm, List.getElem?_cons_succ])]
        exact hl
      intro b kk fs hro hb hr
      obtain ⟨e, a2, w2, hq, harr⟩ := wp_opsIn _ _ _ hl2 b kk fs hro hb hr
      have hrange : List.range ops.size = 0 :: List.range' 1 r.length := by rw [hsz, List.range_eq_range', List.range'_succ]
      have s1 := stepR_region (P := P) (b := b) (a := a) (k := kk) (cs := fs) (w := w) (ops := ops) (id := id)
      rw [hrange] at s1
      have hg := stepGR_op (P := P) (b := b) (a := a) (k := kk) (cs := fs) (w := w) (rest := List.range' 1 r.length) ho hw
      rw [Oper.semAt_eq _ _ _ (by intro c hc; rw [hsel] at hc; cases hc)] at hg
      obtain ⟨es, hg2⟩ : ∃ es, stepG P true { frame := b.atR a (.inRegion ops (0 :: List.range' 1 r.length) :: kk), callers := fs, status := .running, dying := none } w =
          .comm { frame := b.atR a (.inRegion ops (0 :: List.range' 1 r.length) :: kk), callers := fs, status := .running, dying := none } #[cc] false .select w es := by
        rw [hg]
        simp only [stepG.apply, Sem.runT_eq, hrun, GStep.after, if_true]
        exact ⟨_, rfl⟩
      have s2 := hstep _ _ _ hg2
      rw [Frame.finish_atR, ho] at s2
      refine ⟨e, a2, w2, hq, .of_steps (.head ?_ s1 (.one ?_ s2)) harr⟩
      · exact fenced_calm hb hr rfl
      · exact fenced_oper hb hr ho fun f hf => by simp [Oper.about, hsel] at hf
    · cases h
  · cases hh
theorem region_sound (ko : TysOk P E) (mo : MethOk P E) (mx : P.follows .mixedOrders = true) (rk : RowOk K P E) (ck : CallOk K P call) {id : Nat} {pl : Option Plan} {ops : Array Oper} {draw : Bool} {s s' : St} (h : regionV E call pl ops draw s = some s')
    (hok : (ops.toList.all opOk || (!draw && selHead ops)) = true) (hpl : (!draw || planFor pl ops) = true) {ρ : Map} {a : Act} {w : World} (sr : SRel K D ρ s a w) (win : Win ρ s.2 s'.2)
    {Q : Exit → Act → World → Prop} (k : ∀ ρ' a' w', SRel K D ρ' s' a' w' → Stp ρ s.2 w ρ' s'.2 w' → Q .normal a' w') : (Code.region id ops draw).wpIn (W rd) 0 P Q a w := by
  unfold regionV at h
  cases draw with
  | false =>
    simp only [Bool.false_eq_true, if_false] at h
    rcases Bool.or_eq_true_iff.1 hok with hok | hok
    · exact wpIn_region_list (ops_sound ko mo rk ck _ _ _ _ _ _ h hok sr win k)
    · exact select_head ko mo rk ck (by simpa using hok) h sr win k
  | true =>
    have hok : ops.toList.all opOk = true := by simpa using hok
    simp only [if_true] at h
    split at h
    · cases h
    · rename_i p
      have hm : mkPlan ops = some p := by simpa [planFor] using hpl
      split at h
      · rename_i s2 hs rs hd
        split at h
        · rename_i hall
          cases h
          refine wpIn_region_any mx ?_
          have srd : SRel K D ρ s a w.drew := ⟨sr.t, sr.d, rdN_drew sr.g⟩
          exact draw_sound ko mo rk ck hm hok hd hall srd win fun ρ' a' w' sr' st => k ρ' a' w' sr' (stp_drew st)
        · cases h
      · cases h

theorem iter_next {f : St → Option (Ex × St)} (hf : ∀ s x s', f s = some (x, s') → s.2.next ≤ s'.2.next) : ∀ (n : Nat) (s : St) (x : Ex) (s' : St), iterV f n s = some (x, s') → s.2.next ≤ s'.2.next := by
  intro n
  induction n with
  | zero => intro s x s' h; simp [iterV] at h
  | succ n ih =>
    intro s x s' h
    unfold iterV at h
    split at h
    · rename_i s1 h1
      have := hf _ _ _ h1
      have := ih _ _ _ h
      omega
    · exact hf _ _ _ h
theorem code_next (rk : RowOk K P E) (ck : CallOk K P call) {pl : Nat → Option Plan} {fuel : Nat} : ∀ (c : Code) (s : St) (x : Ex) (s' : St), codeV E call pl fuel c s = some (x, s') → s.2.next ≤ s'.2.next := by
  intro c
  induction c with
  | skip => intro s x s' h; simp [codeV] at h; rw [h.2]; exact Nat.le_refl _
  | region id ops draw =>
    intro s x s' h
    simp only [codeV, Option.map_eq_some_iff] at h
    obtain ⟨s1, h1, h2⟩ := h
    cases h2
    exact region_next rk ck h1
  | seq a b iha ihb =>
    intro s x s' h
    simp only [codeV] at h
    split at h
    · rename_i s1 h1
      have := iha _ _ _ h1
      have := ihb _ _ _ h
      omega
    · exact iha _ _ _ h
  | cond c a b iha ihb =>
    intro s x s' h
    simp only [codeV] at h
    split at h
    · exact iha _ _ _ h
    · exact ihb _ _ _ h
    · cases h
  | block id b ih =>
    intro s x s' h
    simp only [codeV] at h
    split at h
    · rename_i i s1 h1
      split at h <;> cases h <;> exact ih _ _ _ h1
    · exact ih _ _ _ h
  | loop b ih => intro s x s' h; simp only [codeV] at h; exact iter_next ih _ _ _ _ h
  | exit id => intro s x s' h; simp [codeV] at h; rw [h.2]; exact Nat.le_refl _
  | ret => intro s x s' h; simp [codeV] at h; rw [h.2]; exact Nat.le_refl _
  | rangeFunc f ps a b _ _ =>
    intro s x s' h
    simp only [codeV] at h
    split at h
    · cases h
    · split at h
      · split at h
        · rename_i u h2 hcall
          split at h
          · split at h
            · cases h
            · obtain ⟨x0, hx0, he⟩ := Option.map_eq_some_iff.1 h
              cases he
              have := ck.next _ _ _ _ _ hcall
              have e1 : (s.2.new (.loop { st := .ready, pending := none, tmps := s.1, params := ps, assign := a, body := b, plan := pl })).next = s.2.next + 1 := rfl
              show s.2.next ≤ h2.next
              omega
          · cases h
        · cases h
      · cases h
  | scope b _ => intro s x s' h; simp [codeV] at h
  | label l => intro s x s' h; simp [codeV] at h
  | goto l => intro s x s' h; simp [codeV] at h
  | refuse w => intro s x s' h; simp [codeV] at h

theorem cond_val {ρ : Map} {s : St} {a : Act} (tr : TRel ρ s.1 a) {c : Operand} (hok : okOperand c = true) {b : Bool} (h : evV s.1 c = .bool b) : a.eval c = .bool b := by
  have := tr.ev c
  rw [h] at this
  rw [eval_ok hok]
  exact this.bool_inv
theorem code_sound (ko : TysOk P E) (mo : MethOk P E) (mx : P.follows .mixedOrders = true) (rk : RowOk K P E) (ck : CallOk K P call) {pl : Nat → Option Plan} {fuel : Nat} :
    ∀ (c : Code) (s : St) (x : Ex) (s' : St), codeV E call pl fuel c s = some (x, s') → codeOk c = true → planOk pl c = true → (rd = none ∨ flat c = true) → ∀ (D : List Deferred) (ρ : Map) (a : Act) (w : World), SRel K D ρ s a w → Marked B D ρ w → Win ρ s.2 s'.2 →
      ∀ {Q : Exit → Act → World → Prop}, (∀ D' ρ' a' w', SRel K D' ρ' s' a' w' → Marked B D' ρ' w' → Stp ρ s.2 w ρ' s'.2 w' → Q (exitOf x) a' w') → c.wpIn (W rd) 0 P Q a w := by
  intro c
  induction c with
  | skip =>
    intro s x s' h _ _ _ D ρ a w sr mk win Q k
    simp [codeV] at h
    obtain ⟨rfl, rfl⟩ := h
    exact wpIn_skip (k D ρ a w sr mk (.refl _ _ _))
  | exit id =>
    intro s x s' h _ _ _ D ρ a w sr mk win Q k
    simp [codeV] at h
    obtain ⟨rfl, rfl⟩ := h
    exact wpIn_exit (k D ρ a w sr mk (.refl _ _ _))
  | ret =>
    intro s x s' h _ _ _ D ρ a w sr mk win Q k
    simp [codeV] at h
    obtain ⟨rfl, rfl⟩ := h
    exact wpIn_ret (k D ρ a w sr mk (.refl _ _ _))
  | region id ops draw =>
    intro s x s' h hc hp _ D ρ a w sr mk win Q k
    simp only [codeV, Option.map_eq_some_iff] at h
    obtain ⟨s1, h1, h2⟩ := h
    cases h2
    exact region_sound ko mo mx rk ck h1 hc hp sr win fun ρ' a' w' sr' st' => k D ρ' a' w' sr' (mk.stp st') st'
  | seq a b iha ihb =>
    intro s x s' h hc hp hf D ρ ac w sr mk win Q k
    simp only [codeOk, Bool.and_eq_true] at hc
    simp only [planOk, Bool.and_eq_true] at hp
    simp only [flat, Bool.and_eq_true] at hf
    simp only [codeV] at h
    refine wpIn_seq ?_
    split at h
    · rename_i s1 h1
      have hn := code_next rk ck _ _ _ _ h
      refine iha _ _ _ h1 hc.1 hp.1 (hf.imp id (·.1)) D ρ ac w sr mk (fun b q1 q2 => win b q1 (by omega)) fun D1 ρ1 a1 w1 sr1 mk1 st1 => ?_
      refine ihb _ _ _ h hc.2 hp.2 (hf.imp id (·.2)) D1 ρ1 a1 w1 sr1 mk1 (win.sub st1 (Nat.le_refl _)) fun D2 ρ2 a2 w2 sr2 mk2 st2 => ?_
      exact k D2 ρ2 a2 w2 sr2 mk2 (Stp.trans sr.g.fresh sr1.g.fresh st1 st2)
    · rename_i hne
      refine iha _ _ _ h hc.1 hp.1 (hf.imp id (·.1)) D ρ ac w sr mk win fun D1 ρ1 a1 w1 sr1 mk1 st1 => ?_
      cases x with
      | normal => exact absurd h (hne s')
      | exit id => exact k D1 ρ1 a1 w1 sr1 mk1 st1
      | ret => exact k D1 ρ1 a1 w1 sr1 mk1 st1
  | cond c a b iha ihb =>
    intro s x s' h hc hp hf D ρ ac w sr mk win Q k
    simp only [codeOk, Bool.and_eq_true] at hc
    simp only [planOk, Bool.and_eq_true] at hp
    simp only [flat, Bool.and_eq_true] at hf
    simp only [codeV] at h
    split at h
    · rename_i hv
      exact wpIn_cond_true (cond_val sr.t hc.1.1 hv) (iha _ _ _ h hc.1.2 hp.1 (hf.imp id (·.1)) D ρ ac w sr mk win k)
    · rename_i hv
      exact wpIn_cond_false (cond_val sr.t hc.1.1 hv) (ihb _ _ _ h hc.2 hp.2 (hf.imp id (·.2)) D ρ ac w sr mk win k)
    · cases h
  | block id b ih =>
    intro s x s' h hc hp hf D ρ a w sr mk win Q k
    simp only [codeV] at h
    refine wpIn_block ?_
    split at h
    · rename_i i s1 h1
      split at h
      · rename_i hi
        cases h
        refine ih _ _ _ h1 hc hp hf D ρ a w sr mk win fun D1 ρ1 a1 w1 sr1 mk1 st1 => ?_
        simp only [exitOf, Exit.inBlock]
        rw [if_pos hi]
        exact k D1 ρ1 a1 w1 sr1 mk1 st1
      · rename_i hi
        cases h
        refine ih _ _ _ h1 hc hp hf D ρ a w sr mk win fun D1 ρ1 a1 w1 sr1 mk1 st1 => ?_
        simp only [exitOf, Exit.inBlock]
        rw [if_neg hi]
        exact k D1 ρ1 a1 w1 sr1 mk1 st1
    · rename_i hne
      refine ih _ _ _ h hc hp hf D ρ a w sr mk win fun D1 ρ1 a1 w1 sr1 mk1 st1 => ?_
      cases x with
      | normal => exact k D1 ρ1 a1 w1 sr1 mk1 st1
      | exit i => exact absurd h (hne i s')
      | ret => exact k D1 ρ1 a1 w1 sr1 mk1 st1
  | loop b ih =>
    intro s x s' h hc hp hf D ρ a w sr mk win Q k
    simp only [codeV] at h
    refine wpIn_loop_rounds fuel ?_
    have key : ∀ (n : Nat) (s : St), iterV (codeV E call pl fuel b) n s = some (x, s') → ∀ (D : List Deferred) (ρ : Map) (a : Act) (w : World), SRel K D ρ s a w → Marked B D ρ w → Win ρ s.2 s'.2 →
        (∀ D' ρ' a' w', SRel K D' ρ' s' a' w' → Marked B D' ρ' w' → Stp ρ s.2 w ρ' s'.2 w' → Q (exitOf x) a' w') → Code.roundsIn (W rd) 0 P b Q n a w := by
      intro n
      induction n with
      | zero => intro s h; simp [iterV] at h
      | succ n ihn =>
        intro s h D ρ a w sr mk win k
        rw [roundsIn_succ]
        unfold iterV at h
        split at h
        · rename_i s1 h1
          have hn := iter_next (fun s x s' h => code_next rk ck b s x s' h) _ _ _ _ h
          refine ih _ _ _ h1 hc hp hf D ρ a w sr mk (fun b q1 q2 => win b q1 (by omega)) fun D1 ρ1 a1 w1 sr1 mk1 st1 => ?_
          exact ihn s1 h D1 ρ1 a1 w1 sr1 mk1 (win.sub st1 (Nat.le_refl _)) fun D2 ρ2 a2 w2 sr2 mk2 st2 => k D2 ρ2 a2 w2 sr2 mk2 (Stp.trans sr.g.fresh sr1.g.fresh st1 st2)
        · rename_i hne
          refine ih _ _ _ h hc hp hf D ρ a w sr mk win fun D1 ρ1 a1 w1 sr1 mk1 st1 => ?_
          cases x with
          | normal => exact absurd h (hne s')
          | exit i => exact k D1 ρ1 a1 w1 sr1 mk1 st1
          | ret => exact k D1 ρ1 a1 w1 sr1 mk1 st1
    exact key fuel s h D ρ a w sr mk win k
  | rangeFunc g ps a b _ _ =>
    intro s x s' h hc hp hf D ρ ac w sr mk win Q k
    simp only [codeOk, Bool.and_eq_true] at hc
    simp only [planOk, Bool.and_eq_true] at hp
    have hrd : rd = none := by
      rcases hf with h | h
      · exact h
      · simp [flat] at h
    subst hrd
    simp only [codeV] at h
    split at h
    · cases h
    · rename_i hflat
      have hfa : flat a = true ∧ flat b = true := by simpa using hflat
      split at h
      · rename_i f first captured hev
        split at h
        · rename_i u h2 hcall
          split at h
          · rename_i r hr2
            split at h
            · cases h
            · rename_i hbusy
              obtain ⟨x0, hx0, he⟩ := Option.map_eq_some_iff.1 h
              cases he
              have hn2 := ck.next _ _ _ _ _ hcall
              have hn2' : s.2.next + 1 ≤ h2.next := hn2
              have hwin2 : h2.next = (h2.set s.2.next (.loop { r with st := .exhausted })).next := rfl
              have hn : ρ s.2.next = none := win _ (Nat.le_refl _) (by show s.2.next < h2.next; omega)
              -- the function's value
              have hge := sr.t.ev g
              rw [hev, ← eval_ok hc.1.1] at hge
              cases hge' : ac.eval g <;> rw [hge'] at hge <;> cases hge
              rename_i l' c' hl hlr kl klr
              refine wpIn_rangeFunc fun fn _ => ?_
              obtain ⟨ga, sa⟩ := step_grow (w' := w.alloc (.deferred (some []))) sr.g ⟨by rw [World.size_alloc]; omega, rfl, rfl⟩ (fun r hr => alloc_old w _ r hr)
              have horel : ∀ ρ' : Map, Ext ρ ρ' → ORel ρ' (.loop { st := .ready, pending := none, tmps := s.1, params := ps, assign := a, body := b, plan := pl }) { blk := w.heap.size + 1, base := 0, opn := none, tot := 0 }
                  ((w.alloc (.deferred (some []))).alloc (.loop { state := .ready, pending := none, fn, tmps := ac.tmps, params := ps, assign := a, body := b, defers := w.heap.size })) := by
                intro ρ' e
                refine ⟨rfl, hc.1.2, hc.2, hp.1, hp.2, hfa.1, hfa.2, { state := .ready, pending := none, fn, tmps := ac.tmps, params := ps, assign := a, body := b, defers := w.heap.size }, ?_, rfl, rfl, rfl, rfl, rfl, (trel_rels sr.t).ext e⟩
                have := alloc_new (w.alloc (.deferred (some []))) (.loop { state := .ready, pending := none, fn, tmps := ac.tmps, params := ps, assign := a, body := b, defers := w.heap.size })
                rw [World.size_alloc] at this
                exact this
              obtain ⟨gb, sb⟩ := step_new (i := { blk := w.heap.size + 1, base := 0, opn := none, tot := 0 })
                (w' := (w.alloc (.deferred (some []))).alloc (.loop { state := .ready, pending := none, fn, tmps := ac.tmps, params := ps, assign := a, body := b, defers := w.heap.size })) ga hn
                (by rw [World.size_alloc]) ⟨by rw [World.size_alloc], rfl, rfl⟩ (fun r hr => alloc_old _ _ r hr) (horel _ (upd_ext _ hn))
              have e0 := upd_ext (ρ := ρ) { blk := w.heap.size + 1, base := 0, opn := none, tot := 0 } hn
              have hmk : Marked B (markOf w.heap.size :: D) (upd ρ s.2.next { blk := w.heap.size + 1, base := 0, opn := none, tot := 0 })
                  ((w.alloc (.deferred (some []))).alloc (.loop { state := .ready, pending := none, fn, tmps := ac.tmps, params := ps, assign := a, body := b, defers := w.heap.size })) := by
                refine ((mk.stp sa).stp sb).push mk.base ?_ (fun c i hci => ?_) (fun q hq => ?_)
                · rw [alloc_old _ _ _ (by rw [World.size_alloc]; omega)]; exact alloc_new w _
                · unfold upd at hci
                  split at hci
                  · cases hci; simp
                  · have := sr.g.lt _ _ hci; omega
                · obtain ⟨⟨rs, hD, _, hall⟩, _⟩ := mk
                  rw [hD] at hq
                  obtain ⟨q', hq', he⟩ := List.mem_map.1 hq
                  cases he
                  have := heap_lt (hall q hq').2.1
                  omega
              have hwin : Win (upd ρ s.2.next { blk := w.heap.size + 1, base := 0, opn := none, tot := 0 }) (s.2.new (.loop { st := .ready, pending := none, tmps := s.1, params := ps, assign := a, body := b, plan := pl })) h2 := by
                intro c q1 q2
                have q1' : s.2.next + 1 ≤ c := q1
                unfold upd
                rw [if_neg (by omega)]
                exact win c (by omega) (by show c < h2.next; exact q2)
              have hall : VRels (upd ρ s.2.next { blk := w.heap.size + 1, base := 0, opn := none, tot := 0 }) (first.toList ++ [Value.func (.yield s.2.next) #[] #[]] ++ captured.toList)
                  ((l' ++ #[Value.func (.yield (w.heap.size + 1)) #[] #[]]) ++ c').toList := by
                rw [Array.toList_append, Array.toList_append]
                exact (VRels.append (VRels.ext e0 ⟨hl, hlr⟩) (.cons (.yield _ _ upd_self rfl) .nil)).append (VRels.ext e0 ⟨kl, klr⟩)
              have hcalls := ck.calls _ _ _ _ _ hcall _ _ _ gb hwin hall
              refine ⟨w.heap.size + 1, [markOf w.heap.size], _, { target := .fn (.func f) c', args := l' ++ #[.func (.yield (w.heap.size + 1)) #[] #[]] },
                (w.alloc (.deferred (some []))).alloc (.loop { state := .ready, pending := none, fn, tmps := ac.tmps, params := ps, assign := a, body := b, defers := w.heap.size }), f, _, _, run_enterLoop_outer _ _ _ _ _, ?_, fun _ _ => trivial, ?_, W_deep, callsIn_W.2 (Calls.mono hcalls fun e w3 hp3 => ?_)⟩
              · have hmap : (#[Operand.const (.func (.yield (w.heap.size + 1)) #[] #[])] : Array Operand).map ac.eval = #[.func (.yield (w.heap.size + 1)) #[] #[]] := by simp [Act.eval]
                simp only [resolve, hge', Deferred.ofValue, hmap]
                rfl
              · simp [invoke, run_enter (ck.enters _ _ _ _ _ hcall)]
              · obtain ⟨ρ3, v3, rfl, _, g3, s3⟩ := hp3
                have hi3 := s3.ext _ _ (upd_self (ρ := ρ) (n := s.2.next) (i := { blk := w.heap.size + 1, base := 0, opn := none, tot := 0 }))
                obtain ⟨q0, q1, q2, q3, q4, q5, q6, L, hL, e1, e2, e3, e4, e5, e6⟩ := g3.rel _ _ _ hi3 hr2
                have hnb : L.state ≠ .busy := by rw [e1]; simpa using hbusy
                obtain ⟨g4, s4⟩ := set_obj (o := .loop { L with state := .exhausted }) (x := .loop { r with st := .exhausted }) g3 hi3 (by rw [hr2]; simp)
                  ⟨q0, q1, q2, q3, q4, q5, q6, _, World.putObj_heap_same (g3.lt _ _ hi3), rfl, e2, e3, e4, e5, e6⟩
                have st : Stp ρ s.2 w ρ3 (h2.set s.2.next (.loop { r with st := .exhausted })) (w3.putObj (w.heap.size + 1) (.loop { L with state := .exhausted })) :=
                  Stp.trans sr.g.fresh g3.fresh (Stp.trans sr.g.fresh gb.fresh (Stp.trans sr.g.fresh ga.fresh sa sb) s3) s4
                have mk4 := (hmk.stp s3).stp s4
                have hk := k (markOf w.heap.size :: D) ρ3 { ac with defers := [markOf w.heap.size] ++ ac.defers } _ ⟨TRel.ext st.ext sr.t, by simp [sr.d], g4⟩ mk4 st
                refine ⟨r.pending, _, by rw [← e2]; exact run_endLoop hL hnb, ?_⟩
                unfold exOf at hx0
                split at hx0
                · rename_i hpd; cases hx0; rw [hpd]; exact hk
                · rename_i id hpd; cases hx0; rw [hpd]; exact wpIn_exit hk
                · rename_i hpd; cases hx0; rw [hpd]; exact wpIn_ret hk
                · cases hx0
          · cases h
        · cases h
      · cases h
  | scope b _ => intro s x s' h; simp [codeV] at h
  | label l => intro s x s' h; simp [codeV] at h
  | goto l => intro s x s' h; simp [codeV] at h
  | refuse w => intro s x s' h; simp [codeV] at h

theorem results_run (ko : TysOk P E) {ρ : Map} {s : St} {a : Act} {w : World} (sr : SRel K D ρ s a w) {f : ResultVar → Sem Value} (ft : ∀ t w, (f (.tmp t)).run P w = .ok (a.tmps.getD t undef) w)
    (fc : ∀ x t b v w, a.tmps.getD x undef = .pointer (some b) → (loadVar t b).run P w = .ok v w → (f (.cell x t)).run P w = .ok v w) : ∀ (rs : List ResultVar) (l : List Value), resultsV E s rs = some l →
    ∃ l', VRels ρ l l' ∧ (rs.mapM f).run P w = .ok l' w := by
  intro rs
  induction rs with
  | nil => intro l h; simp [resultsV] at h; subst h; exact ⟨[], .nil, by simp⟩
  | cons r rs ih =>
    intro l h
    cases r with
    | tmp t =>
      simp only [resultsV, Option.map_eq_some_iff] at h
      obtain ⟨l0, h0, rfl⟩ := h
      obtain ⟨l', rl, run⟩ := ih l0 h0
      exact ⟨_ :: l', VRels.cons (sr.t.2 t) rl, by simp only [List.mapM_cons, Sem.run_bind, ft, Result.andThen_ok, run, Sem.run_pure]⟩
    | cell x t =>
      simp only [resultsV] at h
      replace h := bind_some.1 h; obtain ⟨v, hv, h⟩ := h
      replace h := bind_some.1 h; obtain ⟨l0, h0, h⟩ := h
      cases h
      obtain ⟨l', rl, run⟩ := ih l0 h0
      obtain ⟨v', rv, runv⟩ := load_run (P := P) ko sr.g (sr.t.2 x) hv
      refine ⟨v' :: l', VRels.cons rv rl, ?_⟩
      have hx := sr.t.2 x
      have : ∃ b, a.tmps.getD x undef = .pointer (some b) := by
        unfold loadV at hv
        replace hv := bind_some.1 hv; obtain ⟨i, hi, hv⟩ := hv
        replace hv := bind_some.1 hv; obtain ⟨q, hq, hv⟩ := hv
        unfold ptrOf at hq
        split at hq
        · rename_i b hb
          rw [hb] at hx
          obtain ⟨j, _, _, hp⟩ := ptr_inv hx
          exact ⟨_, hp⟩
        · cases hq
      obtain ⟨b, hb⟩ := this
      rw [hb] at runv
      simp only [Instr.loadAt, Instr.sureAddr, Sem.run_bind, Sem.run_pure, Result.andThen_ok] at runv
      simp only [List.mapM_cons, Sem.run_bind, fc _ _ _ _ _ hb runv, Result.andThen_ok, run, Sem.run_pure]

def resF (a : Act) (r : ResultVar) : Sem Value :=
  match r with
  | .tmp t => pure (a.tmps.getD t undef)
  | .cell x t => do loadVar t (← asAddr (a.tmps.getD x undef))
theorem results_eq (fn : Func) (a : Act) : results fn a.tmps = (do
    let vs ← fn.results.mapM (resF a)
    pure (if h : vs.size = 1 then vs[0] else .tuple vs)) := rfl
theorem callV_fn {n : Nat} {f : FuncId} {args : List Value} {h : Heap} : (callV E (n + 1)).fn f args h = (match E.ext f with
    | some g => g args h
    | none =>
    match E.fn f with
    | none => none
    | some fn =>
      match codeV E (callV E n) fn.plan n fn.body (args ++ List.replicate (fn.fn.ntmps - args.length) undef, h) with
      | some (.normal, s) | some (.ret, s) => (resultsV E s fn.fn.results.toList).map fun l => (oneOrTuple l, s.2)
      | _ => none) := rfl
theorem callV_yld {n l : Nat} {args : List Value} {h : Heap} : (callV E (n + 1)).yld l args h = yldV E (callV E n) n l args h := rfl
theorem yld_next (rk : RowOk K P E) (ck : CallOk K P call) {n l : Nat} {args : List Value} {h h' : Heap} {v : Value} (hy : yldV E call n l args h = some (v, h')) : h.next ≤ h'.next := by
  unfold yldV at hy
  split at hy
  · split at hy
    · cases hy
    · split at hy
      · rename_i s1 h1
        split at hy
        · split at hy
          · split at hy
            · rename_i x s3 h3
              split at hy
              · cases hy
                have e1 := code_next rk ck _ _ _ _ h1
                have e3 := code_next rk ck _ _ _ _ h3
                exact Nat.le_trans e1 e3
              · cases hy
            · cases hy
          · cases hy
        · cases hy
      · cases hy
  · cases hy
theorem yld_ok (ok : EnvOk K P E) (ck : CallOk K P call) {n l : Nat} {args : List Value} {h h' : Heap} {v : Value} (hy : yldV E call n l args h = some (v, h')) {ρ : Map} {w : World} {args' : Array Value} {i : Info}
    (hi : ρ l = some i) (g : Good K ρ h w) (win : Win ρ h h') (hargs : VRels ρ args args'.toList) :
    ∃ L : Loop, w.heap[i.blk]? = some (.loop L) ∧ args'.size = L.params.size ∧
      RoundIn (W none) 0 P i.blk L.fn ((L.params.zip args').foldl (fun tmps (t, a) => tmps.setIfInBounds t a) L.tmps) L.assign L.body w (Post K ρ h w v h') := by
  unfold yldV at hy
  split at hy
  · rename_i r hget
    split at hy
    · cases hy
    · rename_i hlen
      split at hy
      · rename_i s1 h1
        split at hy
        · rename_i r1 hget1
          split at hy
          · rename_i hready
            split at hy
            · rename_i x s3 h3
              split at hy
              · rename_i r3 hget3
                cases hy
                obtain ⟨q0, q1, q2, q3, q4, q5, q6, L, hL, e1, e2, e3, e4, e5, e6⟩ := g.rel _ _ _ hi hget
                have n1 := code_next ok.row ck _ _ _ _ h1
                have n3 := code_next ok.row ck _ _ _ _ h3
                have n3 : s1.2.next ≤ s3.2.next := n3
                refine ⟨L, hL, ?_, ?_⟩
                · rw [e3]
                  have := hargs.1
                  simp only [Array.length_toList] at this
                  omega
                · rw [e4, e5]
                  refine roundIn_of_wpIn trivial ?_
                  have srA : SRel K [] ρ (setAll (r.params.toList.zip args) r.tmps, h) { tmps := (L.params.zip args').foldl (fun tmps (t, a) => tmps.setIfInBounds t a) L.tmps, defers := [] } w := by
                    refine ⟨trel_of ?_, rfl, g⟩
                    have := setAll_rels r.params.toList args args'.toList r.tmps L.tmps hargs e6
                    rw [e3, ← Array.foldl_toList, Array.toList_zip]
                    exact this
                  refine code_sound (rd := some i.blk) (B := 0) ok.ty ok.meth ok.mixed ok.row ck _ _ _ _ h1 q1 q3 (.inr q5) [] ρ _ w srA (.nil (Nat.zero_le _)) (fun c c1 c2 => win c c1 (Nat.lt_of_lt_of_le c2 n3)) fun D1 ρ1 a1 w1 sr1 mk1 st1 => ?_
                  have hi1 := st1.ext _ _ hi
                  obtain ⟨f0, f1, f2, f3, f4, f5, f6, L1, hL1, d1, d2, d3, d4, d5, d6⟩ := sr1.g.rel _ _ _ hi1 hget1
                  have hst : L1.state = .ready := by rw [d1]; simpa using hready
                  refine ⟨_, run_beginRound hL1 hst, ?_⟩
                  obtain ⟨g2, s2⟩ := set_obj (o := .loop { L1 with state := .busy }) (x := .loop { r1 with st := .busy }) sr1.g hi1 (by rw [hget1]; simp)
                    ⟨f0, f1, f2, f3, f4, f5, f6, { L1 with state := .busy }, World.putObj_heap_same (sr1.g.lt _ _ hi1), rfl, d2, d3, d4, d5, d6⟩
                  have win1 : Win ρ1 s1.2 s3.2 := Win.sub (h3 := s3.2) win st1 (Nat.le_refl _)
                  refine code_sound (rd := some i.blk) (B := 0) ok.ty ok.meth ok.mixed ok.row ck _ _ _ _ h3 q2 q4 (.inr q6) D1 ρ1 a1 _ ⟨sr1.t, sr1.d, g2⟩ (mk1.stp s2) win1 fun D3 ρ3 a3 w3 sr3 mk3 st3 => ?_
                  have hi3 := st3.ext _ _ hi1
                  obtain ⟨k0, k1, k2, k3, k4, k5, k6, L3, hL3, b1, b2, b3, b4, b5, b6⟩ := sr3.g.rel _ _ _ hi3 hget3
                  have hend := run_endRound (P := P) (jumpOf x) hL3
                  obtain ⟨g4, s4⟩ := set_obj (o := .loop { L3 with state := if (jumpOf x).isNone then .ready else .done, pending := jumpOf x })
                    (x := .loop { r3 with st := if (jumpOf x).isNone then .ready else .done, pending := jumpOf x }) sr3.g hi3 (by rw [hget3]; simp)
                    ⟨k0, k1, k2, k3, k4, k5, k6, _, World.putObj_heap_same (sr3.g.lt _ _ hi3), rfl, rfl, b3, b4, b5, b6⟩
                  have st : Stp ρ h w ρ3 _ _ := Stp.trans g.fresh sr3.g.fresh (Stp.trans g.fresh g2.fresh (Stp.trans g.fresh sr1.g.fresh st1 s2) st3) s4
                  have hR : Post K ρ h w (.bool (jumpOf x).isNone) _ (.returned (.bool (jumpOf x).isNone)) _ := ⟨ρ3, _, rfl, .bool _, g4, st⟩
                  cases x with
                  | normal => exact ⟨_, _, hend, hR⟩
                  | exit id => exact ⟨_, _, hend, hR⟩
                  | ret => exact ⟨_, _, hend, hR⟩
              · cases hy
            · cases hy
          · cases hy
        · cases hy
      · cases hy
  · cases hy
theorem stp_apart {ρ ρ' : Map} {h h' : Heap} {w w' : World} {r : Nat} {o : Obj} (s : Stp ρ h w ρ' h' w') (hr : w.heap.size ≤ r) : Stp ρ h w ρ' h' (w'.putObj r o) :=
  ⟨s.ext, s.dom, s.win, s.next, s.vframe, s.dead, by rw [World.putObj_size]; exact s.grow, fun q hq hf => by rw [World.putObj_heap_other (by omega)]; exact s.rframe q hq hf, s.fromN, s.side⟩
theorem leaves_ok {fn : Func} {tmps : Array Value} {ρ ρ' : Map} {h h' : Heap} {w : World} {R : Ending → World → Prop} (kn : K.is ρ w)
    (fin : ∀ w', Good K ρ' h' w' → Stp ρ h w ρ' h' w' → ∃ v, (results fn tmps).run P w' = .ok v w' ∧ R (.returned v) w') :
    ∀ (rs : List Nat) (w' : World), rs.Nodup → (∀ r ∈ rs, w.heap.size ≤ r ∧ w'.heap[r]? = some (.deferred (some [])) ∧ ∀ b i, ρ' b = some i → i.blk ≠ r) → Good K ρ' h' w' → Stp ρ h w ρ' h' w' →
      LeavesInM (W none) 0 P fn tmps R (rs.map markOf) .returning w' := by
  intro rs
  induction rs with
  | nil => intro w' _ _ g s; exact fin w' g s
  | cons r rs ih =>
    intro w' hnd hall g s
    obtain ⟨h1, h2, h3⟩ := hall r List.mem_cons_self
    obtain ⟨hni, hnd'⟩ := List.nodup_cons.1 hnd
    refine ⟨by simp, .inl ⟨r, w'.putObj r (.deferred none), rfl, run_takeDeferred h2, ih _ hnd' (fun q hq => ?_) (good_apart g h3 World.putObj_size (fun k hk => World.putObj_heap_other hk) ((stp_apart s h1).known kn)) (stp_apart s h1)⟩⟩
    obtain ⟨g1, g2, g3⟩ := hall q (List.mem_cons_of_mem _ hq)
    exact ⟨g1, by rw [World.putObj_heap_other (fun e => by subst e; exact hni hq)]; exact g2, g3⟩

theorem call_ok (ok : EnvOk K P E) : ∀ n, CallOk K P (callV E n) := by
  intro n
  induction n with
  | zero => exact ⟨fun f args h v h' hc => by simp [callV] at hc, fun f args h v h' hc => by simp [callV] at hc, fun f args h v h' hc => by simp [callV] at hc, fun f args h v h' hc => by simp [callV] at hc, fun f args h v h' hc => by simp [callV] at hc⟩
  | succ n ih =>
    refine ⟨fun f args h v h' hc => ?_, fun f args h v h' hc => ?_, fun f args h v h' hc ρ w args' g win hargs => ?_, fun l args h v h' hy => yld_next ok.row ih hy, fun l args h v h' hy ρ w args' i hi g win hargs => yld_ok ok ih hy hi g win hargs⟩
    · rw [callV_fn] at hc
      split at hc
      · rename_i gx hx; exact (ok.ext _ _ hx _ _ _ _ hc).1
      · split at hc
        · cases hc
        · rename_i fn hf
          have q := ok.fn _ _ hf
          exact ⟨fn.fn, q.fn, q.name, by rw [q.body]; simp⟩
    · rw [callV_fn] at hc
      split at hc
      · rename_i gx hx; exact (ok.ext _ _ hx _ _ _ _ hc).2.1
      · split at hc
        · cases hc
        · rename_i fn hf
          split at hc
          · rename_i s hcode
            obtain ⟨l, hl, he⟩ := Option.map_eq_some_iff.1 hc
            cases he
            exact code_next ok.row ih _ _ _ _ hcode
          · rename_i s hcode
            obtain ⟨l, hl, he⟩ := Option.map_eq_some_iff.1 hc
            cases he
            exact code_next ok.row ih _ _ _ _ hcode
          · cases hc
    · rw [callV_fn] at hc
      split at hc
      · rename_i gx hx; exact (ok.ext _ _ hx _ _ _ _ hc).2.2 ρ w args' g win hargs
      · split at hc
        · cases hc
        · rename_i fn hf
          have q := ok.fn _ _ hf
          have sr : SRel K [] ρ (args ++ List.replicate (fn.fn.ntmps - args.length) undef, h) { tmps := args' ++ Array.replicate (fn.fn.ntmps - args'.size) undef, defers := [] } w := by
            have hl : args.length = args'.size := by rw [hargs.1]; simp
            refine ⟨trel_of ?_, rfl, g⟩
            rw [Array.toList_append, hl]
            refine hargs.append (.of_get (by simp) fun j v v' h1 h2 => ?_)
            rw [List.getElem?_replicate] at h1
            rw [Array.toList_replicate, List.getElem?_replicate] at h2
            split at h1
            · rename_i hlt; rw [if_pos hlt] at h2; cases h1; cases h2; exact undef_rel
            · cases h1
          have fin : ∀ (x : Ex) (s : St), (x = .normal ∨ x = .ret) → codeV E (callV E n) fn.plan n fn.body (args ++ List.replicate (fn.fn.ntmps - args.length) undef, h) = some (x, s) →
              (resultsV E s fn.fn.results.toList).map (fun l => (oneOrTuple l, s.2)) = some (v, h') → Calls P f args' w (Post K ρ h w v h') := by
            intro x s hx hcode hres
            obtain ⟨l, hl, he⟩ := Option.map_eq_some_iff.1 hres
            cases he
            refine (callsIn_W (rd := none) (n := 0)).1 (callsIn_of_wp_marks q.fn q.body trivial ?_)
            refine code_sound (rd := none) (B := w.heap.size) ok.ty ok.meth ok.mixed ok.row ih _ _ _ _ hcode q.code q.plan (.inl rfl) [] ρ _ w sr (.nil (Nat.le_refl _)) win fun D' ρ' a' w' sr' mk' st' => ?_
            have hr : ∀ w2, Good K ρ' s.2 w2 → Stp ρ h w ρ' s.2 w2 → ∃ v', (results fn.fn a'.tmps).run P w2 = .ok v' w2 ∧ Post K ρ h w (oneOrTuple l) s.2 (.returned v') w2 := by
              intro w2 g2 st2
              rw [results_eq, Array.mapM_eq_mapM_toList]
              have sr2 : SRel K D' ρ' s a' w2 := ⟨sr'.t, sr'.d, g2⟩
              obtain ⟨l', rl, run⟩ := results_run (P := P) ok.ty sr2 (f := resF a') (fun t w => rfl)
                (fun x t b v w hb hrun => by simp only [resF, hb, asAddr, Sem.run_bind, Sem.run_pure, Result.andThen_ok, hrun]) _ _ hl
              refine ⟨if h : l'.toArray.size = 1 then l'.toArray[0] else .tuple l'.toArray, ?_, ρ', _, rfl, ?_, g2, st2⟩
              · have run' := run
                simp only [Sem.run_bind, Sem.run_map]
                rw [run]
                rfl
              · cases l with
                | nil => have := rl.nil_inv; subst this; exact undef_rel
                | cons v l =>
                  obtain ⟨v', r', rfl, hv, hr⟩ := rl.cons_inv
                  cases l with
                  | nil => have := hr.nil_inv; subst this; exact hv
                  | cons u l =>
                    obtain ⟨u', r2, rfl, hu, hr2⟩ := hr.cons_inv
                    simp only [oneOrTuple]
                    rw [dif_neg (by simp)]
                    exact VRel.tuple' rl
            obtain ⟨⟨rs, hD, hnd, hall⟩, _⟩ := mk'
            have hlv := leaves_ok (P := P) (fn := fn.fn) (tmps := a'.tmps) g.known hr rs w' hnd hall sr'.g st'
            rw [← hD, ← sr'.d] at hlv
            rcases hx with rfl | rfl
            · exact hlv
            · exact hlv
          split at hc
          · rename_i s hcode; exact fin _ _ (.inl rfl) hcode hc
          · rename_i s hcode; exact fin _ _ (.inr rfl) hcode hc
          · cases hc
end
end Go.Vi
namespace Go.Vi
def andS {α β : Type} (x : Option α) (k : α → Option β) : Option β := match x with
  | some a => k a
  | none => none
@[congr] theorem andS_congr {α β : Type} {x y : Option α} {k : α → Option β} (h : x = y) : andS x k = andS y k := by rw [h]
theorem andS_some {α β : Type} (a : α) (k : α → Option β) : andS (some a) k = k a := rfl
theorem andS_none {α β : Type} (k : α → Option β) : andS none k = none := rfl
def orS {α : Type} (x : Option α) (k : Unit → Option α) : Option α := match x with
  | some a => some a
  | none => k ()
@[congr] theorem orS_congr {α : Type} {x y : Option α} {k : Unit → Option α} (h : x = y) : orS x k = orS y k := by rw [h]
theorem orS_some {α : Type} (a : α) (k : Unit → Option α) : orS (some a) k = some a := rfl
theorem orS_none {α : Type} (k : Unit → Option α) : orS none k = k () := rfl
def ifS {α : Type} (b : Bool) (x y : Unit → α) : α := match b with
  | true => x ()
  | false => y ()
@[congr] theorem ifS_congr {α : Type} {b c : Bool} {x y : Unit → α} (h : b = c) : ifS b x y = ifS c x y := by rw [h]
theorem ifS_true {α : Type} (x y : Unit → α) : ifS true x y = x () := rfl
theorem ifS_false {α : Type} (x y : Unit → α) : ifS false x y = y () := rfl
/-- the value of a condition. -/
def condS {α : Type} (v : Value) (x y : Unit → Option α) : Option α := match v with
  | .bool true => x ()
  | .bool false => y ()
  | _ => none
@[congr] theorem condS_congr {α : Type} {v u : Value} {x y : Unit → Option α} (h : v = u) : condS v x y = condS u x y := by rw [h]
theorem condS_bool {α : Type} (b : Bool) (x y : Unit → Option α) : condS (.bool b) x y = ifS b x y := by cases b <;> rfl

section
variable (E : Env) (call : CallV)
theorem opsS_nil (ops : Array Oper) (s : St) : opsV E call ops [] s = some s := rfl
theorem opsS_cons (ops : Array Oper) (o : Oper) (r : List Oper) (s : St) :
    opsV E call ops (o :: r) s = ifS (wantedV ops o s.1) (fun _ => andS (stepV E call o s) fun x => opsV E call ops r (putV s.1 o.dst x.1, x.2)) (fun _ => opsV E call ops r (putV s.1 o.dst undef, s.2)) := by
  rw [opsV]
  cases wantedV ops o s.1 <;> simp only [ifS, if_true, Bool.false_eq_true, if_false]
  unfold andS
  cases stepV E call o s <;> rfl
theorem stepS (o : Oper) (s : St) :
    stepV E call o s = orS (andS (pureV E (evV s.1) o) fun v => some (v, s.2)) fun _ => orS (andS (readV E (evV s.1) s.2 o) fun v => some (v, s.2)) fun _ =>
      orS (andS (newV E (evV s.1) o) fun x => some (x.2.val s.2.next, s.2.new x.1)) fun _ => heavyV E call (evV s.1) s.2 o := by
  unfold stepV orS andS
  simp only
  cases pureV E (evV s.1) o <;> simp only
  cases readV E (evV s.1) s.2 o <;> simp only
  cases newV E (evV s.1) o <;> rfl
end
section
variable (E : Env) (call : CallV) (pl : Nat → Option Plan) (fuel : Nat)
theorem codeS_skip (s : St) : codeV E call pl fuel .skip s = some (.normal, s) := by simp [codeV]
theorem codeS_list (id : Nat) (ops : Array Oper) (s : St) : codeV E call pl fuel (.region id ops false) s = andS (opsV E call ops ops.toList s) fun s => some (.normal, s) := by
  rw [codeV]
  unfold regionV andS
  simp only [Bool.false_eq_true, if_false]
  cases opsV E call ops ops.toList s <;> rfl
def exS (x : Ex) (n : Unit → Option (Ex × St)) (r : Option (Ex × St)) : Option (Ex × St) := match x with
  | .normal => n ()
  | _ => r
theorem exS_normal (n : Unit → Option (Ex × St)) (r : Option (Ex × St)) : exS .normal n r = n () := rfl
theorem exS_exit (i : Nat) (n : Unit → Option (Ex × St)) (r : Option (Ex × St)) : exS (.exit i) n r = r := rfl
theorem exS_ret (n : Unit → Option (Ex × St)) (r : Option (Ex × St)) : exS .ret n r = r := rfl
@[congr] theorem exS_congr {x y : Ex} {n : Unit → Option (Ex × St)} {r : Option (Ex × St)} (h : x = y) : exS x n r = exS y n r := by rw [h]
theorem codeS_seq (a b : Code) (s : St) : codeV E call pl fuel (.seq a b) s = andS (codeV E call pl fuel a s) fun x => exS x.1 (fun _ => codeV E call pl fuel b x.2) (some x) := by
  rw [codeV]
  cases codeV E call pl fuel a s with
  | none => rfl
  | some x => obtain ⟨e, s'⟩ := x; cases e <;> rfl
theorem codeS_cond (c : Operand) (a b : Code) (s : St) : codeV E call pl fuel (.cond c a b) s = condS (evV s.1 c) (fun _ => codeV E call pl fuel a s) (fun _ => codeV E call pl fuel b s) := by
  rw [codeV]
  unfold condS
  cases evV s.1 c <;> try rfl
theorem codeS_exit (i : Nat) (s : St) : codeV E call pl fuel (.exit i) s = some (.exit i, s) := by simp [codeV]
theorem codeS_ret (s : St) : codeV E call pl fuel .ret s = some (.ret, s) := by simp [codeV]
end
end Go.Vi
namespace Go.Vi
structure SOp where
  d : Option Tmp
  op : Op
  ty : TypeId
  g : Option (Option Tmp × Bool)
def SOp.o (x : SOp) : Oper := { dst := x.d, op := x.op, type := x.ty, pos := "", after := #[], guard := none }
def slim (ops : Array Oper) (o : Oper) : SOp := { d := o.dst, op := o.op, ty := o.type, g := o.guard.map fun q => ((ops[q.1]?).bind (·.dst), q.2) }
def wantS (g : Option (Option Tmp × Bool)) (t : Tmps) : Bool := match g with
  | none => true
  | some (d, want) => match d.bind (t[·]?) with
    | some (.bool b) => b == want
    | _ => false
def opsS (E : Env) (call : CallV) : List SOp → St → Option St
  | [], s => some s
  | x :: r, s => if wantS x.g s.1 then match stepV E call x.o s with
      | some (v, h) => opsS E call r (putV s.1 x.d v, h)
      | none => none
    else opsS E call r (putV s.1 x.d undef, s.2)
section
variable (E : Env) (call : CallV)
theorem step_slim (ops : Array Oper) (o : Oper) (s : St) : stepV E call (slim ops o).o s = stepV E call o s := by
  obtain ⟨dst, op, ty, pos, after, guard⟩ := o
  have h1 : ∀ ev, pureV E ev (slim ops ⟨dst, op, ty, pos, after, guard⟩).o = pureV E ev ⟨dst, op, ty, pos, after, guard⟩ := fun ev => by
    unfold pureV slim SOp.o; cases op <;> rfl
  have h2 : ∀ ev h, readV E ev h (slim ops ⟨dst, op, ty, pos, after, guard⟩).o = readV E ev h ⟨dst, op, ty, pos, after, guard⟩ := fun ev h => by
    unfold readV slim SOp.o; cases op <;> rfl
  have h3 : ∀ ev, newV E ev (slim ops ⟨dst, op, ty, pos, after, guard⟩).o = newV E ev ⟨dst, op, ty, pos, after, guard⟩ := fun ev => by
    unfold newV slim SOp.o; cases op <;> rfl
  have h4 : ∀ ev h, heavyV E call ev h (slim ops ⟨dst, op, ty, pos, after, guard⟩).o = heavyV E call ev h ⟨dst, op, ty, pos, after, guard⟩ := fun ev h => by
    unfold heavyV slim SOp.o; cases op <;> rfl
  unfold stepV
  simp only [h1, h2, h3, h4]
theorem want_slim (ops : Array Oper) (o : Oper) (t : Tmps) : wantS (slim ops o).g t = wantedV ops o t := by
  unfold wantS wantedV slim
  cases o.guard <;> rfl
theorem ops_slim (ops : Array Oper) : ∀ (l : List Oper) (s : St), opsV E call ops l s = opsS E call (l.map (slim ops)) s := by
  intro l
  induction l with
  | nil => intro s; rfl
  | cons o l ih =>
    intro s
    rw [opsV, List.map_cons, opsS, want_slim, step_slim]
    split
    · have : (slim ops o).d = o.dst := rfl
      rw [this]
      cases stepV E call o s with
      | none => rfl
      | some x => exact ih _
    · exact ih _
theorem opsT_nil (s : St) : opsS E call [] s = some s := rfl
theorem opsT_cons (d : Option Tmp) (op : Op) (ty : TypeId) (g : Option (Option Tmp × Bool)) (r : List SOp) (t : Tmps) (h : Heap) :
    opsS E call (⟨d, op, ty, g⟩ :: r) (t, h) = ifS (wantS g t) (fun _ => andS (stepV E call (SOp.o ⟨d, op, ty, none⟩) (t, h)) fun x => opsS E call r (putV t d x.1, x.2)) (fun _ => opsS E call r (putV t d undef, h)) := by
  rw [opsS]
  cases wantS g t <;> simp only [ifS, if_true, Bool.false_eq_true, if_false]
  have : SOp.o ⟨d, op, ty, g⟩ = SOp.o ⟨d, op, ty, none⟩ := rfl
  rw [this]
  unfold andS
  cases stepV E call (SOp.o ⟨d, op, ty, none⟩) (t, h) <;> rfl
theorem want_none (t : Tmps) : wantS none t = true := rfl
theorem want_some (d : Tmp) (want : Bool) (t : Tmps) (b : Bool) (h : t.getD d undef = .bool b) : wantS (some (some d, want)) t = (b == want) := by
  unfold wantS
  obtain ⟨d', hd⟩ : ∃ d' : Nat, d' = d := ⟨d, rfl⟩
  subst hd
  rw [List.getD_eq_getElem?_getD] at h
  simp only [Option.bind_some]
  cases hq : t[d']? with
  | none => rw [hq] at h; simp [undef] at h
  | some v => rw [hq] at h; simp at h; subst h; rfl
theorem codeT_list (pl : Nat → Option Plan) (fuel : Nat) (id : Nat) (ops : Array Oper) (s : St) :
    codeV E call pl fuel (.region id ops false) s = andS (opsS E call (ops.toList.map (slim ops)) s) fun s => some (.normal, s) := by
  rw [codeS_list, ops_slim]
end
end Go.Vi
namespace Go.Vi
section
variable (E : Env) (call : CallV)
/-- what follows a step. -/
def stK (r : List SOp) (t : Tmps) (d : Option Tmp) (x : Option (Value × Heap)) : Option St := match x with
  | some (v, h) => opsS E call r (putV t d v, h)
  | none => none
def wantK (d : Option Tmp) (op : Op) (ty : TypeId) (r : List SOp) (t : Tmps) (h : Heap) (b : Bool) : Option St := match b with
  | true => stK E call r t d (stepV E call (SOp.o ⟨d, op, ty, none⟩) (t, h))
  | false => opsS E call r (putV t d undef, h)
def isB (v : Value) (w : Bool) : Bool := match v with
  | .bool b => b == w
  | _ => false
theorem isB_bool (b w : Bool) : isB (.bool b) w = (b == w) := rfl
theorem sk_nil (s : St) : opsS E call [] s = some s := rfl
theorem wantS_some (d : Tmp) (want : Bool) (t : Tmps) : wantS (some (some d, want)) t = isB (t.getD d undef) want := by
  unfold wantS isB
  obtain ⟨d', hd⟩ : ∃ d' : Nat, d' = d := ⟨d, rfl⟩
  subst hd
  rw [List.getD_eq_getElem?_getD]
  simp only [Option.bind_some]
  cases hq : t[d']? with
  | none => simp [undef]
  | some v => simp; cases v <;> rfl
theorem sk_cons (d : Option Tmp) (op : Op) (ty : TypeId) (g : Option Tmp × Bool) (r : List SOp) (t : Tmps) (h : Heap) :
    opsS E call (⟨d, op, ty, some g⟩ :: r) (t, h) = wantK E call d op ty r t h (wantS (some g) t) := by
  rw [opsT_cons]
  unfold wantK ifS stK andS
  cases wantS (some g) t
  · rfl
  · simp only
    cases stepV E call (SOp.o ⟨d, op, ty, none⟩) (t, h) <;> rfl
theorem sk_cons' (d : Option Tmp) (op : Op) (ty : TypeId) (r : List SOp) (t : Tmps) (h : Heap) :
    opsS E call (⟨d, op, ty, none⟩ :: r) (t, h) = stK E call r t d (stepV E call (SOp.o ⟨d, op, ty, none⟩) (t, h)) := by
  rw [opsT_cons]
  unfold stK ifS andS
  simp only [want_none]
  cases stepV E call (SOp.o ⟨d, op, ty, none⟩) (t, h) <;> rfl
theorem wantK_true (d : Option Tmp) (op : Op) (ty : TypeId) (r : List SOp) (t : Tmps) (h : Heap) : wantK E call d op ty r t h true = stK E call r t d (stepV E call (SOp.o ⟨d, op, ty, none⟩) (t, h)) := rfl
theorem wantK_false (d : Option Tmp) (op : Op) (ty : TypeId) (r : List SOp) (t : Tmps) (h : Heap) : wantK E call d op ty r t h false = opsS E call r (putV t d undef, h) := rfl
theorem stK_some (r : List SOp) (t : Tmps) (d : Option Tmp) (v : Value) (h : Heap) : stK E call r t d (some (v, h)) = opsS E call r (putV t d v, h) := rfl
/-- a value with the heap as it was. -/
def atH (h : Heap) (x : Option Value) : Option (Value × Heap) := match x with
  | some v => some (v, h)
  | none => none
theorem atH_some (h : Heap) (v : Value) : atH h (some v) = some (v, h) := rfl
section
variable (d : Option Tmp) (ty : TypeId) (t : Tmps) (h : Heap)
theorem sk_move (x : Operand) : stepV E call (SOp.o ⟨d, .move x, ty, none⟩) (t, h) = some (evV t x, h) := rfl
theorem sk_assign (x : Operand) : stepV E call (SOp.o ⟨d, .assign x, ty, none⟩) (t, h) = some (evV t x, h) := rfl
def pickK (c : Value) (a b : Value) : Option Value := match c with
  | .bool p => some (if p then a else b)
  | _ => none
theorem pickK_bool (p : Bool) (a b : Value) : pickK (.bool p) a b = some (if p then a else b) := rfl
theorem sk_pick (c a b : Operand) : stepV E call (SOp.o ⟨d, .pick c a b, ty, none⟩) (t, h) = atH h (pickK (evV t c) (evV t a) (evV t b)) := by
  unfold stepV pureV SOp.o pickK atH
  simp only
  cases evV t c <;> rfl
theorem sk_bin (op : BinOp) (xt yt : TypeId) (x y : Operand) : stepV E call (SOp.o ⟨d, .binOp op xt x y yt, ty, none⟩) (t, h) = atH h (binV E op xt (isConstO x || isConstO y) (evV t x) (evV t y)) := by
  unfold stepV pureV readV newV heavyV SOp.o atH
  simp only
  cases binV E op xt (isConstO x || isConstO y) (evV t x) (evV t y) <;> rfl
theorem bin_int (op : BinOp) (k : IntKind) (c : Bool) (a b : Int) : binV E op ty c (.int k a) (.int k b) = arithV op k a b := by
  unfold binV
  simp
end
end
theorem ar_lss (k : IntKind) (a b : Int) : arithV .lss k a b = some (.bool (decide (a < b))) := rfl
theorem ar_leq (k : IntKind) (a b : Int) : arithV .leq k a b = some (.bool (decide (a ≤ b))) := rfl
theorem ar_gtr (k : IntKind) (a b : Int) : arithV .gtr k a b = some (.bool (decide (a > b))) := rfl
theorem ar_geq (k : IntKind) (a b : Int) : arithV .geq k a b = some (.bool (decide (a ≥ b))) := rfl
theorem ar_eql (k : IntKind) (a b : Int) : arithV .eql k a b = some (.bool (a == b)) := rfl
theorem ar_neq (k : IntKind) (a b : Int) : arithV .neq k a b = some (.bool (a != b)) := rfl
theorem ar_add (k : IntKind) (a b : Int) : arithV .add k a b = some (.int k (k.wrap (a + b))) := rfl
theorem ar_sub (k : IntKind) (a b : Int) : arithV .sub k a b = some (.int k (k.wrap (a - b))) := rfl
theorem ar_mul (k : IntKind) (a b : Int) : arithV .mul k a b = some (.int k (k.wrap (a * b))) := rfl
theorem ar_and (k : IntKind) (a b : Int) : arithV .and k a b = some (.int k (k.wrap (BitVec.ofInt k.bits a &&& BitVec.ofInt k.bits b).toNat)) := rfl
theorem ev_tmp (t : Tmps) (i : Nat) : evV t (.tmp i) = t.getD i undef := rfl
theorem ev_int (t : Tmps) (k : IntKind) (n : Int) : evV t (.const (.int k n)) = .int k n := rfl
theorem ev_bool (t : Tmps) (b : Bool) : evV t (.const (.bool b)) = .bool b := rfl
theorem put_some (t : Tmps) (i : Nat) (v : Value) : putV t (some i) v = t.set i v := rfl
theorem put_none (t : Tmps) (v : Value) : putV t none v = t := rfl
end Go.Vi
namespace Go.Vi
def orK {α : Type} (x y : Option α) : Option α := match x with
  | some a => some a
  | none => y
theorem orK_some {α : Type} (a : α) (y : Option α) : orK (some a) y = some a := rfl
theorem orK_none {α : Type} (y : Option α) : orK none y = y := rfl
/-- a heap, with a value that says nothing. -/
def heapK (v : Value) (x : Option Heap) : Option (Value × Heap) := match x with
  | some h => some (v, h)
  | none => none
theorem heapK_some (v : Value) (h : Heap) : heapK v (some h) = some (v, h) := rfl
/-- a block that is made. -/
def newK (h : Heap) (x : Option (Blk × Mk)) : Option (Value × Heap) := match x with
  | some (b, m) => some (m.val h.next, h.new b)
  | none => none
theorem newK_some (h : Heap) (b : Blk) (m : Mk) : newK h (some (b, m)) = some (m.val h.next, h.new b) := rfl
section
variable (E : Env) (call : CallV) (d : Option Tmp) (ty : TypeId) (t : Tmps) (h : Heap)
theorem sk_un (op : UnOp) (xt : TypeId) (x : Operand) : stepV E call (SOp.o ⟨d, .unOp op xt x, ty, none⟩) (t, h) = atH h (unV op (evV t x)) := by
  unfold stepV pureV readV newV heavyV SOp.o atH
  simp only
  cases unV op (evV t x) <;> rfl
theorem sk_build (bt : TypeId) (ps : Array (Nat × Operand)) : stepV E call (SOp.o ⟨d, .build bt ps, ty, none⟩) (t, h) = atH h (buildV E bt (partsV (evV t) ps)) := by
  unfold stepV pureV readV newV heavyV SOp.o atH
  simp only
  cases buildV E bt (partsV (evV t) ps) <;> rfl
theorem sk_fieldAddr (s : TypeId) (x : Operand) (f : Nat) : stepV E call (SOp.o ⟨d, .fieldAddr s x f, ty, none⟩) (t, h) = atH h (fieldAddrV E s (evV t x) f) := by
  unfold stepV pureV readV newV heavyV SOp.o atH
  simp only
  cases fieldAddrV E s (evV t x) f <;> rfl
theorem sk_field (s : TypeId) (x : Operand) (f : Nat) : stepV E call (SOp.o ⟨d, .field s x f, ty, none⟩) (t, h) = atH h (fieldV E s (evV t x) f) := by
  unfold stepV pureV readV newV heavyV SOp.o atH
  simp only
  cases fieldV E s (evV t x) f <;> rfl
theorem sk_indexAddr (s : TypeId) (x i : Operand) : stepV E call (SOp.o ⟨d, .indexAddr s x i, ty, none⟩) (t, h) = atH h (indexAddrV E s (evV t x) (evV t i)) := by
  unfold stepV pureV readV newV heavyV SOp.o atH
  simp only
  cases indexAddrV E s (evV t x) (evV t i) <;> rfl
theorem sk_index (s : TypeId) (x i : Operand) : stepV E call (SOp.o ⟨d, .index s x i, ty, none⟩) (t, h) = atH h (indexV E s (evV t x) (evV t i)) := by
  unfold stepV pureV readV newV heavyV SOp.o atH
  simp only
  cases indexV E s (evV t x) (evV t i) <;> rfl
def extrK (v : Value) (i : Nat) : Option Value := match v with
  | .tuple vs => vs[i]?
  | _ => none
theorem extrK_tuple (vs : Array Value) (i : Nat) : extrK (.tuple vs) i = vs[i]? := rfl
theorem sk_extract (x : Operand) (i : Nat) : stepV E call (SOp.o ⟨d, .extract x i, ty, none⟩) (t, h) = atH h (extrK (evV t x) i) := by
  unfold stepV pureV readV newV heavyV SOp.o atH extrK
  simp only
  cases evV t x <;> simp only
  rename_i vs
  cases vs[i]? <;> rfl
theorem sk_load (lt : TypeId) (a : Operand) : stepV E call (SOp.o ⟨d, .load lt a, ty, none⟩) (t, h) = atH h (loadV E lt (evV t a) h) := by
  unfold stepV pureV readV newV heavyV SOp.o atH
  simp only
  cases loadV E lt (evV t a) h <;> rfl
theorem sk_store (st : TypeId) (a x : Operand) : stepV E call (SOp.o ⟨d, .store st a x, ty, none⟩) (t, h) = heapK undef (storeV E st (evV t a) (evV t x) h) := by
  unfold stepV pureV readV newV heavyV SOp.o heapK
  simp only
  cases storeV E st (evV t a) (evV t x) h <;> rfl
theorem sk_alloc (at_ : TypeId) : stepV E call (SOp.o ⟨d, .alloc at_, ty, none⟩) (t, h) = newK h (newV E (evV t) (SOp.o ⟨d, .alloc at_, ty, none⟩)) := by
  unfold stepV pureV readV heavyV SOp.o newK
  simp only
  cases newV E (evV t) _ <;> rfl
theorem sk_box (bt : TypeId) (x : Operand) : stepV E call (SOp.o ⟨d, .box bt x, ty, none⟩) (t, h) = some (Mk.ptr.val h.next, h.new (.cells (cellsOf (evV t x)) true none)) := rfl
theorem sk_buildSlice (st : TypeId) (n : Nat) (ps : Array (Nat × Operand)) : stepV E call (SOp.o ⟨d, .buildSlice st n ps, ty, none⟩) (t, h) = newK h (newV E (evV t) (SOp.o ⟨d, .buildSlice st n ps, ty, none⟩)) := by
  unfold stepV pureV readV heavyV SOp.o newK
  simp only
  cases newV E (evV t) _ <;> rfl
theorem sk_makeSlice (st : TypeId) (l c : Operand) : stepV E call (SOp.o ⟨d, .makeSlice st l c, ty, none⟩) (t, h) = newK h (newV E (evV t) (SOp.o ⟨d, .makeSlice st l c, ty, none⟩)) := by
  unfold stepV pureV readV heavyV SOp.o newK
  simp only
  cases newV E (evV t) _ <;> rfl
theorem sk_slice (st : TypeId) (x : Operand) (lo hi mx : Option Operand) : stepV E call (SOp.o ⟨d, .slice st x lo hi mx, ty, none⟩) (t, h) =
    orK (atH h (sliceV E st (evV t x) (lo.map (evV t)) (hi.map (evV t)) (mx.map (evV t)))) (atH h (sliceS E st (evV t x) (lo.map (evV t)) (hi.map (evV t)) (mx.map (evV t)) h)) := by
  unfold stepV pureV readV newV heavyV SOp.o atH orK
  simp only
  cases sliceV E st (evV t x) (lo.map (evV t)) (hi.map (evV t)) (mx.map (evV t)) <;> simp only
  cases sliceS E st (evV t x) (lo.map (evV t)) (hi.map (evV t)) (mx.map (evV t)) h <;> rfl
def callR (E : Env) (call : CallV) (f : FuncId) (args : List Value) (h : Heap) : Option (Value × Heap) :=
  match E.row f with
  | some r => r args h
  | none => call f args h
theorem callR_none {E : Env} (hn : E.row = fun _ => none) (call : CallV) (f : FuncId) (args : List Value) (h : Heap) : callR E call f args h = call f args h := by
  unfold callR; rw [hn]
theorem sk_call (f : FuncId) (args : Array Operand) (ats : Array TypeId) : stepV E call (SOp.o ⟨d, .call { callee := .value (.func f), args := args, argTypes := ats }, ty, none⟩) (t, h) = callR E call f (args.map (evV t)).toList h := by
  unfold stepV pureV readV newV heavyV SOp.o callR
  simp [evV]
  cases E.row f <;> rfl
theorem sk_append (s x : Operand) (st xt : TypeId) : stepV E call (SOp.o ⟨d, .call { callee := .builtin .append, args := #[s, x], argTypes := #[st, xt] }, ty, none⟩) (t, h) = appendV E st (some xt) (evV t s) (evV t x) h := by
  unfold stepV pureV readV newV heavyV SOp.o
  rfl
theorem sk_copy (s x : Operand) (st xt : TypeId) : stepV E call (SOp.o ⟨d, .call { callee := .builtin .copy, args := #[s, x], argTypes := #[st, xt] }, ty, none⟩) (t, h) = copyV E st (evV t s) (evV t x) h := by
  unfold stepV pureV readV newV heavyV SOp.o
  rfl
end
end Go.Vi
namespace Go.Vi
inductive SCode where
  | skip
  | list (l : List SOp)
  | drawn (id : Nat) (ops : Array Oper)
  | seq (a b : SCode)
  | cond (c : Operand) (a b : SCode)
  | block (id : Nat) (b : SCode)
  | loop (b : SCode)
  | exit (id : Nat)
  | ret
  | raw (c : Code)
def slimC : Code → SCode
  | .skip => .skip
  | .region id ops draw => if draw then .drawn id ops else .list (ops.toList.map (slim ops))
  | .seq a b => .seq (slimC a) (slimC b)
  | .cond c a b => .cond c (slimC a) (slimC b)
  | .block id b => .block id (slimC b)
  | .loop b => .loop (slimC b)
  | .exit id => .exit id
  | .ret => .ret
  | c => .raw c
section
variable (E : Env) (call : CallV) (pl : Nat → Option Plan) (fuel : Nat)
def endK (x : Option St) : Option (Ex × St) := match x with
  | some s => some (.normal, s)
  | none => none
def codeT : SCode → St → Option (Ex × St)
  | .skip, s => some (.normal, s)
  | .list l, s => endK (opsS E call l s)
  | .drawn id ops, s => endK (regionV E call (pl id) ops true s)
  | .seq a b, s => match codeT a s with
    | some (.normal, s') => codeT b s'
    | r => r
  | .cond c a b, s => match evV s.1 c with
    | .bool true => codeT a s
    | .bool false => codeT b s
    | _ => none
  | .block id b, s => match codeT b s with
    | some (.exit i, s') => if i = id then some (.normal, s') else some (.exit i, s')
    | r => r
  | .loop b, s => iterV (codeT b) fuel s
  | .exit id, s => some (.exit id, s)
  | .ret, s => some (.ret, s)
  | .raw c, s => codeV E call pl fuel c s
theorem iter_congr {f g : St → Option (Ex × St)} (h : ∀ s, f s = g s) : ∀ n s, iterV f n s = iterV g n s := by
  have : f = g := funext h
  subst this; intros; rfl
theorem code_slim : ∀ (c : Code) (s : St), codeV E call pl fuel c s = codeT E call pl fuel (slimC c) s := by
  intro c
  induction c with
  | skip => intro s; simp [codeV, slimC, codeT]
  | region id ops draw =>
    intro s
    rw [codeV, slimC]
    cases draw with
    | true => simp only [if_true, codeT, endK]; cases regionV E call (pl id) ops true s <;> rfl
    | false =>
      simp only [Bool.false_eq_true, if_false, codeT, endK]
      unfold regionV
      simp only [Bool.false_eq_true, if_false]
      rw [ops_slim]
      cases opsS E call (ops.toList.map (slim ops)) s <;> rfl
  | seq a b iha ihb =>
    intro s
    rw [codeV, slimC, codeT, iha]
    cases codeT E call pl fuel (slimC a) s with
    | none => rfl
    | some x => obtain ⟨e, s'⟩ := x; cases e <;> first | exact ihb _ | rfl
  | cond c a b iha ihb =>
    intro s
    rw [codeV, slimC, codeT, iha, ihb]
    cases evV s.1 c <;> rfl
  | block id b ih =>
    intro s
    rw [codeV, slimC, codeT, ih]
    cases codeT E call pl fuel (slimC b) s with
    | none => rfl
    | some x => obtain ⟨e, s'⟩ := x; cases e <;> rfl
  | loop b ih =>
    intro s
    rw [codeV, slimC, codeT]
    exact iter_congr ih _ _
  | exit id => intro s; simp [codeV, slimC, codeT]
  | ret => intro s; simp [codeV, slimC, codeT]
  | _ => intro s; rfl
def seqK (b : SCode) (x : Option (Ex × St)) : Option (Ex × St) := match x with
  | some (.normal, s') => codeT E call pl fuel b s'
  | r => r
def condK (a b : SCode) (s : St) (v : Value) : Option (Ex × St) := match v with
  | .bool true => codeT E call pl fuel a s
  | .bool false => codeT E call pl fuel b s
  | _ => none
def blockK (id : Nat) (x : Option (Ex × St)) : Option (Ex × St) := match x with
  | some (.exit i, s') => if i = id then some (.normal, s') else some (.exit i, s')
  | r => r
theorem ck_skip (s : St) : codeT E call pl fuel .skip s = some (.normal, s) := rfl
theorem ck_list (l : List SOp) (s : St) : codeT E call pl fuel (.list l) s = endK (opsS E call l s) := rfl
theorem ck_drawn (id : Nat) (ops : Array Oper) (s : St) : codeT E call pl fuel (.drawn id ops) s = endK (regionV E call (pl id) ops true s) := rfl
theorem ck_seq (a b : SCode) (s : St) : codeT E call pl fuel (.seq a b) s = seqK E call pl fuel b (codeT E call pl fuel a s) := by
  rw [codeT]; unfold seqK; rfl
theorem ck_cond (c : Operand) (a b : SCode) (s : St) : codeT E call pl fuel (.cond c a b) s = condK E call pl fuel a b s (evV s.1 c) := by
  rw [codeT]; unfold condK; rfl
theorem ck_block (id : Nat) (b : SCode) (s : St) : codeT E call pl fuel (.block id b) s = blockK id (codeT E call pl fuel b s) := by
  rw [codeT]; unfold blockK; rfl
theorem ck_loop (b : SCode) (s : St) : codeT E call pl fuel (.loop b) s = iterV (codeT E call pl fuel b) fuel s := rfl
theorem ck_exit (id : Nat) (s : St) : codeT E call pl fuel (.exit id) s = some (.exit id, s) := rfl
theorem ck_ret (s : St) : codeT E call pl fuel .ret s = some (.ret, s) := rfl
theorem seqK_normal (b : SCode) (s : St) : seqK E call pl fuel b (some (.normal, s)) = codeT E call pl fuel b s := rfl
theorem seqK_exit (b : SCode) (i : Nat) (s : St) : seqK E call pl fuel b (some (.exit i, s)) = some (.exit i, s) := rfl
theorem seqK_ret (b : SCode) (s : St) : seqK E call pl fuel b (some (.ret, s)) = some (.ret, s) := rfl
theorem condK_true (a b : SCode) (s : St) : condK E call pl fuel a b s (.bool true) = codeT E call pl fuel a s := rfl
theorem condK_false (a b : SCode) (s : St) : condK E call pl fuel a b s (.bool false) = codeT E call pl fuel b s := rfl
theorem endK_some (s : St) : endK (some s) = some (.normal, s) := rfl
end
theorem blockK_normal (id : Nat) (s : St) : blockK id (some (.normal, s)) = some (.normal, s) := rfl
theorem blockK_ret (id : Nat) (s : St) : blockK id (some (.ret, s)) = some (.ret, s) := rfl
theorem blockK_exit (id i : Nat) (s : St) : blockK id (some (.exit i, s)) = if i = id then some (.normal, s) else some (.exit i, s) := rfl
/-- a call, by slim code. -/
theorem call_slim {E : Env} {n : Nat} {f : FuncId} {fn : Fun} {g : SCode} (args : List Value) (h : Heap) (he : E.ext f = none) (hf : E.fn f = some fn) (hg : slimC fn.body = g) {s : St} {x : Ex} {l : List Value}
    (hc : codeT E (callV E n) fn.plan n g (args ++ List.replicate (fn.fn.ntmps - args.length) undef, h) = some (x, s)) (hx : x = .normal ∨ x = .ret) (hr : resultsV E s fn.fn.results.toList = some l) :
    callV E (n + 1) f args h = some (oneOrTuple l, s.2) := by
  rw [callV]
  simp only [he, hf]
  rw [code_slim, hg, hc]
  rcases hx with rfl | rfl <;> simp only [hr] <;> rfl
end Go.Vi
namespace Go.Vi
variable {K : Known}
def tyOf (P : Program) (t : TypeId) : Option Ty :=
  match P.underlying t, P.info? t with
  | some u, some x =>
    if x.zero.all (plainB 100) then
      some { under := u, agg := aggD u, size := x.size, bytes := x.bytes, zero := x.zero, eqg := P.eqGuardType P.depth t, held := P.stoodInHeld t, cmp := x.comparable,
             tag := (match u with | .struct fs => (match fs[0]? with | some f => (match P.underlying f.type with | some (.pointer e) => Nat.beq e t | _ => false) | none => false) | _ => false) && liesAt P P.depth t 1 0 t 1,
             places := match u with | .struct fs => fs.toList.mapM (fun f => (P.info? f.type).map fun i => (f.offset, i.size)) | _ => none }
    else none
  | _, _ => none
theorem tyOf_ok {P : Program} {t : TypeId} {i : Ty} (h : tyOf P t = some i) : TyOk P t i := by
  unfold tyOf at h
  split at h
  · rename_i u x hu hx
    split at h
    · rename_i hz
      cases h
      refine ⟨hu, rfl, ⟨x, hx, rfl, rfl, rfl, rfl⟩, fun z h => ?_, fun h => h, fun h => h, fun h => (Bool.and_eq_true_iff.1 h).2, fun fs pl h1 h2 => ?_⟩
      · simp only at h; rw [h] at hz; simpa using hz
      · simp only at h1; subst h1; exact h2
    · cases h
  · cases h
def plansOf : Code → List (Nat × Plan)
  | .region id ops true => match mkPlan ops with | some p => [(id, p)] | none => []
  | .seq a b => plansOf a ++ plansOf b
  | .cond _ a b => plansOf a ++ plansOf b
  | .block _ b => plansOf b
  | .loop b => plansOf b
  | .rangeFunc _ _ a b => plansOf a ++ plansOf b
  | _ => []
def lookP : List (Nat × Plan) → Nat → Option Plan
  | [], _ => none
  | (i, p) :: r, id => if i = id then some p else lookP r id
def fnOf (P : Program) (f : FuncId) : Option Fun :=
  match P.funcs[f]? with
  | none => none
  | some fn => match fn.body with
    | none => none
    | some c => if fn.name ≠ "runtime.NumGoroutine" ∧ planOk (lookP (plansOf c)) c = true ∧ codeOk c = true then some { fn := fn, body := c, plan := lookP (plansOf c) } else none
theorem fnOf_ok {P : Program} {f : FuncId} {x : Fun} (h : fnOf P f = some x) : FunOk P f x := by
  unfold fnOf at h
  split at h
  · cases h
  · rename_i fn hf
    split at h
    · cases h
    · rename_i c hc
      split at h
      · rename_i hq
        cases h
        exact ⟨hf, hc, hq.1, hq.2.1, hq.2.2⟩
      · cases h
/-- no methods through interfaces, no functions that are told by hand. -/
def envP (P : Program) : Env := { ty := tyOf P, fn := fnOf P, meth := fun _ _ => none, ext := fun _ => none, row := fun _ => none }
theorem envP_ok {P : Program} (mx : P.follows .mixedOrders = true) : EnvOk K P (envP P) :=
  ⟨fun _ _ h => tyOf_ok h, fun _ _ _ h => (nomatch h), fun _ _ h => fnOf_ok h, fun _ _ h => (nomatch h), mx, fun _ _ h => (nomatch h)⟩
end Go.Vi
namespace Go.Vi
def h0 : Heap := { next := 0, tr := .leaf }
theorem good0' {K : Known} {w : World} (k : K.is (fun _ => none) w) : Good K (fun _ => none) h0 w :=
  ⟨⟨fun _ _ _ h => (nomatch h), fun _ _ _ _ h => (nomatch h), fun _ _ h => (nomatch h), fun b _ => by simp [h0, Heap.get, Trie.get]⟩, k⟩
theorem good0 (w : World) : Good .none (fun _ => none) h0 w := good0' trivial
/-- arguments without pointers, a boolean as the result. -/
theorem calls_bool {P : Program} {E : Env} (ok : EnvOk .none P E) {n : Nat} {f : FuncId} {args : List Value} {b : Bool} {h' : Heap} (hp : args.all (plainB 100) = true) (hv : callV E n f args h0 = some (.bool b, h')) (w : World) :
    Calls P f ⟨args⟩ w fun e w' => e = .returned (.bool b) ∧ w'.os = w.os ∧ w'.output = w.output ∧ w.heap.size ≤ w'.heap.size ∧ ∀ k, k < w.heap.size → w'.heap[k]? = w.heap[k]? := by
  refine ((call_ok ok n).calls f args h0 _ h' hv (fun _ => none) w ⟨args⟩ (good0 w) (fun _ _ _ => rfl) (plain_rels (fun v => plain_rel 100 v) args hp)).mono ?_
  rintro e w' ⟨ρ', v', rfl, rv, g', s⟩
  have : v' = .bool b := by cases rv; rfl
  subst this
  exact ⟨rfl, s.side.1, s.side.2, s.grow, fun k hk => s.rframe k hk (fun _ _ h => (nomatch h))⟩
end Go.Vi
namespace Go.Vi
theorem heavy_slim (ops : Array Oper) (o : Oper) : heavyOp (slim ops o).o = heavyOp o := by
  obtain ⟨dst, op, ty, pos, after, guard⟩ := o
  unfold heavyOp slim SOp.o
  rfl
structure SSeen where
  at_ : Nat
  op : SOp
  t : Tmps
  v : Value
def isRead (E : Env) (x : SOp) (t : Tmps) (h : Heap) : Bool := (pureV E (evV t) x.o).isNone && (readV E (evV t) h x.o).isSome
def drawT (E : Env) (call : CallV) : List SOp → Nat → St → List Heap → List SSeen → Option (St × List Heap × List SSeen)
  | [], _, s, hs, rs => some (s, hs ++ [s.2], rs)
  | x :: r, j, s, hs, rs =>
    let hs := if heavyOp x.o then hs ++ [s.2] else hs
    if wantS x.g s.1 then
      match stepV E call x.o s with
      | some (v, h) => drawT E call r (j + 1) (putV s.1 x.d v, h) hs (if !heavyOp x.o && isRead E x s.1 s.2 then ⟨j, x, s.1, v⟩ :: rs else rs)
      | none => none
    else drawT E call r (j + 1) (putV s.1 x.d undef, s.2) hs rs
def seenT (E : Env) (p : Plan) (hs : List Heap) (x : SSeen) : Bool :=
  let lo := p.lo.getD x.at_ 0
  let hi := p.hi.getD x.at_ 0
  (List.range (hi + 1 - lo)).all fun k => match hs[lo + k]? with
    | some h => match readV E (evV x.t) h x.op.o with
      | some v => veq 100000 v x.v
      | none => false
    | none => false
def thin (ops : Array Oper) (x : Seen) : SSeen := ⟨x.at_, slim ops x.op, x.t, x.v⟩
section
variable (E : Env) (call : CallV)
theorem pure_slim (ops : Array Oper) (o : Oper) (ev : Operand → Value) : pureV E ev (slim ops o).o = pureV E ev o := by
  obtain ⟨dst, op, ty, pos, after, guard⟩ := o
  unfold pureV slim SOp.o; cases op <;> rfl
theorem read_slim (ops : Array Oper) (o : Oper) (ev : Operand → Value) (h : Heap) : readV E ev h (slim ops o).o = readV E ev h o := by
  obtain ⟨dst, op, ty, pos, after, guard⟩ := o
  unfold readV slim SOp.o; cases op <;> rfl
theorem seen_slim (ops : Array Oper) (p : Plan) (hs : List Heap) (x : Seen) : seenT E p hs (thin ops x) = seenOk E p hs x := by
  unfold seenT seenOk thin
  simp only [read_slim]
  rfl
theorem draw_slim (ops : Array Oper) : ∀ (l : List Oper) (j : Nat) (s : St) (hs : List Heap) (rs : List Seen),
    (drawV E call ops l j s hs rs).map (fun x => (x.1, x.2.1, x.2.2.map (thin ops))) = drawT E call (l.map (slim ops)) j s hs (rs.map (thin ops)) := by
  intro l
  induction l with
  | nil => intro j s hs rs; rfl
  | cons o l ih =>
    intro j s hs rs
    simp only [List.map_cons, drawV, drawT, heavy_slim, want_slim, step_slim]
    cases wantedV ops o s.1 with
    | false => simp only [Bool.false_eq_true, if_false]; exact ih _ _ _ _
    | true =>
      simp only [if_true]
      cases stepV E call o s with
      | none => rfl
      | some x =>
        obtain ⟨v, h⟩ := x
        simp only
        rw [ih]
        have e : isRead E (slim ops o) s.1 s.2 = ((pureV E (evV s.1) o).isNone && (readV E (evV s.1) s.2 o).isSome) := by
          unfold isRead; rw [pure_slim, read_slim]
        have d : (slim ops o).d = o.dst := rfl
        rw [e, d, ← Bool.and_assoc]
        congr 1
        split <;> rfl
/-- a region whose order is drawn: its run in the order of the text, and what was read is the same at all places where it may be read. -/
theorem region_slim {ops : Array Oper} {p : Plan} {s s' : St} {hs : List Heap} {rs : List SSeen} (h : drawT E call (ops.toList.map (slim ops)) 0 s [] [] = some (s', hs, rs)) (hr : rs.all (seenT E p hs) = true) :
    regionV E call (some p) ops true s = some s' := by
  have h1 := draw_slim E call ops ops.toList 0 s [] []
  rw [List.map_nil, h] at h1
  obtain ⟨x, hx, he⟩ := Option.map_eq_some_iff.1 h1
  obtain ⟨a, b, c⟩ := x
  simp only [Prod.mk.injEq] at he
  obtain ⟨rfl, rfl, rfl⟩ := he
  unfold regionV
  simp only [if_true, hx]
  rw [List.all_map] at hr
  have : c.all (seenOk E p b) = true := by
    rw [← hr]
    have e : (seenT E p b ∘ thin ops) = seenOk E p b := by funext x; exact seen_slim E ops p b x
    rw [e]
  rw [if_pos this]
end
end Go.Vi
namespace Go.Vi
abbrev Drawn := Option (St × List Heap × List SSeen)
section
variable (E : Env) (call : CallV)
def drP (r : List SOp) (j : Nat) (t : Tmps) (h : Heap) (d : Option Tmp) (hs : List Heap) (rs : List SSeen) (x : Option Value) : Drawn := match x with
  | some v => drawT E call r (j + 1) (putV t d v, h) hs rs
  | none => none
def drR (r : List SOp) (j : Nat) (t : Tmps) (h : Heap) (o : SOp) (hs : List Heap) (rs : List SSeen) (x : Option Value) : Drawn := match x with
  | some v => drawT E call r (j + 1) (putV t o.d v, h) hs (⟨j, o, t, v⟩ :: rs)
  | none => none
def drH (r : List SOp) (j : Nat) (t : Tmps) (d : Option Tmp) (hs : List Heap) (rs : List SSeen) (x : Option (Value × Heap)) : Drawn := match x with
  | some (v, h) => drawT E call r (j + 1) (putV t d v, h) hs rs
  | none => none
theorem drP_some (r : List SOp) (j : Nat) (t : Tmps) (h : Heap) (d : Option Tmp) (hs : List Heap) (rs : List SSeen) (v : Value) : drP E call r j t h d hs rs (some v) = drawT E call r (j + 1) (putV t d v, h) hs rs := rfl
theorem drR_some (r : List SOp) (j : Nat) (t : Tmps) (h : Heap) (o : SOp) (hs : List Heap) (rs : List SSeen) (v : Value) : drR E call r j t h o hs rs (some v) = drawT E call r (j + 1) (putV t o.d v, h) hs (⟨j, o, t, v⟩ :: rs) := rfl
theorem drH_some (r : List SOp) (j : Nat) (t : Tmps) (d : Option Tmp) (hs : List Heap) (rs : List SSeen) (v : Value) (h : Heap) : drH E call r j t d hs rs (some (v, h)) = drawT E call r (j + 1) (putV t d v, h) hs rs := rfl
variable (d : Option Tmp) (ty : TypeId) (r : List SOp) (j : Nat) (t : Tmps) (h : Heap) (hs : List Heap) (rs : List SSeen)
theorem dr_nil (s : St) : drawT E call [] j s hs rs = some (s, hs ++ [s.2], rs) := rfl
/-- an operation that needs no memory. -/
theorem dr_pure {op : Op} {x : Option Value} (hl : heavyOp (SOp.o ⟨d, op, ty, none⟩) = false) (hp : pureV E (evV t) (SOp.o ⟨d, op, ty, none⟩) = x) (hst : stepV E call (SOp.o ⟨d, op, ty, none⟩) (t, h) = atH h x) :
    drawT E call (⟨d, op, ty, none⟩ :: r) j (t, h) hs rs = drP E call r j t h d hs rs x := by
  rw [drawT]
  simp only [hl, want_none, hst, Bool.false_eq_true, if_false, if_true]
  cases x with
  | none => rfl
  | some v => simp only [atH, drP, isRead, hp, Option.isNone_some, Bool.false_and, Bool.and_false, Bool.false_eq_true, if_false]
theorem dr_move (x : Operand) : drawT E call (⟨d, .move x, ty, none⟩ :: r) j (t, h) hs rs = drP E call r j t h d hs rs (some (evV t x)) := dr_pure E call d ty r j t h hs rs rfl rfl rfl
theorem dr_assign (x : Operand) : drawT E call (⟨d, .assign x, ty, none⟩ :: r) j (t, h) hs rs = drP E call r j t h d hs rs (some (evV t x)) := dr_pure E call d ty r j t h hs rs rfl rfl rfl
theorem dr_bin (op : BinOp) (xt yt : TypeId) (x y : Operand) : drawT E call (⟨d, .binOp op xt x y yt, ty, none⟩ :: r) j (t, h) hs rs = drP E call r j t h d hs rs (binV E op xt (isConstO x || isConstO y) (evV t x) (evV t y)) :=
  dr_pure E call d ty r j t h hs rs rfl rfl (sk_bin E call d ty t h op xt yt x y)
theorem dr_fieldAddr (s : TypeId) (x : Operand) (f : Nat) : drawT E call (⟨d, .fieldAddr s x f, ty, none⟩ :: r) j (t, h) hs rs = drP E call r j t h d hs rs (fieldAddrV E s (evV t x) f) :=
  dr_pure E call d ty r j t h hs rs rfl rfl (sk_fieldAddr E call d ty t h s x f)
theorem dr_indexAddr (s : TypeId) (x i : Operand) : drawT E call (⟨d, .indexAddr s x i, ty, none⟩ :: r) j (t, h) hs rs = drP E call r j t h d hs rs (indexAddrV E s (evV t x) (evV t i)) :=
  dr_pure E call d ty r j t h hs rs rfl rfl (sk_indexAddr E call d ty t h s x i)
theorem dr_field (s : TypeId) (x : Operand) (f : Nat) : drawT E call (⟨d, .field s x f, ty, none⟩ :: r) j (t, h) hs rs = drP E call r j t h d hs rs (fieldV E s (evV t x) f) :=
  dr_pure E call d ty r j t h hs rs rfl rfl (sk_field E call d ty t h s x f)
theorem dr_load (lt : TypeId) (a : Operand) : drawT E call (⟨d, .load lt a, ty, none⟩ :: r) j (t, h) hs rs = drR E call r j t h ⟨d, .load lt a, ty, none⟩ hs rs (loadV E lt (evV t a) h) := by
  rw [drawT]
  have hl : heavyOp (SOp.o ⟨d, .load lt a, ty, none⟩) = false := rfl
  simp only [hl, want_none, sk_load, Bool.false_eq_true, if_false, if_true]
  cases hv : loadV E lt (evV t a) h with
  | none => rfl
  | some v =>
    have hi : isRead E ⟨d, .load lt a, ty, none⟩ t h = true := by
      unfold isRead
      have h1 : pureV E (evV t) (SOp.o ⟨d, .load lt a, ty, none⟩) = none := rfl
      have h2 : readV E (evV t) h (SOp.o ⟨d, .load lt a, ty, none⟩) = loadV E lt (evV t a) h := rfl
      rw [h1, h2, hv]; rfl
    simp only [atH, drR, hi, Bool.not_false, Bool.and_self, if_true]
theorem dr_call (f : FuncId) (args : Array Operand) (ats : Array TypeId) :
    drawT E call (⟨d, .call { callee := .value (.func f), args := args, argTypes := ats }, ty, none⟩ :: r) j (t, h) hs rs = drH E call r j t d (hs ++ [h]) rs (callR E call f (args.map (evV t)).toList h) := by
  rw [drawT]
  have hl : heavyOp (SOp.o ⟨d, .call { callee := .value (.func f), args := args, argTypes := ats }, ty, none⟩) = true := rfl
  simp only [hl, want_none, sk_call, if_true, Bool.not_true, Bool.false_and, Bool.false_eq_true, if_false]
  cases callR E call f (args.map (evV t)).toList h <;> rfl
end
end Go.Vi
namespace Go.Vi

/-! ## Temporaries in a tree -/
inductive BT where
  | leaf
  | one (v : Value)
  | node (l r : BT)
noncomputable def BT.get (d : Nat) : Nat → BT → Value :=
  Nat.rec (fun _ t => BT.rec undef (fun v => v) (fun _ _ _ _ => undef) t)
    (fun _ ih i t => BT.rec undef (fun _ => undef) (fun l r _ _ => Bool.rec (ih (Nat.div i 2) l) (ih (Nat.div i 2) r) (Nat.beq (Nat.mod i 2) 1)) t) d
noncomputable def BT.put (v : Value) (d : Nat) : Nat → BT → BT :=
  Nat.rec (fun _ _ => .one v)
    (fun _ ih i t => BT.rec (Bool.rec (.node (ih (Nat.div i 2) .leaf) .leaf) (.node .leaf (ih (Nat.div i 2) .leaf)) (Nat.beq (Nat.mod i 2) 1))
      (fun _ => Bool.rec (.node (ih (Nat.div i 2) .leaf) .leaf) (.node .leaf (ih (Nat.div i 2) .leaf)) (Nat.beq (Nat.mod i 2) 1))
      (fun l r _ _ => Bool.rec (.node (ih (Nat.div i 2) l) r) (.node l (ih (Nat.div i 2) r)) (Nat.beq (Nat.mod i 2) 1)) t) d
noncomputable def BT.ofL (d : Nat) (l : List Value) : BT :=
  (List.rec (fun _ t => t) (fun v _ ih i t => ih (Nat.succ i) (BT.put v d i t)) l : Nat → BT → BT) 0 .leaf
noncomputable def BT.toL (d n : Nat) (t : BT) : List Value :=
  (Nat.rec (fun _ => []) (fun _ ih i => BT.get d i t :: ih (Nat.succ i)) n : Nat → List Value) 0
noncomputable def pathOf (d : Nat) : Nat → List Bool := Nat.rec (fun _ => []) (fun _ ih i => Nat.beq (Nat.mod i 2) 1 :: ih (Nat.div i 2)) d
noncomputable def BT.getp (p : List Bool) : BT → Value :=
  List.rec (fun t => BT.rec undef (fun v => v) (fun _ _ _ _ => undef) t) (fun b _ ih t => BT.rec undef (fun _ => undef) (fun l r _ _ => Bool.rec (ih l) (ih r) b) t) p
noncomputable def BT.putp (v : Value) (p : List Bool) : BT → BT :=
  List.rec (fun _ => .one v) (fun b _ ih t => BT.rec (Bool.rec (.node (ih .leaf) .leaf) (.node .leaf (ih .leaf)) b) (fun _ => Bool.rec (.node (ih .leaf) .leaf) (.node .leaf (ih .leaf)) b)
    (fun l r _ _ => Bool.rec (.node (ih l) r) (.node l (ih r)) b) t) p
def depthOf (n : Nat) : Nat := Nat.log2 n + 1

noncomputable def evF (d : Nat) (t : BT) (x : Operand) : Value :=
  Operand.rec (fun i => BT.getp (pathOf d i) t) (fun v => v) (fun _ => undef) (fun f => .func (.func f) #[] #[]) x
noncomputable def putF (d : Nat) (o : Option Tmp) (v : Value) (t : BT) : BT :=
  Option.rec t (fun i => BT.putp v (pathOf d i) t) o

/-! ## Operations -/
noncomputable def stepE (E : Env) (call : CallV) (ev : Operand → Value) (h : Heap) (o : Oper) : Option (Value × Heap) :=
  match pureV E ev o with
  | some v => some (v, h)
  | none =>
  match readV E ev h o with
  | some v => some (v, h)
  | none =>
  match newV E ev o with
  | some (b, m) => some (m.val h.next, h.new b)
  | none => heavyV E call ev h o

noncomputable def kIx (k : IntKind) : Nat := IntKind.rec (motive := fun _ => Nat) 0 1 2 3 4 5 6 7 k
/-- the greatest number of a kind. -/
noncomputable def kMax (k : IntKind) : Nat := IntKind.rec (motive := fun _ => Nat) 127 32767 2147483647 9223372036854775807 255 65535 4294967295 18446744073709551615 k
noncomputable def wrS (k : IntKind) (x : Int) : Int :=
  Int.rec (motive := fun _ => Int) (fun m => Bool.rec (k.wrap (.ofNat m)) (.ofNat m) (Nat.ble m (kMax k))) (fun m => Bool.rec (k.wrap (.negSucc m)) (.negSucc m) (Nat.ble m (kMax k))) x
noncomputable def wrU (k : IntKind) (x : Int) : Int :=
  Int.rec (motive := fun _ => Int) (fun m => Bool.rec (k.wrap (.ofNat m)) (.ofNat m) (Nat.ble m (kMax k))) (fun m => k.wrap (.negSucc m)) x
noncomputable def wrF (k : IntKind) : Int → Int := IntKind.rec (motive := fun _ => Int → Int) (wrS .i8) (wrS .i16) (wrS .i32) (wrS .i64) (wrU .u8) (wrU .u16) (wrU .u32) (wrU .u64) k
noncomputable def ltF (x y : Int) : Bool :=
  Int.rec (motive := fun _ => Bool) (fun m => Int.rec (motive := fun _ => Bool) (fun n => Nat.ble (Nat.succ m) n) (fun _ => false) y)
    (fun m => Int.rec (motive := fun _ => Bool) (fun _ => true) (fun n => Nat.ble (Nat.succ n) m) y) x
noncomputable def leF (x y : Int) : Bool :=
  Int.rec (motive := fun _ => Bool) (fun m => Int.rec (motive := fun _ => Bool) (fun n => Nat.ble m n) (fun _ => false) y)
    (fun m => Int.rec (motive := fun _ => Bool) (fun _ => true) (fun n => Nat.ble n m) y) x
noncomputable def eqF (x y : Int) : Bool :=
  Int.rec (motive := fun _ => Bool) (fun m => Int.rec (motive := fun _ => Bool) (fun n => Nat.beq m n) (fun _ => false) y)
    (fun m => Int.rec (motive := fun _ => Bool) (fun _ => false) (fun n => Nat.beq m n) y) x
noncomputable def bitF (f : Nat → Nat → Nat) (op : BinOp) (k : IntKind) (x y : Int) : Option Value :=
  Int.rec (motive := fun _ => Option Value) (fun m => Int.rec (motive := fun _ => Option Value)
      (fun n => Bool.rec (bitV op k (.ofNat m) (.ofNat n)) (some (.int k (.ofNat (f m n)))) (Bool.rec false (Nat.ble n (kMax k)) (Nat.ble m (kMax k))))
      (fun n => bitV op k (.ofNat m) (.negSucc n)) y)
    (fun m => bitV op k (.negSucc m) y) x
noncomputable def shrF (k : IntKind) (x y : Int) : Option Value :=
  Int.rec (motive := fun _ => Option Value) (fun m => Int.rec (motive := fun _ => Option Value)
      (fun n => Bool.rec (arithV .shr k (.ofNat m) (.ofNat n)) (some (.int k (.ofNat (Nat.shiftRight m n)))) (Bool.rec false (Nat.ble n 8) (Nat.ble m (kMax k))))
      (fun n => arithV .shr k (.ofNat m) (.negSucc n)) y)
    (fun m => arithV .shr k (.negSucc m) y) x
abbrev ArFn := IntKind → Int → Int → Option Value
noncomputable def arAdd : ArFn := fun k a b => some (.int k (wrF k (Int.add a b)))
noncomputable def arSub : ArFn := fun k a b => some (.int k (wrF k (Int.sub a b)))
noncomputable def arMul : ArFn := fun k a b => some (.int k (wrF k (Int.mul a b)))
noncomputable def arEql : ArFn := fun _ a b => some (.bool (eqF a b))
noncomputable def arNeq : ArFn := fun _ a b => some (.bool (Bool.rec true false (eqF a b)))
noncomputable def arLss : ArFn := fun _ a b => some (.bool (ltF a b))
noncomputable def arLeq : ArFn := fun _ a b => some (.bool (leF a b))
noncomputable def arGtr : ArFn := fun _ a b => some (.bool (ltF b a))
noncomputable def arGeq : ArFn := fun _ a b => some (.bool (leF b a))
noncomputable def arithF (op : BinOp) : ArFn :=
  BinOp.rec (motive := fun _ => ArFn) arAdd arSub arMul (arithV .quo) (arithV .rem) (bitF Nat.land .and) (bitF Nat.lor .or) (bitF Nat.xor .xor) (arithV .shl) shrF (arithV .andNot) arEql arNeq arLss arLeq arGtr arGeq op
noncomputable def binX (E : Env) (op : BinOp) (t : TypeId) (a b : Operand) (x y : Value) : Option Value :=
  match x with
  | .int k m => match y with
    | .int k' n => Bool.rec (binV E op t (isConstO a || isConstO b) x y) (arithF op k m n) (Nat.beq (kIx k) (kIx k'))
    | _ => binV E op t (isConstO a || isConstO b) x y
  | _ => binV E op t (isConstO a || isConstO b) x y
/-- where a field lies: of a pointer's struct; it has a size. -/
noncomputable def fieldAt (E : Env) (s : TypeId) (f : Nat) : Option Nat := do
  let i ← E.ty s
  match i.under with
  | .struct fs => do
    let f ← fs[f]?
    let e ← E.ty f.type
    if e.size = 0 then none else some f.offset
  | _ => none
noncomputable def addrK (x : Value) (n : Nat) : Option Value :=
  match x with
  | .pointer (some a) => some (.pointer (some (a.add n)))
  | _ => none
noncomputable def fieldAddrF (E : Env) (s : TypeId) (x : Value) (f : Nat) : Option Value :=
  match fieldAt E s f with
  | some n => addrK x n
  | none => none
/-- the size of a slice's elements. -/
noncomputable def elemOf (E : Env) (t : TypeId) : Option Nat := do
  let i ← E.ty t
  match i.under with
  | .slice elem => (E.ty elem).map (·.size)
  | _ => none
noncomputable def indexK (a : Addr) (len : Nat) (n : Int) (sz : Nat) : Option Value :=
  Int.rec (motive := fun _ => Option Value) (fun m => Bool.rec none (Bool.rec (some (.pointer (some (a.add (Nat.mul m sz))))) none (Nat.beq sz 0)) (Nat.ble (Nat.succ m) len)) (fun _ => none) n
/-- an array's length, and the size of its elements. -/
noncomputable def arrOf (E : Env) (t : TypeId) : Option (Nat × Nat) := do
  let i ← E.ty t
  match i.under with
  | .array len elem => (E.ty elem).map fun e => (len, e.size)
  | _ => none
noncomputable def arrK (len sz : Nat) (x ix : Value) : Option Value :=
  match x with
  | .pointer (some a) => match ix with
    | .int _ n => indexK a len n sz
    | _ => none
  | _ => none
noncomputable def indexAddrF (E : Env) (t : TypeId) (x ix : Value) : Option Value :=
  match elemOf E t with
  | some sz =>
    match x, ix with
    | .slice (some a) len _, .int _ n => indexK a len n sz
    | _, _ => none
  | none => match arrOf E t with
    | some (len, sz) => arrK len sz x ix
    | none => indexAddrV E t x ix
/-- how a type is loaded: its size, and whether it is more than one cell's. -/
noncomputable def loadK (E : Env) (t : TypeId) : Option (Nat × Bool) := (E.ty t).map fun i => (i.size, i.agg)
/-- a halt for the kernel: long rows are run through without deep recursion. -/
def hop {α : Type} (x : α) : α := x
noncomputable def dropR (i : Nat) : List Value → List Value :=
  Nat.rec (fun l => l) (fun _ ih l => hop (List.rec [] (fun _ r _ => ih r) l)) i
noncomputable def nthR (i : Nat) : List Value → Option Value :=
  Nat.rec (fun l => List.rec none (fun v _ _ => some v) l) (fun _ ih l => hop (List.rec none (fun _ r _ => ih r) l)) i
noncomputable def setR (x : Value) (i : Nat) : List Value → List Value :=
  Nat.rec (fun l => List.rec [] (fun _ r _ => x :: r) l) (fun _ ih l => List.rec [] (fun v r _ => v :: ih r) l) i
noncomputable def getR (n : Nat) (t : Trie Blk) : Option Blk :=
  (Nat.rec (fun _ t => Trie.rec none (fun _ v _ _ _ => v) t)
    (fun _ ih n t => Trie.rec none (fun l v r _ _ => Bool.rec (Bool.rec (ih (Nat.div n 2) l) (ih (Nat.div n 2) r) (Nat.beq (Nat.mod n 2) 1)) v (Nat.beq n 0)) t) n : Nat → Trie Blk → Option Blk) n t
noncomputable def putR (x : Option Blk) (n : Nat) (t : Trie Blk) : Trie Blk :=
  (Nat.rec (fun _ t => Trie.rec (.node .leaf x .leaf) (fun l _ r _ _ => .node l x r) t)
    (fun _ ih n t => Bool.rec
      (Trie.rec (Bool.rec (.node (ih (Nat.div n 2) .leaf) none .leaf) (.node .leaf none (ih (Nat.div n 2) .leaf)) (Nat.beq (Nat.mod n 2) 1))
        (fun l v r _ _ => Bool.rec (.node (ih (Nat.div n 2) l) v r) (.node l v (ih (Nat.div n 2) r)) (Nat.beq (Nat.mod n 2) 1)) t)
      (Trie.rec (.node .leaf x .leaf) (fun l _ r _ _ => .node l x r) t) (Nat.beq n 0)) n : Nat → Trie Blk → Trie Blk) n t
noncomputable def leR (n : Nat) : List Value → Bool := Nat.rec (fun _ => true) (fun _ ih l => hop (List.rec false (fun _ r _ => ih r) l)) n
noncomputable def takeR (n : Nat) : List Value → List Value := Nat.rec (fun _ => []) (fun _ ih l => List.rec [] (fun v r _ => v :: ih r) l) n
noncomputable def appR (l m : List Value) : List Value := List.rec m (fun v _ ih => v :: ih) l
noncomputable def allR (l : List Value) : Bool := List.rec true (fun v _ ih => hop (Bool.rec false ih (oneCell v))) l
noncomputable def dropL (l : List Value) : List Value → List Value := List.rec (fun cs => cs) (fun _ _ ih cs => hop (List.rec [] (fun _ r _ => ih r) cs)) l
noncomputable def overR (l : List Value) (i : Nat) : List Value → List Value := Nat.rec (fun cs => appR l (dropL l cs)) (fun _ ih cs => List.rec l (fun v r _ => v :: ih r) cs) i
noncomputable def rdG (h : Heap) (a : Addr) (n : Nat) : Option (List Value) :=
  match a.spot with
  | none => match getR a.block h.tr with
    | some (.cells cs _ _) => Bool.rec none (some (takeR n (dropR a.off cs))) (leR (a.off + n) cs)
    | _ => none
  | _ => none
noncomputable def wrG (h : Heap) (a : Addr) (l : List Value) : Option Heap :=
  match a.spot with
  | none => match getR a.block h.tr with
    | some (.cells cs true o) => Bool.rec none (some { next := h.next, tr := putR (some (.cells (overR l a.off cs) true o)) a.block h.tr }) (leR (a.off + l.length) cs)
    | _ => none
  | _ => none
noncomputable def loadBig (E : Env) (t : TypeId) (p : Value) (h : Heap) : Option Value := do
  let i ← E.ty t
  let a ← ptrOf p
  let l ← rdG h a i.size
  if i.agg then some (aggOf l) else if i.size = 1 then ofCells false l else none
noncomputable def storeBig (E : Env) (t : TypeId) (p v : Value) (h : Heap) : Option Heap := do
  let i ← E.ty t
  let a ← ptrOf p
  let l := cellsOf v
  if l.length = i.size ∧ l.all oneCell then wrG h a l else none
noncomputable def srcF (size : Nat) (x : Value) (h : Heap) : Option (Nat × List Value) :=
  match x with
  | .slice none _ _ => some (0, [])
  | .slice (some a) n _ => if n = 0 then some (0, []) else (rdG h a (n * size)).map fun l => (n, l)
  | .string s => some (s.size, (strL s).map byteV)
  | _ => none
/-- the length of what is appended: of a slice's elements it is known. -/
noncomputable def lenOkF (okx : Bool) (x : Value) (new : List Value) (k : Nat) : Bool :=
  match x with
  | .slice (some _) n _ => Bool.rec (new.length == k) (Bool.rec true (new.length == k) (Nat.beq n 0)) okx
  | _ => new.length == k
noncomputable def srcAF (okx : Bool) (e : Ty) (x : Value) (h : Heap) : Option (Nat × List Value) := if okx then srcF e.size x h else zsrcV e x
noncomputable def appendF (E : Env) (t : TypeId) (xt : Option TypeId) (s x : Value) (h : Heap) : Option (Value × Heap) := do
  let i ← E.ty t
  match i.under, s with
  | .slice elem, .slice base len cap => do
    let e ← E.ty elem
    let okx ← okSrc E xt
    let (n, new) ← srcAF okx e x h
    if e.size = 0 || !lenOkF okx x new (n * e.size) || !allR new then none else
    if len + n ≤ cap then
      if n = 0 then some (s, h) else
      match base with
      | some a => do
        let h' ← wrG h (a.add (len * e.size)) new
        some (.slice base (len + n) cap, h')
      | none => none
    else if (len + n) * e.bytes > 2 ^ 36 ∨ len + n > 2 ^ 36 ∨ (e.zero.map fun z => (cellsOf z).length) ≠ some e.size then none else
    match base with
    | none => if len = 0 then some (.slice (some ⟨h.next, 0, none⟩) n n, { next := h.next + 1, tr := putR (some (.cells new true (some (e.size, elem)))) h.next h.tr }) else none
    | some a =>
      match a.spot, getR a.block h.tr with
      | none, some (.cells cs wr o) =>
        if leR (a.off + len * e.size) cs then
          let h' : Heap := { next := h.next + 1, tr := putR (some (.cells (appR (takeR (len * e.size) (dropR a.off cs)) new) true (some (e.size, elem)))) h.next h.tr }
          match o with
          | none => some (.slice (some ⟨h.next, 0, none⟩) (len + n) (len + n), h')
          | some z => if z = (e.size, elem) ∧ wr then some (.slice (some ⟨h.next, 0, none⟩) (len + n) (len + n), { next := h'.next, tr := putR none a.block h'.tr }) else none
        else none
      | _, _ => none
  | _, _ => none
noncomputable def cellF (h : Heap) (a : Addr) : Option Value :=
  match a.spot with
  | none => match getR a.block h.tr with
    | some (.cells cs _ _) => nthR a.off cs
    | _ => none
  | _ => none
noncomputable def loadF (E : Env) (t : TypeId) (p : Value) (h : Heap) : Option Value :=
  match loadK E t with
  | some (1, false) => match p with
    | .pointer (some a) => match cellF h a with
      | some v => if oneCell v then some v else loadV E t p h
      | none => none
    | _ => none
  | _ => loadBig E t p h
noncomputable def storeCell (h : Heap) (a : Addr) (v : Value) : Option Heap :=
  match a.spot with
  | none => match getR a.block h.tr with
    | some (.cells cs true o) => match nthR a.off cs with
      | some _ => some { next := h.next, tr := putR (some (.cells (setR v a.off cs) true o)) a.block h.tr }
      | none => none
    | _ => none
  | _ => none
noncomputable def storeF (E : Env) (t : TypeId) (p v : Value) (h : Heap) : Option Heap :=
  match loadK E t with
  | some (1, _) => if oneCell v then match p with
      | .pointer (some a) => storeCell h a v
      | _ => none
    else storeBig E t p v h
  | _ => storeBig E t p v h
noncomputable def newF (h : Heap) (b : Blk) : Heap := { next := h.next + 1, tr := putR (some b) h.next h.tr }
/-- a type's noughts. -/
noncomputable def zeroK (E : Env) (t : TypeId) : Option (List Value) := (E.ty t).bind fun i => i.zero.map cellsOf
noncomputable def allocK (E : Env) (t : TypeId) : Option (List Value × Option (Nat × Nat)) := (E.ty t).bind fun i => i.zero.map fun z => (cellsOf z, tagOf i.tag t)
noncomputable def ifaceK (E : Env) (t : TypeId) : Option Unit := (E.ty t).bind fun i => if isIface i.under then none else some ()
abbrev StepFn := Env → CallV → (Operand → Value) → Heap → SOp → Option (Value × Heap)
noncomputable def fGen : StepFn := fun E call ev h x => stepE E call ev h x.o
noncomputable def fMove (a : Operand) : StepFn := fun _ _ ev h _ => some (ev a, h)
noncomputable def pickF (c a b : Value) : Option Value := match c with
  | .bool t => some (Bool.rec b a t)
  | _ => none
noncomputable def fPick (c a b : Operand) : StepFn := fun _ _ ev h _ => atH h (pickF (ev c) (ev a) (ev b))
noncomputable def fBin (op : BinOp) (t : TypeId) (a b : Operand) (_ : TypeId) : StepFn := fun E _ ev h _ => atH h (binX E op t a b (ev a) (ev b))
noncomputable def fUn (op : UnOp) (_ : TypeId) (a : Operand) : StepFn := fun _ _ ev h _ => atH h (unV op (ev a))
noncomputable def fBuild (t : TypeId) (ps : Array (Nat × Operand)) : StepFn := fun E _ ev h _ => atH h (buildV E t (partsV ev ps))
noncomputable def fFieldAddr (s : TypeId) (a : Operand) (f : Nat) : StepFn := fun E _ ev h _ => atH h (fieldAddrF E s (ev a) f)
noncomputable def fField (s : TypeId) (a : Operand) (f : Nat) : StepFn := fun E _ ev h _ => atH h (fieldV E s (ev a) f)
noncomputable def fIndexAddr (s : TypeId) (a i : Operand) : StepFn := fun E _ ev h _ => atH h (indexAddrF E s (ev a) (ev i))
noncomputable def fIndex (s : TypeId) (a i : Operand) : StepFn := fun E _ ev h _ => atH h (indexV E s (ev a) (ev i))
noncomputable def fExtract (a : Operand) (i : Nat) : StepFn := fun _ _ ev h _ => atH h (extrK (ev a) i)
noncomputable def fLoad (t : TypeId) (a : Operand) : StepFn := fun E _ ev h _ => atH h (loadF E t (ev a) h)
noncomputable def fStore (t : TypeId) (a b : Operand) : StepFn := fun E _ ev h _ => heapK undef (storeF E t (ev a) (ev b) h)
noncomputable def fBox (_ : TypeId) (a : Operand) : StepFn := fun _ _ ev h _ => some (Mk.ptr.val h.next, newF h (.cells (cellsOf (ev a)) true none))
noncomputable def callW (r : Option (List Value → Heap → Option (Value × Heap))) (call : CallV) (g : FuncId) (args : List Value) (h : Heap) : Option (Value × Heap) :=
  match r with
  | some r => r args h
  | none => call g args h
noncomputable def callU (v : Value) (E : Env) (call : CallV) (ev : Operand → Value) (h : Heap) (x : SOp) (args : Array Operand) : Option (Value × Heap) :=
  match v with
  | .func (.func g) first captured => callW (E.row g) call g (first.toList ++ (args.toList.map ev ++ captured.toList)) h
  | _ => stepE E call ev h x.o
noncomputable def fNew : StepFn := fun E _ ev h x => newK h (newV E ev x.o)
noncomputable def fAlloc (t : TypeId) : StepFn := fun E _ _ h _ => match allocK E t with
  | some p => some (Mk.ptr.val h.next, newF h (.cells p.1 true p.2))
  | none => none
noncomputable def fPure : StepFn := fun E _ ev h x => atH h (pureV E ev x.o)
noncomputable def fIface (t : TypeId) (a : Operand) : StepFn := fun E _ ev h _ => match ifaceK E t with
  | some _ => some (.iface t (ev a), h)
  | none => none
noncomputable def fSlice (t : TypeId) (a : Operand) (lo hi mx : Option Operand) : StepFn := fun E _ ev h _ =>
  orK (atH h (sliceV E t (ev a) (lo.map ev) (hi.map ev) (mx.map ev))) (atH h (sliceS E t (ev a) (lo.map ev) (hi.map ev) (mx.map ev) h))
noncomputable def fLookup (t : TypeId) (a i : Operand) (ok : Bool) : StepFn := fun E _ ev h _ => atH h (lookupV E t (ev a) (ev i) ok h)
noncomputable def fHeavy : StepFn := fun E call ev h x => heavyV E call ev h x.o
/-- a conversion between kinds of numbers. -/
noncomputable def convK (E : Env) (s d : TypeId) : Option IntKind :=
  if s = d then none else do
  let i ← E.ty s
  let j ← E.ty d
  match i.under, j.under with
  | .int _, .int k => some k
  | _, _ => none
noncomputable def convX (k : IntKind) (x : Value) : Option Value := match x with
  | .int _ n => some (.int k (wrF k n))
  | _ => none
noncomputable def fConv (s d : TypeId) (a : Operand) : StepFn := fun E call ev h x => match convK E s d with
  | some k => atH h (convX k (ev a))
  | none => stepE E call ev h x.o
noncomputable def fValue (f : Operand) : Call → StepFn := fun c E call ev h x => callU (ev f) E call ev h x c.args
noncomputable def lenK (v : Value) : Option Value := match v with
  | .slice _ n _ => some (.int .i64 n)
  | _ => none
noncomputable def fLen : Call → StepFn := fun c E call ev h x => match c.args.toList, c.argTypes.toList with
  | a :: _, t :: _ => match elemOf E t with
    | some _ => atH h (lenK (ev a))
    | none => stepE E call ev h x.o
  | _, _ => stepE E call ev h x.o
noncomputable def fAppend : Call → StepFn := fun c E call ev h x => match c.args.toList, c.argTypes.toList with
  | [s, a], [t, u] => appendF E t (some u) (ev s) (ev a) h
  | _, _ => stepE E call ev h x.o
noncomputable def fGenC : Call → StepFn := fun _ => fGen
noncomputable def builtinTab (b : Builtin) : Call → StepFn := match b with
  | .len => fLen
  | .append => fAppend
  | _ => fGenC
noncomputable def fCall (c : Call) : StepFn := Callee.rec (motive := fun _ => Call → StepFn) fValue (fun _ _ _ => fGen) builtinTab c.callee c
noncomputable def opTab (o : Op) : StepFn :=
  Op.rec (motive := fun _ => StepFn) fMove fMove fPick fAlloc fBox fBuild (fun _ _ _ => fNew) (fun _ _ _ _ => fHeavy) fLoad fStore (fun _ => fGen) (fun _ => fGen) (fun _ => fPure) fBin fUn
    fConv (fun _ _ => fGen) fIface (fun _ _ _ => fPure) (fun _ _ => fNew) (fun _ _ => fGen) (fun _ _ _ => fNew) fSlice fFieldAddr fField fIndexAddr fIndex
    fLookup (fun _ _ _ _ => fHeavy) (fun _ _ _ => fHeavy) (fun _ _ _ _ => fHeavy) (fun _ _ => fHeavy) (fun _ _ => fHeavy) (fun _ => fGen) (fun _ _ _ _ => fPure) fExtract fCall
    (fun _ => fGen) (fun _ => fGen) (fun _ => fGen) (fun _ _ => fGen) (fun _ _ _ => fGen) (fun _ _ => fGen) o
noncomputable def stepF (E : Env) (call : CallV) (ev : Operand → Value) (h : Heap) (x : SOp) : Option (Value × Heap) := opTab x.op E call ev h x

/-! ## Regions -/
noncomputable def wantF (d : Nat) (t : BT) (g : Option (Option Tmp × Bool)) : Bool :=
  match g with
  | none => true
  | some (some i, want) => match BT.getp (pathOf d i) t with
    | .bool b => b == want
    | _ => false
  | some (none, _) => false
noncomputable def opsK (rest : BT → Heap → Option (BT × Heap)) (d : Nat) (o : Option Tmp) (t : BT) (x : Option (Value × Heap)) : Option (BT × Heap) :=
  match x with
  | some (v, h) => rest (putF d o v t) h
  | none => none
noncomputable def opsF (E : Env) (call : CallV) (d : Nat) (l : List SOp) : BT → Heap → Option (BT × Heap) :=
  List.rec (fun t h => some (t, h)) (fun x _ ih t h => Bool.rec (ih (putF d x.d undef t) h) (opsK ih d x.d t (stepF E call (evF d t) h x)) (wantF d t x.g)) l
structure FSeen where
  at_ : Nat
  op : SOp
  t : BT
  v : Value
noncomputable def maybeRead (x : SOp) : Option Bool :=
  match x.op with
  | .load .. | .lookup .. => some true
  | .convert .. | .slice .. | .call .. => none
  | _ => some false
noncomputable def readsF (E : Env) (ev : Operand → Value) (h : Heap) (x : SOp) : Bool :=
  match maybeRead x with
  | some b => b
  | none => (pureV E ev x.o).isNone && (readV E ev h x.o).isSome
noncomputable def drawK (rest : BT → Heap → List FSeen → Option (BT × Heap × List Heap × List FSeen)) (d : Nat) (o : Option Tmp) (t : BT) (x : Option (Value × Heap)) (rs : Value → List FSeen) : Option (BT × Heap × List Heap × List FSeen) :=
  match x with
  | some (v, h) => rest (putF d o v t) h (rs v)
  | none => none
noncomputable def drawF (E : Env) (call : CallV) (d : Nat) (l : List SOp) : Nat → BT → Heap → List Heap → List FSeen → Option (BT × Heap × List Heap × List FSeen) :=
  List.rec (fun _ t h hs rs => some (t, h, hs ++ [h], rs))
    (fun x _ ih j t h hs rs => Bool.rec
      (ih (j + 1) (putF d x.d undef t) h (Bool.rec hs (hs ++ [h]) (heavyOp x.o)) rs)
      (drawK (fun t' h' rs' => ih (j + 1) t' h' (Bool.rec hs (hs ++ [h]) (heavyOp x.o)) rs') d x.d t (stepF E call (evF d t) h x)
        (fun v => Bool.rec (Bool.rec rs (⟨j, x, t, v⟩ :: rs) (readsF E (evF d t) h x)) rs (heavyOp x.o)))
      (wantF d t x.g)) l
noncomputable def sameAt (E : Env) (ev : Operand → Value) (x : SOp) (v : Value) (h : Option Heap) : Bool :=
  match h with
  | some h => match readV E ev h x.o with
    | some u => veq 100000 u v
    | none => false
  | none => false
noncomputable def seenF (E : Env) (d : Nat) (p : Plan) (hs : List Heap) (x : FSeen) : Bool :=
  (List.range (p.hi.getD x.at_ 0 + 1 - p.lo.getD x.at_ 0)).all fun k => sameAt E (evF d x.t) x.op x.v hs[p.lo.getD x.at_ 0 + k]?
noncomputable def regK (E : Env) (d : Nat) (p : Plan) (x : Option (BT × Heap × List Heap × List FSeen)) : Option (Ex × BT × Heap) :=
  match x with
  | some (t, h, hs, rs) => Bool.rec none (some (.normal, t, h)) (rs.all (seenF E d p hs))
  | none => none
noncomputable def regF (E : Env) (call : CallV) (d : Nat) (pl : Option Plan) (ops : List SOp) (t : BT) (h : Heap) : Option (Ex × BT × Heap) :=
  match pl with
  | some p => regK E d p (drawF E call d ops 0 t h [] [])
  | none => none

/-! ## Code -/
noncomputable def endF (x : Option (BT × Heap)) : Option (Ex × BT × Heap) :=
  match x with
  | some (t, h) => some (.normal, t, h)
  | none => none
noncomputable def seqF (b : BT → Heap → Option (Ex × BT × Heap)) (x : Option (Ex × BT × Heap)) : Option (Ex × BT × Heap) :=
  match x with
  | some (.normal, t, h) => b t h
  | r => r
noncomputable def condF (a b : BT → Heap → Option (Ex × BT × Heap)) (t : BT) (h : Heap) (v : Value) : Option (Ex × BT × Heap) :=
  match v with
  | .bool c => Bool.rec (b t h) (a t h) c
  | _ => none
noncomputable def blockF (id : Nat) (x : Option (Ex × BT × Heap)) : Option (Ex × BT × Heap) :=
  match x with
  | some (.exit i, t, h) => if i = id then some (.normal, t, h) else some (.exit i, t, h)
  | r => r
noncomputable def iterF (f : BT → Heap → Option (Ex × BT × Heap)) (n : Nat) : BT → Heap → Option (Ex × BT × Heap) :=
  Nat.rec (fun _ _ => none) (fun _ ih t h => seqF ih (f t h)) n
noncomputable def rangeE (l : Nat) (t : BT) (x : Option (Value × Heap)) : Option (Ex × BT × Heap) :=
  match x with
  | some (_, h) => match getR l h.tr with
    | some (.loop r) => if r.st == .busy then none else match exOf r.pending with
      | some x => some (x, t, { next := h.next, tr := putR (some (.loop { r with st := .exhausted })) l h.tr })
      | none => none
    | _ => none
  | none => none
noncomputable def rangeF (call : CallV) (d n : Nat) (pl : Nat → Option Plan) (ps : Array Tmp) (a b : Code) (t : BT) (h : Heap) (v : Value) : Option (Ex × BT × Heap) :=
  match v with
  | .func (.func f) first captured =>
    rangeE h.next t (call f (first.toList ++ [.func (.yield h.next) #[] #[]] ++ captured.toList) (newF h (.loop { st := .ready, pending := none, tmps := BT.toL d n t, params := ps, assign := a, body := b, plan := pl })))
  | _ => none
noncomputable def codeF (E : Env) (call : CallV) (pl : Nat → Option Plan) (fuel d n : Nat) (c : Code) : BT → Heap → Option (Ex × BT × Heap) :=
  Code.rec (motive := fun _ => BT → Heap → Option (Ex × BT × Heap))
    (skip := fun t h => some (.normal, t, h))
    (region := fun id ops draw t h => Bool.rec (endF (opsF E call d (ops.toList.map (slim ops)) t h)) (regF E call d (pl id) (ops.toList.map (slim ops)) t h) draw)
    (seq := fun _ _ a b t h => seqF b (a t h))
    (cond := fun c _ _ a b t h => condF a b t h (evF d t c))
    (block := fun id _ b t h => blockF id (b t h))
    (loop := fun _ b t h => iterF b fuel t h)
    (exit := fun id t h => some (.exit id, t, h))
    (ret := fun t h => some (.ret, t, h))
    (rangeFunc := fun g ps a b _ _ t h => Bool.rec none (rangeF call d n pl ps a b t h (evF d t g)) (flat a && flat b))
    (scope := fun _ _ _ _ => none) (label := fun _ _ _ => none) (goto := fun _ _ _ => none) (refuse := fun _ _ _ => none) c

/-! ## Calls -/
noncomputable def operOk (n : Nat) (x : Operand) : Bool :=
  match x with
  | .tmp i => decide (i < n)
  | .const v => plainB 100 v
  | .global _ => false
  | .func _ => true
noncomputable def sopOk (n : Nat) (x : SOp) : Bool :=
  x.op.operands.toList.all (operOk n) && (match x.d with | some i => decide (i < n) | none => true) && (match x.g with | some (some i, _) => decide (i < n) | _ => true)
noncomputable def codeChk (n : Nat) : Code → Bool
  | .region _ ops _ => (ops.toList.map (slim ops)).all (sopOk n)
  | .seq a b => codeChk n a && codeChk n b
  | .cond c a b => operOk n c && codeChk n a && codeChk n b
  | .block _ b => codeChk n b
  | .loop b => codeChk n b
  | .rangeFunc g _ a b => operOk n g && codeChk n a && codeChk n b
  | _ => true
noncomputable def resF1 (E : Env) (d n : Nat) (t : BT) (h : Heap) (l : List ResultVar) : Option (List Value) :=
  List.rec (some []) (fun r _ ih => match r with
    | .tmp i => if i < n then match ih with | some l => some (BT.get d i t :: l) | none => none else none
    | .cell a ty => if a < n then match loadF E ty (BT.get d a t) h, ih with | some v, some l => some (v :: l) | _, _ => none else none) l
noncomputable def retF (E : Env) (d n : Nat) (rs : List ResultVar) (x : Option (Ex × BT × Heap)) : Option (Value × Heap) :=
  match x with
  | some (e, t, h) => match e with
    | .exit _ => none
    | _ => match resF1 E d n t h rs with
      | some l => some (oneOrTuple l, h)
      | none => none
  | none => none
noncomputable def fnChk (fn : Fun) : Bool := codeChk fn.fn.ntmps fn.body
noncomputable def fnF (E : Env) (call : CallV) (fuel : Nat) (fn : Fun) (args : List Value) (h : Heap) : Option (Value × Heap) :=
  Bool.rec none (if args.length ≤ fn.fn.ntmps then
    retF E (depthOf fn.fn.ntmps) fn.fn.ntmps fn.fn.results.toList (codeF E call fn.plan fuel (depthOf fn.fn.ntmps) fn.fn.ntmps fn.body (BT.ofL (depthOf fn.fn.ntmps) args) h) else none) (fnChk fn)
noncomputable def yldF (E : Env) (call : CallV) (fuel : Nat) (l : Nat) (args : List Value) (h : Heap) : Option (Value × Heap) :=
  match getR l h.tr with
  | some (.loop r) =>
    if args.length ≠ r.params.size then none else
    Bool.rec none (
    match codeF E call r.plan fuel (depthOf r.tmps.length) r.tmps.length r.assign (BT.ofL (depthOf r.tmps.length) (setAll (r.params.toList.zip args) r.tmps)) h with
    | some (.normal, t1, h1) =>
      match getR l h1.tr with
      | some (.loop r1) =>
        if r1.st == .ready then
          match codeF E call r.plan fuel (depthOf r.tmps.length) r.tmps.length r.body t1 { next := h1.next, tr := putR (some (.loop { r1 with st := .busy })) l h1.tr } with
          | some (x, _, h3) =>
            match getR l h3.tr with
            | some (.loop r3) => some (.bool (jumpOf x).isNone, { next := h3.next, tr := putR (some (.loop { r3 with st := if (jumpOf x).isNone then .ready else .done, pending := jumpOf x })) l h3.tr })
            | _ => none
          | none => none
        else none
      | _ => none
    | _ => none) (codeChk r.tmps.length r.assign && codeChk r.tmps.length r.body)
  | _ => none
noncomputable def callF (E : Env) (n : Nat) : CallV :=
  Nat.rec { fn := fun _ _ _ => none, yld := fun _ _ _ => none }
    (fun n ih => { fn := fun f args h => match E.ext f with
                     | some g => g args h
                     | none => match E.fn f with
                       | some fn => fnF E ih n fn args h
                       | none => none
                   yld := yldF E ih n }) n
end Go.Vi
