/- Vi14: a region whose order is drawn. -/
import Derived.Test.YtdbicjhpgofpiaaGreatDoorVi14e
namespace Go.Vi
section
variable {P : Program} {E : Env} {call : CallV} {ops : Array Oper} {T : Nat → Tmps} {H : Nat → Heap} {V : Nat → Value} {D : List Deferred} {rd : Option Nat}
theorem drawV_next (rk : RowOk P E) (ck : CallOk P call) {ops : Array Oper} : ∀ (r : List Oper) (j : Nat) (s : St) (hs : List Heap) (rs : List Seen) (s' : St) (hs' : List Heap) (rs' : List Seen), drawV E call ops r j s hs rs = some (s', hs', rs') → s.2.next ≤ s'.2.next := by
  intro r
  induction r with
  | nil => intro j s hs rs s' hs' rs' h; simp [drawV] at h; rw [h.1]; exact Nat.le_refl _
  | cons o r ih =>
    intro j s hs rs s' hs' rs' h
    simp only [drawV] at h
    split at h
    · split at h
      · rename_i v h1 hst
        have := stepV_next rk ck hst
        have := ih _ _ _ _ _ _ _ h
        simp only at this; omega
      · cases h
    · have := ih _ _ _ _ _ _ _ h; exact this

theorem mem_ready {listed : Array Bool} {i : Nat} (h : i ∈ Region.ready .any ops listed) (hsz : listed.size = ops.size) :
    i < ops.size ∧ listed[i]? = some false ∧ ∃ o, ops[i]? = some o ∧ ∀ e ∈ o.after.toList, Region.binds .any e = true → Lst listed e.on := by
  unfold Region.ready at h
  rw [List.mem_filter, List.mem_range] at h
  obtain ⟨h1, h2⟩ := h
  rw [Bool.and_eq_true] at h2
  have ho : ops[i]? = some ops[i] := Array.getElem?_eq_getElem h1
  refine ⟨h1, ?_, ops[i], ho, fun e he hb => ?_⟩
  · have h3 := h2.1
    rw [Array.getD_eq_getD_getElem?] at h3
    have : listed[i]? = some (listed[i]'(by omega)) := Array.getElem?_eq_getElem (by omega)
    rw [this] at h3 ⊢
    simpa using h3
  · have h3 := h2.2
    rw [ho] at h3
    simp only [Option.map_some, Option.getD_some] at h3
    have := Array.all_eq_true_iff_forall_mem.1 h3 e (by simpa using he)
    simp only [hb, Bool.not_true, Bool.false_or] at this
    unfold Lst
    rw [Array.getD_eq_getD_getElem?] at this
    cases hq : listed[e.on]? with
    | none => rw [hq] at this; simp at this
    | some b => rw [hq] at this; simp at this; rw [this]
theorem ready_of {listed : Array Bool} {i : Nat} {o : Oper} (ho : ops[i]? = some o) (hf : listed[i]? = some false) (he : ∀ e ∈ o.after.toList, Region.binds .any e = true → Lst listed e.on) : i ∈ Region.ready .any ops listed := by
  unfold Region.ready
  have hlt : i < ops.size := (Array.getElem?_eq_some_iff.1 ho).1
  rw [List.mem_filter, List.mem_range]
  refine ⟨hlt, ?_⟩
  rw [Bool.and_eq_true]
  refine ⟨by rw [Array.getD_eq_getD_getElem?, hf]; rfl, ?_⟩
  rw [ho]
  simp only [Option.map_some, Option.getD_some]
  rw [Array.all_eq_true_iff_forall_mem]
  intro e hm
  by_cases hb : Region.binds .any e = true
  · have := he e (by simpa using hm) hb
    unfold Lst at this
    rw [hb, Array.getD_eq_getD_getElem?, this]; rfl
  · simp [Bool.not_eq_true] at hb; simp [hb]
/-- where nothing is ready, all is done. -/
theorem all_done {listed : Array Bool} (hsz : listed.size = ops.size) (he : edgesOk ops = true) (h : Region.ready .any ops listed = []) : ∀ j, j < ops.size → Lst listed j := by
  intro j
  induction j using Nat.strongRecOn with
  | _ j ih =>
    intro hj
    have ho : ops[j]? = some ops[j] := Array.getElem?_eq_getElem hj
    have hl : listed[j]? = some (listed[j]'(by omega)) := Array.getElem?_eq_getElem (by omega)
    cases hb : listed[j]'(by omega) with
    | true => unfold Lst; rw [hl, hb]
    | false =>
      exfalso
      have : j ∈ Region.ready .any ops listed := by
        refine ready_of ho (by rw [hl, hb]) fun e hm hbi => ?_
        have hlt : e.on < j := by
          unfold edgesOk at he
          rw [List.all_eq_true] at he
          have := he (ops[j], j) (by
            rw [List.mem_iff_getElem?]
            exact ⟨j, by rw [List.getElem?_zipIdx, Array.getElem?_toList, ho]; simp⟩)
          simp only at this
          have := Array.all_eq_true_iff_forall_mem.1 this e (by simpa using hm)
          simpa [hbi] using this
        exact ih e.on hlt (by omega)
      rw [h] at this; cases this

theorem draw_sound (ko : TysOk P E) (mo : MethOk P E) (rk : RowOk P E) (ck : CallOk P call) {p : Plan} (hp : mkPlan ops = some p) (hok : ops.toList.all opOk = true) {s s' : St} {hs : List Heap} {rs : List Seen}
    (hd : drawV E call ops ops.toList 0 s [] [] = some (s', hs, rs)) (hrs : rs.all (seenOk E p hs) = true) {ρ : Map} {a : Act} {w : World} (sr : SRel D ρ s a w) (win : Win ρ s.2 s'.2)
    {Q : Exit → Act → World → Prop} (kk : ∀ ρ' a' w', SRel D ρ' s' a' w' → Stp ρ s.2 w ρ' s'.2 w' → Q .normal a' w') :
    wpAnyIn (W rd) 0 P .any ops Q ops.size (Array.replicate ops.size false) a w := by
  obtain ⟨T, H, V, hT0, hH0, tr, hTn, hHn, hhs, _, hread⟩ := drawV_trace ops.toList 0 s [] [] s' hs rs (by simp) (Nat.zero_le _) hd
  have pi := plan_is hp
  have hhs' : hs = (hidx ops).map H ++ [H ops.size] := by
    rw [hhs]; simp only [List.nil_append, Nat.sub_zero]
    unfold hidx; rw [List.range_eq_range']
  have hstage : ∀ k, k ≤ (hidx ops).length → hs[k]? = some (H (nx ops k)) := by
    intro k hk
    rw [hhs']
    by_cases hlt : k < (hidx ops).length
    · have h1 : (hidx ops)[k]? = some (hidx ops)[k] := List.getElem?_eq_getElem hlt
      rw [List.getElem?_append_left (by simpa using hlt), List.getElem?_map, h1, nx_some h1]; rfl
    · have : k = (hidx ops).length := by omega
      subst this
      rw [List.getElem?_append_right (by simp)]
      simp [nx]
  have g0 : Good ρ (H 0) w := by rw [hH0]; exact sr.g
  have win0 : Win ρ (H 0) (H ops.size) := by rw [hH0, hHn]; exact win
  have start : Inv E ops T H V D ρ w (fun _ => False) 0 ρ (T 0) a w := inv_start rk ck tr g0 win0 (by rw [hT0]; exact sr.t) sr.d
  -- what is owed at the end
  have finish : ∀ (L : Nat → Prop) k ρ1 TL a1 w1, Inv E ops T H V D ρ w L k ρ1 TL a1 w1 → (∀ j, j < ops.size → L j) → Q .normal a1 w1 := by
    intro L k ρ1 TL a1 w1 iv hall
    have hk : k = (hidx ops).length := by
      rcases Nat.lt_or_ge k (hidx ops).length with h | h
      · have h1 : (hidx ops)[k]? = some (hidx ops)[k] := List.getElem?_eq_getElem h
        have := (iv.cnt k _ h1).1 (hall _ (hidx_mem h1).1); omega
      · have := iv.kle; omega
    have hnx : nx ops k = ops.size := by subst hk; simp [nx]
    have good := iv.good
    have vf := iv.vframe
    have de := iv.dead
    have fr := iv.fromN
    rw [hnx] at good vf de fr
    have htl : TL = T ops.size := by
      apply List.ext_getElem
      · rw [iv.tl, T_len tr _ (Nat.le_refl _)]
      · intro d h1 h2
        have hd0 : d < (T 0).length := by rw [← iv.tl]; exact h1
        have e := (iv.slot d hd0).uniq (slot_text tr hd0 ops.size (Nat.le_refl _)) (fun j o ho _ => by
          have : j < ops.size := (Array.getElem?_eq_some_iff.1 ho).1
          exact ⟨fun _ => this, fun _ => hall j this⟩)
        rw [List.getD_eq_getElem?_getD, List.getElem?_eq_getElem h1, List.getD_eq_getElem?_getD, List.getElem?_eq_getElem h2] at e
        simpa using e
    have es1 : s'.1 = T ops.size := hTn.symm
    have es2 : s'.2 = H ops.size := hHn.symm
    refine kk ρ1 a1 w1 ⟨by rw [es1, ← htl]; exact iv.trel, iv.d, by rw [es2]; exact good⟩ ?_
    rw [es2, ← hH0]
    have hle := next_le' rk ck tr (Nat.zero_le ops.size) (Nat.le_refl _)
    refine ⟨iv.ext, fun b h1 h2 => ?_, win0, hle, vf, de, iv.grow, iv.rframe, fr, iv.same⟩
    obtain ⟨j, _, hj, h3, h4⟩ := iv.dom b h1 h2
    have := next_le' rk ck tr (Nat.zero_le j) (Nat.le_of_lt hj)
    have := next_le' rk ck tr (show j + 1 ≤ ops.size by omega) (Nat.le_refl _)
    omega
  -- the step
  have go : ∀ (fuel : Nat) (listed : Array Bool), listed.size = ops.size → listed.toList.count false ≤ fuel →
      ∀ (k : Nat) (ρ1 : Map) (TL : Tmps) (a1 : Act) (w1 : World), DownC ops (Lst listed) → Inv E ops T H V D ρ w (Lst listed) k ρ1 TL a1 w1 → wpAnyIn (W rd) 0 P .any ops Q fuel listed a1 w1 := by
    intro fuel
    induction fuel with
    | zero =>
      intro listed hsz hcnt k ρ1 TL a1 w1 dc iv
      have hall : ∀ j, j < ops.size → Lst listed j := by
        intro j hj
        have h1 : listed[j]? = some (listed[j]'(by omega)) := Array.getElem?_eq_getElem (by omega)
        unfold Lst
        rw [h1]
        cases hq : listed[j]'(by omega) with
        | true => rfl
        | false =>
          exfalso
          have h2 : false ∈ listed.toList := by rw [← hq]; simp
          have := List.count_pos_iff.2 h2
          omega
      refine ⟨?_, finish _ _ _ _ _ _ iv hall⟩
      cases hr : Region.ready .any ops listed with
      | nil => rfl
      | cons x l =>
        exfalso
        obtain ⟨h1, h2, _⟩ := mem_ready (ops := ops) (listed := listed) (i := x) (by rw [hr]; exact List.mem_cons_self) hsz
        have := hall x h1
        unfold Lst at this
        rw [h2] at this; cases this
    | succ fuel ih =>
      intro listed hsz hcnt k ρ1 TL a1 w1 dc iv
      refine ⟨fun hr => finish _ _ _ _ _ _ iv (all_done hsz pi.edges hr), fun i hir => ?_⟩
      obtain ⟨hlt, hf, o, ho, hb⟩ := mem_ready hir hsz
      have hni : ¬ Lst listed i := by unfold Lst; rw [hf]; simp
      have hlast := ready_last pi dc ho hni hb
      have hev := ready_ev pi dc ho hni hb tr iv
      have hev2 : ∀ x ∈ o.op.operands, evV (T i) x = evV TL x := fun x hx => (hev x hx).symm
      have hwt := ready_wanted pi dc ho hni hb tr iv
      have okk : opOk o = true := by
        rw [List.all_eq_true] at hok
        exact hok o (by rw [List.mem_iff_getElem?]; exact ⟨i, by rw [Array.getElem?_toList]; exact ho⟩)
      -- what is listed next
      have hsz' : (listed.setIfInBounds i true).size = ops.size := by rw [Array.size_setIfInBounds]; exact hsz
      have hL' : Lst (listed.setIfInBounds i true) = fun m => Lst listed m ∨ m = i := by
        funext m
        unfold Lst
        rw [Array.getElem?_setIfInBounds]
        by_cases hm : i = m
        · subst hm; rw [if_pos rfl, if_pos (by omega)]; simp
        · rw [if_neg hm]
          exact propext ⟨.inl, fun h => h.resolve_right (Ne.symm hm)⟩
      have hcnt' : (listed.setIfInBounds i true).toList.count false ≤ fuel := by
        have h1 : i < listed.toList.length := by simpa [hsz] using hlt
        have h2 : listed.toList[i] = false := by
          have := (Array.getElem?_eq_some_iff.1 hf).2
          simpa using this
        rw [Array.toList_setIfInBounds, List.count_set h1, h2]
        have h3 : false ∈ listed.toList := by rw [← h2]; exact List.getElem_mem h1
        have h4 := List.count_pos_iff.2 h3
        generalize List.count false listed.toList = c at hcnt h4 ⊢
        have e1 : (if (false == false) = true then 1 else 0) = 1 := rfl
        have e2 : (if (true == false) = true then 1 else 0) = 0 := rfl
        rw [e1, e2]; omega
      have dc' : DownC ops (fun m => Lst listed m ∨ m = i) := by
        intro j x hj hx e he hbi
        rcases hj with hj | hj
        · exact .inl (dc j x hj hx e he hbi)
        · subst hj; rw [ho] at hx; cases hx; exact .inl (hb e he hbi)
      have next : ∀ k' ρ' TL' a' w', Inv E ops T H V D ρ w (fun m => Lst listed m ∨ m = i) k' ρ' TL' a' w' → wpAnyIn (W rd) 0 P .any ops Q fuel (listed.setIfInBounds i true) a' w' := by
        intro k' ρ' TL' a' w' iv'
        exact ih _ hsz' hcnt' k' ρ' TL' a' w' (by rw [hL']; exact dc') (by rw [hL']; exact iv')
      have he := iv.trel.ev
      have rw1 := ready_win ho hni rk ck tr win0 iv
      unfold wpOpIn
      simp only [ho]
      rw [← wanted_eq iv.trel, hwt]
      by_cases hw : wantedV ops o (T i) = true
      · rw [if_pos hw]
        refine ⟨fun _ _ => trivial, ?_⟩
        have hs := tr.run i o (Nat.zero_le _) ho hw
        rw [Oper.semAt_eq _ _ _ (opOk_defer okk), exec_eq okk]
        cases hh : heavyOp o with
        | true =>
          have hki := ready_heavy pi dc ho hni hb iv hh
          have hg := iv.good
          rw [nx_some hki] at hg
          obtain ⟨l1, l2, l3⟩ := light_no (E := E) (ev := evV (T i)) (hp := H i) hh
          unfold stepV at hs
          simp only [l1, l2, l3] at hs
          rw [heavy_congr hev2] at hs
          refine heavy_sound ko mo rk ck hg rw1 he hs (opOk_sel okk) fun w' ρ' v' rv g' st => ?_
          exact next _ _ _ _ _ (inv_heavy rk ck tr win0 g0.fresh iv ho hni hki hlast rv g' st)
        | false =>
          have hlight : heavyAt ops i = false := by unfold heavyAt; rw [ho]; exact hh
          unfold stepV at hs
          simp only at hs
          split at hs
          · rename_i v0 hp
            simp only [Option.some.injEq, Prod.mk.injEq] at hs
            rw [pure_congr hev2] at hp
            obtain ⟨v', rv, run⟩ := pure_sound (P := P) ko he hp
            rw [run]
            refine next _ _ _ _ _ (inv_value iv ho hni hlight (fun b hal => ?_) hlast (by rw [← hs.1]; exact rv))
            obtain ⟨o', _, h1, _, _, h2, _⟩ := hal
            rw [ho] at h1; cases h1
            rw [pure_congr hev2, hp] at h2; cases h2
          · rename_i hp
            split at hs
            · rename_i v0 hr
              simp only [Option.some.injEq, Prod.mk.injEq] at hs
              have hseen := hread i o (Nat.zero_le _) ⟨ho, hh, hw, hp, by rw [hr]; rfl⟩
              have hso := (List.all_eq_true.1 hrs) _ hseen
              unfold seenOk at hso
              simp only at hso
              have hlo := ready_lo pi dc ho hni hb iv
              have hhi := ready_hi pi dc ho hni hb iv
              have h1 := (List.all_eq_true.1 hso) (k - p.lo.getD i 0) (by rw [List.mem_range]; omega)
              rw [show p.lo.getD i 0 + (k - p.lo.getD i 0) = k by omega, hstage k iv.kle] at h1
              simp only at h1
              split at h1
              · rename_i v1 hr1
                have hv1 := veq_eq _ _ _ h1
                rw [read_congr hev2] at hr1
                obtain ⟨v', rv, run⟩ := read_sound (P := P) ko iv.good he hr1
                rw [run]
                refine next _ _ _ _ _ (inv_value iv ho hni hlight (fun b hal => ?_) hlast (by rw [← hv1]; exact rv))
                obtain ⟨o', _, h1, _, _, _, h2, _⟩ := hal
                rw [ho] at h1; cases h1
                rw [hr] at h2; cases h2
              · cases h1
            · rename_i hr
              split at hs
              · rename_i b m hn
                simp only [Option.some.injEq, Prod.mk.injEq] at hs
                have hal : Al E ops T H i b := ⟨o, m, ho, hh, hw, hp, hr, hn⟩
                rw [new_congr hev2] at hn
                obtain ⟨w', v', x, run, hi, hsz1, hold, hor, hv⟩ := (new_sound (P := P) ko he hn w1).out
                rw [run]
                refine next _ _ _ _ _ (inv_new rk ck tr win0 iv ho hni hlight hal (ready_light pi dc ho hni hb iv hh) hlast hi hsz1 hold hor fun ρ' hρ' => ?_)
                rw [← hs.1]
                exact hv ρ' _ hρ'
              · rw [heavy_no hh] at hs; cases hs
      · rw [if_neg hw]
        refine ⟨fun _ _ => trivial, ?_⟩
        obtain ⟨hv, hH⟩ := tr.off i o (Nat.zero_le _) ho (by simpa using hw)
        cases hh : heavyOp o with
        | true =>
          have hki := ready_heavy pi dc ho hni hb iv hh
          have hg := iv.good
          rw [nx_some hki] at hg
          refine next _ _ _ _ _ (inv_heavy (ρ' := ρ1) (w' := w1) rk ck tr win0 g0.fresh iv ho hni hki hlast (by rw [hv]; exact undef_rel) (by rw [hH]; exact hg) (by rw [hH]; exact .refl _ _ _))
        | false =>
          have hlight : heavyAt ops i = false := by unfold heavyAt; rw [ho]; exact hh
          refine next _ _ _ _ _ (inv_value iv ho hni hlight (fun b hal => ?_) hlast (by rw [hv]; exact undef_rel))
          obtain ⟨o', _, h1, _, h2, _⟩ := hal
          rw [ho] at h1; cases h1
          exact hw h2
  refine go ops.size (Array.replicate ops.size false) (by simp) (by rw [Array.toList_replicate]; exact Nat.le_trans List.count_le_length (by simp)) 0 ρ (T 0) a w (fun j o hj => ?_) ?_
  · unfold Lst at hj
    rw [Array.getElem?_replicate] at hj
    split at hj <;> cases hj
  · have e : Lst (Array.replicate ops.size false) = fun _ => False := by
      funext j
      unfold Lst
      rw [Array.getElem?_replicate]
      split <;> simp
    rw [e]; exact start
end
end Go.Vi
