/- Vi13: one operation; a region in the order of its text. -/
import Derived.Test.YtdbicjhpgofpiaaGreatDoorVi12
namespace Go.Vi
def TRel (ρ : Map) (t : Tmps) (a : Act) : Prop := t.length = a.tmps.size ∧ ∀ i, VRel ρ (t.getD i undef) (a.tmps.getD i undef)
def evR (a : Act) : Operand → Value
  | .tmp t => a.tmps.getD t undef
  | .const v => if plainB 100 v then v else undef
  | .global _ => undef
  | .func f => .func (.func f) #[] #[]
structure SRel (D : List Deferred) (ρ : Map) (s : St) (a : Act) (w : World) : Prop where
  t : TRel ρ s.1 a
  d : a.defers = D
  g : Good ρ s.2 w

section
variable {P : Program} {E : Env} {ρ : Map} {call : CallV} {rd : Option Nat} {D : List Deferred}
theorem TRel.ext {ρ ρ' : Map} (e : Ext ρ ρ') {t : Tmps} {a : Act} (h : TRel ρ t a) : TRel ρ' t a := ⟨h.1, fun i => (h.2 i).ext e⟩
theorem TRel.ev {t : Tmps} {a : Act} (h : TRel ρ t a) (x : Operand) : VRel ρ (evV t x) (evR a x) := by
  cases x with
  | tmp i => exact h.2 i
  | const v =>
    simp only [evV, evR]
    split
    · rename_i hp; exact plain_rel _ _ hp
    · exact undef_rel
  | global g => exact undef_rel
  | func f => exact .func f _ _ _ _ rfl (fun _ h => absurd h (by simp)) rfl (fun _ h => absurd h (by simp))
theorem eval_ok {a : Act} {x : Operand} (h : okOperand x = true) : a.eval x = evR a x := by
  cases x with
  | tmp i => rfl
  | const v =>
    have h' : plainB 100 v = true := h
    simp only [Act.eval, evR, h', if_true]
  | global g => simp [okOperand] at h
  | func f => rfl
theorem exec_eq {a : Act} {o : Oper} (h : opOk o = true) : execOp a.eval o = execOp (evR a) o := by
  unfold opOk at h
  rw [Bool.and_eq_true] at h
  refine execOp_congr o (fun cs b hc => ?_) (fun x hx => eval_ok ?_)
  · rw [hc] at h; simp at h
  · have := Array.all_eq_true_iff_forall_mem.1 h.1 x hx
    exact this
theorem opOk_defer {o : Oper} (h : opOk o = true) : ∀ c, o.op ≠ .defer c := by
  intro c hc
  unfold opOk at h
  rw [Bool.and_eq_true, hc] at h
  simp at h
theorem opOk_sel {o : Oper} (h : opOk o = true) : ∀ cs bl, o.op ≠ .select cs bl := by
  intro cs bl hc
  unfold opOk at h
  rw [Bool.and_eq_true, hc] at h
  simp at h
theorem TRel.put {ρ' : Map} {t : Tmps} {a : Act} (h : TRel ρ' t a) {v v' : Value} (hv : VRel ρ' v v') (d : Option Tmp) : TRel ρ' (putV t d v) (a.put d v') := by
  cases d with
  | none => exact h
  | some d0 =>
    obtain ⟨d, hdd⟩ : ∃ d : Nat, d = d0 := ⟨d0, rfl⟩
    subst hdd
    refine ⟨by simp [putV, Act.put, h.1], fun i => ?_⟩
    have hl : List.length t = a.tmps.size := h.1
    simp only [putV, Act.put]
    by_cases hd : d < List.length t
    · by_cases hi : i = d
      · subst hi
        rw [List.getD_eq_getElem?_getD, List.getElem?_set, if_pos rfl, if_pos hd, Array.getD_eq_getD_getElem?, Array.getElem?_setIfInBounds, if_pos rfl, if_pos (by omega)]
        exact hv
      · rw [List.getD_eq_getElem?_getD, List.getElem?_set, if_neg (Ne.symm hi), Array.getD_eq_getD_getElem?, Array.getElem?_setIfInBounds, if_neg (Ne.symm hi), ← List.getD_eq_getElem?_getD, ← Array.getD_eq_getD_getElem?]
        exact h.2 i
    · have e1 : t.set d v = t := List.set_eq_of_length_le (by omega)
      have e2 : a.tmps.setIfInBounds d v' = a.tmps := Array.setIfInBounds_eq_of_size_le (by omega)
      rw [e1, e2]; exact h.2 i
theorem put_defers (a : Act) (d : Option Tmp) (v : Value) : (a.put d v).defers = a.defers := by cases d <;> rfl

theorem stepV_next (rk : RowOk P E) (ck : CallOk P call) {o : Oper} {s : St} {v : Value} {h' : Heap} (hs : stepV E call o s = some (v, h')) : s.2.next ≤ h'.next := by
  unfold stepV at hs
  simp only at hs
  split at hs
  · cases hs; exact Nat.le_refl _
  · split at hs
    · cases hs; exact Nat.le_refl _
    · split at hs
      · cases hs; exact Nat.le_succ _
      · exact heavy_next rk ck hs
theorem step_sound (ko : TysOk P E) (mo : MethOk P E) (rk : RowOk P E) (ck : CallOk P call) {t : Tmps} {h h' : Heap} {a : Act} {w : World} (g : Good ρ h w) (tr : TRel ρ t a) {o : Oper} (ok : opOk o = true) (win : Win ρ h h') {v : Value}
    (hs : stepV E call o (t, h) = some (v, h')) {next : Act → World → Prop} {Q : Exit → Act → World → Prop}
    (k : ∀ w' ρ' v', VRel ρ' v v' → Good ρ' h' w' → Stp ρ h w ρ' h' w' → next (a.put o.dst v') w') : o.wpIn (W rd) 0 P a w next Q := by
  refine ⟨fun _ _ => trivial, ?_⟩
  rw [Oper.semAt_eq _ _ _ (opOk_defer ok), exec_eq ok]
  have he := tr.ev
  unfold stepV at hs
  simp only at hs
  split at hs
  · rename_i v0 hp
    cases hs
    obtain ⟨v', rv, run⟩ := pure_sound (P := P) ko he hp
    rw [run]; exact k w ρ v' rv g (.refl _ _ _)
  · split at hs
    · rename_i v0 hr
      cases hs
      obtain ⟨v', rv, run⟩ := read_sound (P := P) ko g he hr
      rw [run]; exact k w ρ v' rv g (.refl _ _ _)
    · split at hs
      · rename_i b m hn
        cases hs
        obtain ⟨w', v', i, run, hi, hsz, hold, ho, hv⟩ := (new_sound (P := P) ko he hn w).out
        have hnw := win h.next (Nat.le_refl _) (by show h.next < h.next + 1; omega)
        obtain ⟨g', s'⟩ := step_new g hnw hi hsz hold (by
          have e := upd_ext (ρ := ρ) i hnw
          exact ORel.move e rfl ho)
        rw [run]; exact k w' _ v' (hv _ _ upd_self) g' s'
      · exact heavy_sound ko mo rk ck g win he hs (opOk_sel ok) k

theorem wanted_eq {t : Tmps} {a : Act} (h : TRel ρ t a) (ops : Array Oper) (o : Oper) : wantedV ops o t = Region.wanted o (yielded ops a.tmps) := by
  unfold wantedV Region.wanted yielded
  cases hg : o.guard with
  | none => rfl
  | some p =>
    obtain ⟨j, want⟩ := p
    simp only
    cases hd : (ops[j]?).bind (·.dst) with
    | none => rfl
    | some d0 =>
      obtain ⟨d, hdd⟩ : ∃ d : Nat, d = d0 := ⟨d0, rfl⟩
      subst hdd
      simp only [Option.bind_some]
      have hl : List.length t = a.tmps.size := h.1
      have hr := h.2 d
      by_cases hlt : d < List.length t
      · have e1 : t[d]? = some t[d] := List.getElem?_eq_getElem hlt
        have e2 : a.tmps[d]? = some (a.tmps[d]'(by omega)) := Array.getElem?_eq_getElem (by omega)
        rw [List.getD_eq_getElem?_getD, e1, Array.getD_eq_getD_getElem?, e2] at hr
        simp only [Option.getD_some] at hr
        rw [e1, e2]
        generalize t[d] = x at hr
        generalize a.tmps[d]'_ = y at hr
        cases hr <;> first | rfl | (simp; done)
      · have e1 : t[d]? = none := List.getElem?_eq_none (by omega)
        have e2 : a.tmps[d]? = none := Array.getElem?_eq_none (by omega)
        rw [e1, e2]; rfl

theorem opsV_next (rk : RowOk P E) (ck : CallOk P call) {ops : Array Oper} : ∀ (r : List Oper) (s s' : St), opsV E call ops r s = some s' → s.2.next ≤ s'.2.next := by
  intro r
  induction r with
  | nil => intro s s' h; simp [opsV] at h; subst h; exact Nat.le_refl _
  | cons o r ih =>
    intro s s' h
    unfold opsV at h
    split at h
    · split at h
      · rename_i v h1 hs
        have := stepV_next rk ck hs
        have := ih _ _ h
        simp only at this; omega
      · cases h
    · have := ih _ _ h; exact this
theorem Win.sub {ρ ρ' : Map} {h h1 h2 h3 : Heap} {w w1 : World} (win : Win ρ h h3) (s : Stp ρ h w ρ' h1 w1) (hb : h2.next ≤ h3.next) : Win ρ' h1 h2 := by
  intro b h1' h2'
  have h0 : ρ b = none := win b (Nat.le_trans s.next h1') (by omega)
  cases hq : ρ' b with
  | none => rfl
  | some i => have := (s.dom b h0 (by rw [hq]; simp)).2; omega
theorem ops_sound (ko : TysOk P E) (mo : MethOk P E) (rk : RowOk P E) (ck : CallOk P call) {ops : Array Oper} : ∀ (r : List Oper) (s s' : St) (ρ : Map) (a : Act) (w : World), opsV E call ops r s = some s' → r.all opOk = true → SRel D ρ s a w → Win ρ s.2 s'.2 →
    ∀ {Q : Exit → Act → World → Prop}, (∀ ρ' a' w', SRel D ρ' s' a' w' → Stp ρ s.2 w ρ' s'.2 w' → Q .normal a' w') → wpListIn (W rd) 0 P ops Q r a w := by
  intro r
  induction r with
  | nil =>
    intro s s' ρ a w h _ sr win Q k
    simp [opsV] at h
    subst h
    exact k ρ a w sr (.refl _ _ _)
  | cons o r ih =>
    intro s s' ρ a w h hok sr win Q k
    rw [List.all_cons, Bool.and_eq_true] at hok
    unfold opsV at h
    unfold wpListIn
    rw [wanted_eq sr.t] at h
    split at h
    · rename_i hw
      rw [if_pos hw]
      split at h
      · rename_i v h1 hs
        have hn := opsV_next rk ck _ _ _ h
        simp only at hn
        have win1 : Win ρ s.2 h1 := fun b q1 q2 => win b q1 (by omega)
        refine step_sound ko mo rk ck sr.g sr.t hok.1 win1 hs fun w' ρ' v' rv g' st => ?_
        refine ih _ _ ρ' _ w' h hok.2 ⟨(sr.t.ext st.ext).put rv o.dst, by rw [put_defers]; exact sr.d, g'⟩ (win.sub st (Nat.le_refl _)) fun ρ2 a2 w2 sr2 st2 => ?_
        exact k ρ2 a2 w2 sr2 (Stp.trans sr.g.fresh g'.fresh st st2)
      · cases h
    · rename_i hw
      rw [if_neg hw]
      refine ⟨fun _ _ => trivial, ?_⟩
      refine ih _ _ ρ _ w h hok.2 ⟨sr.t.put undef_rel o.dst, by rw [put_defers]; exact sr.d, sr.g⟩ win k
end
end Go.Vi
