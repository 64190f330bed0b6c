/- Vi15: code and calls. -/
import Derived.Test.YtdbicjhpgofpiaaGreatDoorVi14
import Derived.LoopN
import Derived.Conc.LoneSelect
namespace Go.Vi
def exitOf : Ex → Exit
  | .normal => .normal
  | .exit id => .exit id
  | .ret => .ret
structure FunOk (P : Program) (f : FuncId) (x : Fun) : Prop where
  fn : P.funcs[f]? = some x.fn
  body : x.fn.body = some x.body
  name : x.fn.name ≠ "runtime.NumGoroutine"
  plan : planOk x.plan x.body = true
  code : codeOk x.body = true
structure EnvOk (P : Program) (E : Env) : Prop where
  ty : TysOk P E
  meth : MethOk P E
  fn : ∀ f x, E.fn f = some x → FunOk P f x
  ext : ∀ f g, E.ext f = some g → ∀ args h v h', g args h = some (v, h') → Enters P f ∧ h.next ≤ h'.next ∧
    ∀ ρ w (args' : Array Value), Good ρ h w → Win ρ h h' → VRels ρ args args'.toList → Calls P f args' w (Post ρ h w v h')
  mixed : P.follows .mixedOrders = true
  row : RowOk P E

/-! ## The marks among a frame's deferred calls -/
def markOf (r : Nat) : Deferred := { target := .collected r, args := #[] }
structure Marked (B : Nat) (D : List Deferred) (ρ : Map) (w : World) : Prop where
  ex : ∃ rs : List Nat, D = rs.map markOf ∧ rs.Nodup ∧ ∀ r ∈ rs, B ≤ r ∧ w.heap[r]? = some (.deferred (some [])) ∧ ∀ b i, ρ b = some i → i.blk ≠ r
  base : B ≤ w.heap.size
theorem Marked.nil {B : Nat} {ρ : Map} {w : World} (h : B ≤ w.heap.size) : Marked B [] ρ w := ⟨⟨[], rfl, List.nodup_nil, fun _ h => absurd h (by simp)⟩, h⟩
theorem heap_lt {w : World} {r : Nat} {o : Obj} (h : w.heap[r]? = some o) : r < w.heap.size := (Array.getElem?_eq_some_iff.1 h).1
theorem Marked.stp {B : Nat} {D : List Deferred} {ρ ρ' : Map} {h h' : Heap} {w w' : World} (m : Marked B D ρ w) (s : Stp ρ h w ρ' h' w') : Marked B D ρ' w' := by
  obtain ⟨⟨rs, hD, hnd, hall⟩, hb⟩ := m
  refine ⟨⟨rs, hD, hnd, fun r hr => ?_⟩, Nat.le_trans hb s.grow⟩
  obtain ⟨h1, h2, h3⟩ := hall r hr
  have hlt := heap_lt h2
  refine ⟨h1, by rw [s.rframe r hlt (fun b i hb _ => h3 b i hb)]; exact h2, fun b i hbi => ?_⟩
  cases hq : ρ b with
  | some i0 => have := s.ext _ _ hq; rw [hbi] at this; cases this; exact h3 b i hq
  | none =>
    rcases s.fromN b i hq hbi with h4 | ⟨c, j, hc, _, _, he⟩
    · omega
    · rw [← he]; exact h3 c j hc
theorem Marked.push {B : Nat} {D : List Deferred} {ρ : Map} {w : World} {r : Nat} (m : Marked B D ρ w) (hB : B ≤ r) (hr : w.heap[r]? = some (.deferred (some []))) (hn : ∀ b i, ρ b = some i → i.blk ≠ r)
    (hd : ∀ q, markOf q ∈ D → q ≠ r) : Marked B (markOf r :: D) ρ w := by
  obtain ⟨⟨rs, hD, hnd, hall⟩, hb⟩ := m
  refine ⟨⟨r :: rs, by rw [hD]; rfl, ?_, fun q hq => ?_⟩, hb⟩
  · refine List.nodup_cons.2 ⟨fun hm => ?_, hnd⟩
    exact hd r (by rw [hD]; exact List.mem_map.2 ⟨r, hm, rfl⟩) rfl
  · rcases List.mem_cons.1 hq with rfl | hq
    · exact ⟨hB, hr, hn⟩
    · exact hall q hq

theorem trel_rels {ρ : Map} {t : Tmps} {a : Act} (h : TRel ρ t a) : VRels ρ t a.tmps.toList := by
  refine .of_get (by rw [h.1]; simp) fun j v v' h1 h2 => ?_
  have := h.2 j
  rw [List.getD_eq_getElem?_getD, h1, Array.getD_eq_getD_getElem?, ← Array.getElem?_toList, h2] at this
  exact this
theorem trel_of {ρ : Map} {t : Tmps} {a : Act} (hall : VRels ρ t a.tmps.toList) : TRel ρ t a := by
  refine ⟨by rw [hall.1]; simp, fun i => ?_⟩
  rw [List.getD_eq_getElem?_getD, Array.getD_eq_getD_getElem?]
  cases hx : t[i]? with
  | none =>
    have : a.tmps[i]? = none := by
      rw [← Array.getElem?_toList, List.getElem?_eq_none_iff, ← hall.1]
      exact List.getElem?_eq_none_iff.1 hx
    rw [this]; exact undef_rel
  | some v =>
    obtain ⟨v', hv', rv⟩ := hall.get hx
    rw [Array.getElem?_toList] at hv'
    rw [hv']; exact rv
theorem rels_set {ρ : Map} {l l' : List Value} (h : VRels ρ l l') (n : Nat) {v v' : Value} (hv : VRel ρ v v') : VRels ρ (l.set n v) (l'.set n v') := by
  refine .of_get (by simp [h.1]) fun j x x' h1 h2 => ?_
  rw [List.getElem?_set] at h1 h2
  split at h1
  · rename_i e
    subst e
    rw [if_pos rfl] at h2
    split at h1
    · split at h2
      · cases h1; cases h2; exact hv
      · cases h2
    · cases h1
  · rename_i e
    rw [if_neg e] at h2
    obtain ⟨u, hu, hr⟩ := h.get h1
    rw [hu] at h2; cases h2; exact hr
theorem setAll_rels {ρ : Map} : ∀ (ps : List Tmp) (l l' : List Value) (t : List Value) (T : Array Value), VRels ρ l l' → VRels ρ t T.toList →
    VRels ρ (setAll (ps.zip l) t) ((ps.zip l').foldl (fun tmps (p : Tmp × Value) => tmps.setIfInBounds p.1 p.2) T).toList := by
  intro ps
  induction ps with
  | nil => intro l l' t T _ ht; exact ht
  | cons p ps ih =>
    intro l l' t T hl ht
    cases l with
    | nil => have := hl.nil_inv; subst this; exact ht
    | cons v l =>
      obtain ⟨v', r', rfl, hv, hr⟩ := hl.cons_inv
      simp only [List.zip_cons_cons, setAll, List.foldl_cons]
      exact ih _ _ _ _ hr (by rw [Array.toList_setIfInBounds]; exact rels_set ht _ hv)

section
variable {P : Program} {E : Env} {call : CallV} {D : List Deferred} {rd : Option Nat} {B : Nat}
theorem region_next (rk : RowOk P E) (ck : CallOk P call) {pl : Option Plan} {ops : Array Oper} {draw : Bool} {s s' : St} (h : regionV E call pl ops draw s = some s') : s.2.next ≤ s'.2.next := by
  unfold regionV at h
  split at h
  · split at h
    · cases h
    · split at h
      · rename_i s2 hs rs hd
        split at h
        · cases h; exact drawV_next rk ck _ _ _ _ _ _ _ _ hd
        · cases h
      · cases h
  · exact opsV_next rk ck _ _ _ h
open Go.Conc in
theorem putObj_setChan (w : World) (r cap : Nat) (buf : Array Value) (s n : Nat) : w.setChan r cap buf false s n false = w.putObj r (.chan cap buf false s n false) := rfl
/-- a step of the machine at a select of one case: what comes of it. -/
theorem sel_out (ko : TysOk P E) {ρ : Map} {t : Tmps} {h h1 : Heap} {a : Act} {w : World} (g : Good ρ h w) (tr : TRel ρ t a) {o : Oper} {cs : Array SelectCase} {bl : Bool} (hsel : o.op = .select cs bl)
    (hop : o.op.operands.all okOperand = true) {v : Value} (hs : selV E (evV t) h cs bl = some (v, h1)) :
    ∃ (cc : CommCase) (v' : Value) (w' : World), (execOp a.eval o).run P w = .ok (.comm #[cc] false .select) w ∧ VRel ρ v v' ∧ Good ρ h1 w' ∧ Stp ρ h w ρ h1 w' ∧
      ∀ (fr : Frame) (fs : List Frame) (es : Array Event), stepG P true { frame := fr, callers := fs, status := .running, dying := none } w = .comm { frame := fr, callers := fs, status := .running, dying := none } #[cc] false .select w es →
        step P (lone fr fs w) = .next (lone (fr.finish v') fs w') := by
  obtain ⟨dst, op, ty, pos, after, guard⟩ := o
  simp only at hsel
  subst hsel
  unfold selV at hs
  split at hs
  · rename_i c hcs
    replace hs := bind_some.1 hs; obtain ⟨i, hi, hs⟩ := hs
    replace hs := bind_some.1 hs; obtain ⟨z, hz, hs⟩ := hs
    have hcs' : cs = #[c] := Array.ext' (by rw [hcs])
    subst hcs'
    have hall := Array.all_eq_true_iff_forall_mem.1 hop
    have hm1 : okOperand c.chan = true := hall _ (by simp [Op.operands])
    have hm2 : ∀ x, c.send = some x → okOperand x = true := fun x hx => hall _ (by simp [Op.operands, hx])
    have hzr := zero_rel (ρ := ρ) (ko _ _ hi) hz
    split at hs
    · rename_i r0 hcv
      have hc := tr.ev c.chan
      rw [hcv, ← eval_ok hm1] at hc
      generalize hy : a.eval c.chan = y at hc
      cases hc with
      | chan _ q hq =>
      split at hs
      · rename_i cp buf hget
        obtain ⟨buf', sn, rc, hw, hrel⟩ := g.rel _ _ _ hq hget
        have hsz : buf'.size = buf.length := by rw [hrel.1]; simp
        have hrun : (execOp a.eval ⟨dst, .select #[c] false, ty, pos, after, guard⟩).run P w = .ok (.comm #[{ chan := .chan (some q.blk), send := c.send.map a.eval, zero := z }] false .select) w := by
          simp [execOp, hy, run_zero (ko _ _ hi) hz]
        split at hs
        · rename_i x hx
          have hxr := tr.ev x
          rw [← eval_ok (hm2 x hx)] at hxr
          rw [hx] at hrun
          split at hs
          · rename_i hlt
            cases hs
            obtain ⟨g', s'⟩ := set_obj (o := .chan cp (buf'.push (a.eval x)) false (sn + 1) rc false) (x := .chan cp (buf ++ [evV t x])) g hq (by rw [hget]; simp)
              ⟨_, _, _, World.putObj_heap_same (g.lt _ _ hq), by rw [Array.toList_push]; exact hrel.append (.cons hxr .nil)⟩
            refine ⟨_, _, _, hrun, plain_rel 3 (.tuple #[goInt 0, .bool false]) rfl, g', s', fun fr fs es he => ?_⟩
            exact Go.Conc.step_lone_select_send_room he hw (by omega)
          · rename_i hge
            cases hs
            refine ⟨_, _, w, hrun, plain_rel 3 (.tuple #[goInt (-1), .bool false]) rfl, g, .refl _ _ _, fun fr fs es he => ?_⟩
            exact Go.Conc.step_lone_select_send_full he hw (by omega)
        · rename_i hx
          rw [hx] at hrun
          split at hs
          · rename_i u r' 
            cases hs
            obtain ⟨u', b', hb', hu, hr'⟩ := hrel.cons_inv
            have hbe : buf' = (u' :: b').toArray := Array.ext' (by rw [hb'])
            subst hbe
            obtain ⟨g', s'⟩ := set_obj (o := .chan cp b'.toArray false sn (rc + 1) false) (x := .chan cp r') g hq (by rw [hget]; simp)
              ⟨_, _, _, World.putObj_heap_same (g.lt _ _ hq), hr'⟩
            refine ⟨_, .tuple #[goInt 0, .bool true, u'], _, hrun, .tuple _ _ rfl (fun j h1 h2 => ?_), g', s', fun fr fs es he => ?_⟩
            · match j, h1 with
              | 0, _ => exact .int _ _
              | 1, _ => exact .bool _
              | 2, _ => exact hu
            · have := Go.Conc.step_lone_select_recv_buf he hw (by simp)
              have e1 : (u' :: b').toArray.extract 1 (u' :: b').toArray.size = b'.toArray := by
                apply Array.ext'; simp [List.take_of_length_le]
              rw [e1] at this
              exact this
          · cases hs
            have hb0 := hrel.nil_inv
            have hbe : buf' = #[] := Array.ext' hb0
            subst hbe
            refine ⟨_, .tuple #[goInt (-1), .bool false, z], w, hrun, .tuple _ _ rfl (fun j h1 h2 => ?_), g, .refl _ _ _, fun fr fs es he => ?_⟩
            · match j, h1 with
              | 0, _ => exact .int _ _
              | 1, _ => exact .bool _
              | 2, _ => exact hzr
            · exact Go.Conc.step_lone_select_default he hw
      · cases hs
    · cases hs
  · cases hs
theorem select_head (ko : TysOk P E) (mo : MethOk P E) (rk : RowOk P E) (ck : CallOk P call) {ops : Array Oper} (hh : selHead ops = true) {s s' : St} {ρ : Map} {a : Act} {w : World} (h : opsV E call ops ops.toList s = some s')
    (sr : SRel D ρ s a w) (win : Win ρ s.2 s'.2) {id : Nat} {Q : Exit → Act → World → Prop} (k : ∀ ρ' a' w', SRel D ρ' s' a' w' → Stp ρ s.2 w ρ' s'.2 w' → Q .normal a' w') : (Code.region id ops false).wpIn (W rd) 0 P Q a w := by
  unfold selHead at hh
  split at hh
  · rename_i o r hops
    simp only [Bool.and_eq_true] at hh
    obtain ⟨⟨⟨h1, h2⟩, h3⟩, h4⟩ := hh
    obtain ⟨cs, bl, hsel⟩ : ∃ cs bl, o.op = .select cs bl := by
      cases hop : o.op <;> rw [hop] at h1 <;> simp at h1
      exact ⟨_, _, rfl⟩
    have hgd : o.guard = none := by simpa using h3
    have hwv : wantedV ops o s.1 = true := by unfold wantedV; rw [hgd]
    have hw : Region.wanted o (yielded ops a.tmps) = true := by rw [← wanted_eq sr.t]; exact hwv
    have hheavy : heavyOp o = true := by unfold heavyOp; rw [hsel]
    rw [hops] at h
    unfold opsV at h
    rw [if_pos hwv] at h
    split at h
    · rename_i v h1' hst
      unfold stepV at hst
      obtain ⟨l1, l2, l3⟩ := light_no (E := E) (ev := evV s.1) (hp := s.2) hheavy
      simp only [l1, l2, l3] at hst
      have hst' : selV E (evV s.1) s.2 cs bl = some (v, h1') := by
        unfold heavyV at hst
        rw [hsel] at hst
        exact hst
      obtain ⟨cc, v', w', hrun, rv, g', st, hstep⟩ := sel_out ko sr.g sr.t hsel h2 hst'
      have sr1 : SRel D ρ (putV s.1 o.dst v, h1') (a.put o.dst v') w' := ⟨sr.t.put rv o.dst, by rw [put_defers]; exact sr.d, g'⟩
      have hn := opsV_next rk ck _ _ _ h
      simp only at hn
      have hl : wpListIn (W rd) 0 P ops Q r (a.put o.dst v') w' :=
        ops_sound ko mo rk ck _ _ _ _ _ _ h h4 sr1 (win.sub st (Nat.le_refl _)) fun ρ2 a2 w2 sr2 st2 => k ρ2 a2 w2 sr2 (Stp.trans sr.g.fresh g'.fresh st st2)
      have hsz : ops.size = r.length + 1 := by rw [← Array.length_toList, hops]; rfl
      have ho : ops[0]? = some o := by rw [← Array.getElem?_toList, hops]; rfl
      have hl2 : wpOpsIn (W rd) 0 P ops Q (List.range' 1 r.length) (a.put o.dst v') w' := by
        rw [wpOpsIn_eq_wpListIn r 1 (fun j => by rw [← Array.getElem?_toList, hops, Nat.add_comm, List.getElem?_cons_succ])]
        exact hl
      intro b kk fs hro hb hr
      obtain ⟨e, a2, w2, hq, harr⟩ := wp_opsIn _ _ _ hl2 b kk fs hro hb hr
      have hrange : List.range ops.size = 0 :: List.range' 1 r.length := by rw [hsz, List.range_eq_range', List.range'_succ]
      have s1 := stepR_region (P := P) (b := b) (a := a) (k := kk) (cs := fs) (w := w) (ops := ops) (id := id)
      rw [hrange] at s1
      have hg := stepGR_op (P := P) (b := b) (a := a) (k := kk) (cs := fs) (w := w) (rest := List.range' 1 r.length) ho hw
      rw [Oper.semAt_eq _ _ _ (by intro c hc; rw [hsel] at hc; cases hc)] at hg
      obtain ⟨es, hg2⟩ : ∃ es, stepG P true { frame := b.atR a (.inRegion ops (0 :: List.range' 1 r.length) :: kk), callers := fs, status := .running, dying := none } w =
          .comm { frame := b.atR a (.inRegion ops (0 :: List.range' 1 r.length) :: kk), callers := fs, status := .running, dying := none } #[cc] false .select w es := by
        rw [hg]
        simp only [stepG.apply, Sem.runT_eq, hrun, GStep.after, if_true]
        exact ⟨_, rfl⟩
      have s2 := hstep _ _ _ hg2
      rw [Frame.finish_atR, ho] at s2
      refine ⟨e, a2, w2, hq, .of_steps (.head ?_ s1 (.one ?_ s2)) harr⟩
      · exact fenced_calm hb hr rfl
      · exact fenced_oper hb hr ho fun f hf => by simp [Oper.about, hsel] at hf
    · cases h
  · cases hh
theorem region_sound (ko : TysOk P E) (mo : MethOk P E) (mx : P.follows .mixedOrders = true) (rk : RowOk P E) (ck : CallOk P call) {id : Nat} {pl : Option Plan} {ops : Array Oper} {draw : Bool} {s s' : St} (h : regionV E call pl ops draw s = some s')
    (hok : (ops.toList.all opOk || (!draw && selHead ops)) = true) (hpl : (!draw || planFor pl ops) = true) {ρ : Map} {a : Act} {w : World} (sr : SRel D ρ s a w) (win : Win ρ s.2 s'.2)
    {Q : Exit → Act → World → Prop} (k : ∀ ρ' a' w', SRel D ρ' s' a' w' → Stp ρ s.2 w ρ' s'.2 w' → Q .normal a' w') : (Code.region id ops draw).wpIn (W rd) 0 P Q a w := by
  unfold regionV at h
  cases draw with
  | false =>
    simp only [Bool.false_eq_true, if_false] at h
    rcases Bool.or_eq_true_iff.1 hok with hok | hok
    · exact wpIn_region_list (ops_sound ko mo rk ck _ _ _ _ _ _ h hok sr win k)
    · exact select_head ko mo rk ck (by simpa using hok) h sr win k
  | true =>
    have hok : ops.toList.all opOk = true := by simpa using hok
    simp only [if_true] at h
    split at h
    · cases h
    · rename_i p
      have hm : mkPlan ops = some p := by simpa [planFor] using hpl
      split at h
      · rename_i s2 hs rs hd
        split at h
        · rename_i hall
          cases h
          refine wpIn_region_any mx ?_
          have srd : SRel D ρ s a w.drew := ⟨sr.t, sr.d, rdN_drew sr.g⟩
          exact draw_sound ko mo rk ck hm hok hd hall srd win fun ρ' a' w' sr' st => k ρ' a' w' sr' (stp_drew st)
        · cases h
      · cases h

theorem iter_next {f : St → Option (Ex × St)} (hf : ∀ s x s', f s = some (x, s') → s.2.next ≤ s'.2.next) : ∀ (n : Nat) (s : St) (x : Ex) (s' : St), iterV f n s = some (x, s') → s.2.next ≤ s'.2.next := by
  intro n
  induction n with
  | zero => intro s x s' h; simp [iterV] at h
  | succ n ih =>
    intro s x s' h
    unfold iterV at h
    split at h
    · rename_i s1 h1
      have := hf _ _ _ h1
      have := ih _ _ _ h
      omega
    · exact hf _ _ _ h
theorem code_next (rk : RowOk P E) (ck : CallOk P call) {pl : Nat → Option Plan} {fuel : Nat} : ∀ (c : Code) (s : St) (x : Ex) (s' : St), codeV E call pl fuel c s = some (x, s') → s.2.next ≤ s'.2.next := by
  intro c
  induction c with
  | skip => intro s x s' h; simp [codeV] at h; rw [h.2]; exact Nat.le_refl _
  | region id ops draw =>
    intro s x s' h
    simp only [codeV, Option.map_eq_some_iff] at h
    obtain ⟨s1, h1, h2⟩ := h
    cases h2
    exact region_next rk ck h1
  | seq a b iha ihb =>
    intro s x s' h
    simp only [codeV] at h
    split at h
    · rename_i s1 h1
      have := iha _ _ _ h1
      have := ihb _ _ _ h
      omega
    · exact iha _ _ _ h
  | cond c a b iha ihb =>
    intro s x s' h
    simp only [codeV] at h
    split at h
    · exact iha _ _ _ h
    · exact ihb _ _ _ h
    · cases h
  | block id b ih =>
    intro s x s' h
    simp only [codeV] at h
    split at h
    · rename_i i s1 h1
      split at h <;> cases h <;> exact ih _ _ _ h1
    · exact ih _ _ _ h
  | loop b ih => intro s x s' h; simp only [codeV] at h; exact iter_next ih _ _ _ _ h
  | exit id => intro s x s' h; simp [codeV] at h; rw [h.2]; exact Nat.le_refl _
  | ret => intro s x s' h; simp [codeV] at h; rw [h.2]; exact Nat.le_refl _
  | rangeFunc f ps a b _ _ =>
    intro s x s' h
    simp only [codeV] at h
    split at h
    · cases h
    · split at h
      · split at h
        · rename_i u h2 hcall
          split at h
          · split at h
            · cases h
            · obtain ⟨x0, hx0, he⟩ := Option.map_eq_some_iff.1 h
              cases he
              have := ck.next _ _ _ _ _ hcall
              have e1 : (s.2.new (.loop { st := .ready, pending := none, tmps := s.1, params := ps, assign := a, body := b, plan := pl })).next = s.2.next + 1 := rfl
              show s.2.next ≤ h2.next
              omega
          · cases h
        · cases h
      · cases h
  | scope b _ => intro s x s' h; simp [codeV] at h
  | label l => intro s x s' h; simp [codeV] at h
  | goto l => intro s x s' h; simp [codeV] at h
  | refuse w => intro s x s' h; simp [codeV] at h

theorem cond_val {ρ : Map} {s : St} {a : Act} (tr : TRel ρ s.1 a) {c : Operand} (hok : okOperand c = true) {b : Bool} (h : evV s.1 c = .bool b) : a.eval c = .bool b := by
  have := tr.ev c
  rw [h] at this
  rw [eval_ok hok]
  exact this.bool_inv
theorem code_sound (ko : TysOk P E) (mo : MethOk P E) (mx : P.follows .mixedOrders = true) (rk : RowOk P E) (ck : CallOk P call) {pl : Nat → Option Plan} {fuel : Nat} :
    ∀ (c : Code) (s : St) (x : Ex) (s' : St), codeV E call pl fuel c s = some (x, s') → codeOk c = true → planOk pl c = true → (rd = none ∨ flat c = true) → ∀ (D : List Deferred) (ρ : Map) (a : Act) (w : World), SRel D ρ s a w → Marked B D ρ w → Win ρ s.2 s'.2 →
      ∀ {Q : Exit → Act → World → Prop}, (∀ D' ρ' a' w', SRel D' ρ' s' a' w' → Marked B D' ρ' w' → Stp ρ s.2 w ρ' s'.2 w' → Q (exitOf x) a' w') → c.wpIn (W rd) 0 P Q a w := by
  intro c
  induction c with
  | skip =>
    intro s x s' h _ _ _ D ρ a w sr mk win Q k
    simp [codeV] at h
    obtain ⟨rfl, rfl⟩ := h
    exact wpIn_skip (k D ρ a w sr mk (.refl _ _ _))
  | exit id =>
    intro s x s' h _ _ _ D ρ a w sr mk win Q k
    simp [codeV] at h
    obtain ⟨rfl, rfl⟩ := h
    exact wpIn_exit (k D ρ a w sr mk (.refl _ _ _))
  | ret =>
    intro s x s' h _ _ _ D ρ a w sr mk win Q k
    simp [codeV] at h
    obtain ⟨rfl, rfl⟩ := h
    exact wpIn_ret (k D ρ a w sr mk (.refl _ _ _))
  | region id ops draw =>
    intro s x s' h hc hp _ D ρ a w sr mk win Q k
    simp only [codeV, Option.map_eq_some_iff] at h
    obtain ⟨s1, h1, h2⟩ := h
    cases h2
    exact region_sound ko mo mx rk ck h1 hc hp sr win fun ρ' a' w' sr' st' => k D ρ' a' w' sr' (mk.stp st') st'
  | seq a b iha ihb =>
    intro s x s' h hc hp hf D ρ ac w sr mk win Q k
    simp only [codeOk, Bool.and_eq_true] at hc
    simp only [planOk, Bool.and_eq_true] at hp
    simp only [flat, Bool.and_eq_true] at hf
    simp only [codeV] at h
    refine wpIn_seq ?_
    split at h
    · rename_i s1 h1
      have hn := code_next rk ck _ _ _ _ h
      refine iha _ _ _ h1 hc.1 hp.1 (hf.imp id (·.1)) D ρ ac w sr mk (fun b q1 q2 => win b q1 (by omega)) fun D1 ρ1 a1 w1 sr1 mk1 st1 => ?_
      refine ihb _ _ _ h hc.2 hp.2 (hf.imp id (·.2)) D1 ρ1 a1 w1 sr1 mk1 (win.sub st1 (Nat.le_refl _)) fun D2 ρ2 a2 w2 sr2 mk2 st2 => ?_
      exact k D2 ρ2 a2 w2 sr2 mk2 (Stp.trans sr.g.fresh sr1.g.fresh st1 st2)
    · rename_i hne
      refine iha _ _ _ h hc.1 hp.1 (hf.imp id (·.1)) D ρ ac w sr mk win fun D1 ρ1 a1 w1 sr1 mk1 st1 => ?_
      cases x with
      | normal => exact absurd h (hne s')
      | exit id => exact k D1 ρ1 a1 w1 sr1 mk1 st1
      | ret => exact k D1 ρ1 a1 w1 sr1 mk1 st1
  | cond c a b iha ihb =>
    intro s x s' h hc hp hf D ρ ac w sr mk win Q k
    simp only [codeOk, Bool.and_eq_true] at hc
    simp only [planOk, Bool.and_eq_true] at hp
    simp only [flat, Bool.and_eq_true] at hf
    simp only [codeV] at h
    split at h
    · rename_i hv
      exact wpIn_cond_true (cond_val sr.t hc.1.1 hv) (iha _ _ _ h hc.1.2 hp.1 (hf.imp id (·.1)) D ρ ac w sr mk win k)
    · rename_i hv
      exact wpIn_cond_false (cond_val sr.t hc.1.1 hv) (ihb _ _ _ h hc.2 hp.2 (hf.imp id (·.2)) D ρ ac w sr mk win k)
    · cases h
  | block id b ih =>
    intro s x s' h hc hp hf D ρ a w sr mk win Q k
    simp only [codeV] at h
    refine wpIn_block ?_
    split at h
    · rename_i i s1 h1
      split at h
      · rename_i hi
        cases h
        refine ih _ _ _ h1 hc hp hf D ρ a w sr mk win fun D1 ρ1 a1 w1 sr1 mk1 st1 => ?_
        simp only [exitOf, Exit.inBlock]
        rw [if_pos hi]
        exact k D1 ρ1 a1 w1 sr1 mk1 st1
      · rename_i hi
        cases h
        refine ih _ _ _ h1 hc hp hf D ρ a w sr mk win fun D1 ρ1 a1 w1 sr1 mk1 st1 => ?_
        simp only [exitOf, Exit.inBlock]
        rw [if_neg hi]
        exact k D1 ρ1 a1 w1 sr1 mk1 st1
    · rename_i hne
      refine ih _ _ _ h hc hp hf D ρ a w sr mk win fun D1 ρ1 a1 w1 sr1 mk1 st1 => ?_
      cases x with
      | normal => exact k D1 ρ1 a1 w1 sr1 mk1 st1
      | exit i => exact absurd h (hne i s')
      | ret => exact k D1 ρ1 a1 w1 sr1 mk1 st1
  | loop b ih =>
    intro s x s' h hc hp hf D ρ a w sr mk win Q k
    simp only [codeV] at h
    refine wpIn_loop_rounds fuel ?_
    have key : ∀ (n : Nat) (s : St), iterV (codeV E call pl fuel b) n s = some (x, s') → ∀ (D : List Deferred) (ρ : Map) (a : Act) (w : World), SRel D ρ s a w → Marked B D ρ w → Win ρ s.2 s'.2 →
        (∀ D' ρ' a' w', SRel D' ρ' s' a' w' → Marked B D' ρ' w' → Stp ρ s.2 w ρ' s'.2 w' → Q (exitOf x) a' w') → Code.roundsIn (W rd) 0 P b Q n a w := by
      intro n
      induction n with
      | zero => intro s h; simp [iterV] at h
      | succ n ihn =>
        intro s h D ρ a w sr mk win k
        rw [roundsIn_succ]
        unfold iterV at h
        split at h
        · rename_i s1 h1
          have hn := iter_next (fun s x s' h => code_next rk ck b s x s' h) _ _ _ _ h
          refine ih _ _ _ h1 hc hp hf D ρ a w sr mk (fun b q1 q2 => win b q1 (by omega)) fun D1 ρ1 a1 w1 sr1 mk1 st1 => ?_
          exact ihn s1 h D1 ρ1 a1 w1 sr1 mk1 (win.sub st1 (Nat.le_refl _)) fun D2 ρ2 a2 w2 sr2 mk2 st2 => k D2 ρ2 a2 w2 sr2 mk2 (Stp.trans sr.g.fresh sr1.g.fresh st1 st2)
        · rename_i hne
          refine ih _ _ _ h hc hp hf D ρ a w sr mk win fun D1 ρ1 a1 w1 sr1 mk1 st1 => ?_
          cases x with
          | normal => exact absurd h (hne s')
          | exit i => exact k D1 ρ1 a1 w1 sr1 mk1 st1
          | ret => exact k D1 ρ1 a1 w1 sr1 mk1 st1
    exact key fuel s h D ρ a w sr mk win k
  | rangeFunc g ps a b _ _ =>
    intro s x s' h hc hp hf D ρ ac w sr mk win Q k
    simp only [codeOk, Bool.and_eq_true] at hc
    simp only [planOk, Bool.and_eq_true] at hp
    have hrd : rd = none := by
      rcases hf with h | h
      · exact h
      · simp [flat] at h
    subst hrd
    simp only [codeV] at h
    split at h
    · cases h
    · rename_i hflat
      have hfa : flat a = true ∧ flat b = true := by simpa using hflat
      split at h
      · rename_i f first captured hev
        split at h
        · rename_i u h2 hcall
          split at h
          · rename_i r hr2
            split at h
            · cases h
            · rename_i hbusy
              obtain ⟨x0, hx0, he⟩ := Option.map_eq_some_iff.1 h
              cases he
              have hn2 := ck.next _ _ _ _ _ hcall
              have hn2' : s.2.next + 1 ≤ h2.next := hn2
              have hwin2 : h2.next = (h2.set s.2.next (.loop { r with st := .exhausted })).next := rfl
              have hn : ρ s.2.next = none := win _ (Nat.le_refl _) (by show s.2.next < h2.next; omega)
              -- the function's value
              have hge := sr.t.ev g
              rw [hev, ← eval_ok hc.1.1] at hge
              cases hge' : ac.eval g <;> rw [hge'] at hge <;> cases hge
              rename_i l' c' hl hlr kl klr
              refine wpIn_rangeFunc fun fn _ => ?_
              obtain ⟨ga, sa⟩ := step_grow (w' := w.alloc (.deferred (some []))) sr.g ⟨by rw [World.size_alloc]; omega, rfl, rfl⟩ (fun r hr => alloc_old w _ r hr)
              have horel : ∀ ρ' : Map, Ext ρ ρ' → ORel ρ' (.loop { st := .ready, pending := none, tmps := s.1, params := ps, assign := a, body := b, plan := pl }) { blk := w.heap.size + 1, base := 0, opn := none, tot := 0 }
                  ((w.alloc (.deferred (some []))).alloc (.loop { state := .ready, pending := none, fn, tmps := ac.tmps, params := ps, assign := a, body := b, defers := w.heap.size })) := by
                intro ρ' e
                refine ⟨rfl, hc.1.2, hc.2, hp.1, hp.2, hfa.1, hfa.2, { state := .ready, pending := none, fn, tmps := ac.tmps, params := ps, assign := a, body := b, defers := w.heap.size }, ?_, rfl, rfl, rfl, rfl, rfl, (trel_rels sr.t).ext e⟩
                have := alloc_new (w.alloc (.deferred (some []))) (.loop { state := .ready, pending := none, fn, tmps := ac.tmps, params := ps, assign := a, body := b, defers := w.heap.size })
                rw [World.size_alloc] at this
                exact this
              obtain ⟨gb, sb⟩ := step_new (i := { blk := w.heap.size + 1, base := 0, opn := none, tot := 0 })
                (w' := (w.alloc (.deferred (some []))).alloc (.loop { state := .ready, pending := none, fn, tmps := ac.tmps, params := ps, assign := a, body := b, defers := w.heap.size })) ga hn
                (by rw [World.size_alloc]) ⟨by rw [World.size_alloc], rfl, rfl⟩ (fun r hr => alloc_old _ _ r hr) (horel _ (upd_ext _ hn))
              have e0 := upd_ext (ρ := ρ) { blk := w.heap.size + 1, base := 0, opn := none, tot := 0 } hn
              have hmk : Marked B (markOf w.heap.size :: D) (upd ρ s.2.next { blk := w.heap.size + 1, base := 0, opn := none, tot := 0 })
                  ((w.alloc (.deferred (some []))).alloc (.loop { state := .ready, pending := none, fn, tmps := ac.tmps, params := ps, assign := a, body := b, defers := w.heap.size })) := by
                refine ((mk.stp sa).stp sb).push mk.base ?_ (fun c i hci => ?_) (fun q hq => ?_)
                · rw [alloc_old _ _ _ (by rw [World.size_alloc]; omega)]; exact alloc_new w _
                · unfold upd at hci
                  split at hci
                  · cases hci; simp
                  · have := sr.g.lt _ _ hci; omega
                · obtain ⟨⟨rs, hD, _, hall⟩, _⟩ := mk
                  rw [hD] at hq
                  obtain ⟨q', hq', he⟩ := List.mem_map.1 hq
                  cases he
                  have := heap_lt (hall q hq').2.1
                  omega
              have hwin : Win (upd ρ s.2.next { blk := w.heap.size + 1, base := 0, opn := none, tot := 0 }) (s.2.new (.loop { st := .ready, pending := none, tmps := s.1, params := ps, assign := a, body := b, plan := pl })) h2 := by
                intro c q1 q2
                have q1' : s.2.next + 1 ≤ c := q1
                unfold upd
                rw [if_neg (by omega)]
                exact win c (by omega) (by show c < h2.next; exact q2)
              have hall : VRels (upd ρ s.2.next { blk := w.heap.size + 1, base := 0, opn := none, tot := 0 }) (first.toList ++ [Value.func (.yield s.2.next) #[] #[]] ++ captured.toList)
                  ((l' ++ #[Value.func (.yield (w.heap.size + 1)) #[] #[]]) ++ c').toList := by
                rw [Array.toList_append, Array.toList_append]
                exact (VRels.append (VRels.ext e0 ⟨hl, hlr⟩) (.cons (.yield _ _ upd_self rfl) .nil)).append (VRels.ext e0 ⟨kl, klr⟩)
              have hcalls := ck.calls _ _ _ _ _ hcall _ _ _ gb hwin hall
              refine ⟨w.heap.size + 1, [markOf w.heap.size], _, { target := .fn (.func f) c', args := l' ++ #[.func (.yield (w.heap.size + 1)) #[] #[]] },
                (w.alloc (.deferred (some []))).alloc (.loop { state := .ready, pending := none, fn, tmps := ac.tmps, params := ps, assign := a, body := b, defers := w.heap.size }), f, _, _, run_enterLoop_outer _ _ _ _ _, ?_, fun _ _ => trivial, ?_, W_deep, callsIn_W.2 (Calls.mono hcalls fun e w3 hp3 => ?_)⟩
              · have hmap : (#[Operand.const (.func (.yield (w.heap.size + 1)) #[] #[])] : Array Operand).map ac.eval = #[.func (.yield (w.heap.size + 1)) #[] #[]] := by simp [Act.eval]
                simp only [resolve, hge', Deferred.ofValue, hmap]
                rfl
              · simp [invoke, run_enter (ck.enters _ _ _ _ _ hcall)]
              · obtain ⟨ρ3, v3, rfl, _, g3, s3⟩ := hp3
                have hi3 := s3.ext _ _ (upd_self (ρ := ρ) (n := s.2.next) (i := { blk := w.heap.size + 1, base := 0, opn := none, tot := 0 }))
                obtain ⟨q0, q1, q2, q3, q4, q5, q6, L, hL, e1, e2, e3, e4, e5, e6⟩ := g3.rel _ _ _ hi3 hr2
                have hnb : L.state ≠ .busy := by rw [e1]; simpa using hbusy
                obtain ⟨g4, s4⟩ := set_obj (o := .loop { L with state := .exhausted }) (x := .loop { r with st := .exhausted }) g3 hi3 (by rw [hr2]; simp)
                  ⟨q0, q1, q2, q3, q4, q5, q6, _, World.putObj_heap_same (g3.lt _ _ hi3), rfl, e2, e3, e4, e5, e6⟩
                have st : Stp ρ s.2 w ρ3 (h2.set s.2.next (.loop { r with st := .exhausted })) (w3.putObj (w.heap.size + 1) (.loop { L with state := .exhausted })) :=
                  Stp.trans sr.g.fresh g3.fresh (Stp.trans sr.g.fresh gb.fresh (Stp.trans sr.g.fresh ga.fresh sa sb) s3) s4
                have mk4 := (hmk.stp s3).stp s4
                have hk := k (markOf w.heap.size :: D) ρ3 { ac with defers := [markOf w.heap.size] ++ ac.defers } _ ⟨TRel.ext st.ext sr.t, by simp [sr.d], g4⟩ mk4 st
                refine ⟨r.pending, _, by rw [← e2]; exact run_endLoop hL hnb, ?_⟩
                unfold exOf at hx0
                split at hx0
                · rename_i hpd; cases hx0; rw [hpd]; exact hk
                · rename_i id hpd; cases hx0; rw [hpd]; exact wpIn_exit hk
                · rename_i hpd; cases hx0; rw [hpd]; exact wpIn_ret hk
                · cases hx0
          · cases h
        · cases h
      · cases h
  | scope b _ => intro s x s' h; simp [codeV] at h
  | label l => intro s x s' h; simp [codeV] at h
  | goto l => intro s x s' h; simp [codeV] at h
  | refuse w => intro s x s' h; simp [codeV] at h

theorem results_run (ko : TysOk P E) {ρ : Map} {s : St} {a : Act} {w : World} (sr : SRel D ρ s a w) {f : ResultVar → Sem Value} (ft : ∀ t w, (f (.tmp t)).run P w = .ok (a.tmps.getD t undef) w)
    (fc : ∀ x t b v w, a.tmps.getD x undef = .pointer (some b) → (loadVar t b).run P w = .ok v w → (f (.cell x t)).run P w = .ok v w) : ∀ (rs : List ResultVar) (l : List Value), resultsV E s rs = some l →
    ∃ l', VRels ρ l l' ∧ (rs.mapM f).run P w = .ok l' w := by
  intro rs
  induction rs with
  | nil => intro l h; simp [resultsV] at h; subst h; exact ⟨[], .nil, by simp⟩
  | cons r rs ih =>
    intro l h
    cases r with
    | tmp t =>
      simp only [resultsV, Option.map_eq_some_iff] at h
      obtain ⟨l0, h0, rfl⟩ := h
      obtain ⟨l', rl, run⟩ := ih l0 h0
      exact ⟨_ :: l', VRels.cons (sr.t.2 t) rl, by simp only [List.mapM_cons, Sem.run_bind, ft, Result.andThen_ok, run, Sem.run_pure]⟩
    | cell x t =>
      simp only [resultsV] at h
      replace h := bind_some.1 h; obtain ⟨v, hv, h⟩ := h
      replace h := bind_some.1 h; obtain ⟨l0, h0, h⟩ := h
      cases h
      obtain ⟨l', rl, run⟩ := ih l0 h0
      obtain ⟨v', rv, runv⟩ := load_run (P := P) ko sr.g (sr.t.2 x) hv
      refine ⟨v' :: l', VRels.cons rv rl, ?_⟩
      have hx := sr.t.2 x
      have : ∃ b, a.tmps.getD x undef = .pointer (some b) := by
        unfold loadV at hv
        replace hv := bind_some.1 hv; obtain ⟨i, hi, hv⟩ := hv
        replace hv := bind_some.1 hv; obtain ⟨q, hq, hv⟩ := hv
        unfold ptrOf at hq
        split at hq
        · rename_i b hb
          rw [hb] at hx
          obtain ⟨j, _, _, hp⟩ := ptr_inv hx
          exact ⟨_, hp⟩
        · cases hq
      obtain ⟨b, hb⟩ := this
      rw [hb] at runv
      simp only [Instr.loadAt, Instr.sureAddr, Sem.run_bind, Sem.run_pure, Result.andThen_ok] at runv
      simp only [List.mapM_cons, Sem.run_bind, fc _ _ _ _ _ hb runv, Result.andThen_ok, run, Sem.run_pure]

def resF (a : Act) (r : ResultVar) : Sem Value :=
  match r with
  | .tmp t => pure (a.tmps.getD t undef)
  | .cell x t => do loadVar t (← asAddr (a.tmps.getD x undef))
theorem results_eq (fn : Func) (a : Act) : results fn a.tmps = (do
    let vs ← fn.results.mapM (resF a)
    pure (if h : vs.size = 1 then vs[0] else .tuple vs)) := rfl
theorem callV_fn {n : Nat} {f : FuncId} {args : List Value} {h : Heap} : (callV E (n + 1)).fn f args h = (match E.ext f with
    | some g => g args h
    | none =>
    match E.fn f with
    | none => none
    | some fn =>
      match codeV E (callV E n) fn.plan n fn.body (args ++ List.replicate (fn.fn.ntmps - args.length) undef, h) with
      | some (.normal, s) | some (.ret, s) => (resultsV E s fn.fn.results.toList).map fun l => (oneOrTuple l, s.2)
      | _ => none) := rfl
theorem callV_yld {n l : Nat} {args : List Value} {h : Heap} : (callV E (n + 1)).yld l args h = yldV E (callV E n) n l args h := rfl
theorem yld_next (rk : RowOk P E) (ck : CallOk P call) {n l : Nat} {args : List Value} {h h' : Heap} {v : Value} (hy : yldV E call n l args h = some (v, h')) : h.next ≤ h'.next := by
  unfold yldV at hy
  split at hy
  · split at hy
    · cases hy
    · split at hy
      · rename_i s1 h1
        split at hy
        · split at hy
          · split at hy
            · rename_i x s3 h3
              split at hy
              · cases hy
                have e1 := code_next rk ck _ _ _ _ h1
                have e3 := code_next rk ck _ _ _ _ h3
                exact Nat.le_trans e1 e3
              · cases hy
            · cases hy
          · cases hy
        · cases hy
      · cases hy
  · cases hy
theorem yld_ok (ok : EnvOk P E) (ck : CallOk P call) {n l : Nat} {args : List Value} {h h' : Heap} {v : Value} (hy : yldV E call n l args h = some (v, h')) {ρ : Map} {w : World} {args' : Array Value} {i : Info}
    (hi : ρ l = some i) (g : Good ρ h w) (win : Win ρ h h') (hargs : VRels ρ args args'.toList) :
    ∃ L : Loop, w.heap[i.blk]? = some (.loop L) ∧ args'.size = L.params.size ∧
      RoundIn (W none) 0 P i.blk L.fn ((L.params.zip args').foldl (fun tmps (t, a) => tmps.setIfInBounds t a) L.tmps) L.assign L.body w (Post ρ h w v h') := by
  unfold yldV at hy
  split at hy
  · rename_i r hget
    split at hy
    · cases hy
    · rename_i hlen
      split at hy
      · rename_i s1 h1
        split at hy
        · rename_i r1 hget1
          split at hy
          · rename_i hready
            split at hy
            · rename_i x s3 h3
              split at hy
              · rename_i r3 hget3
                cases hy
                obtain ⟨q0, q1, q2, q3, q4, q5, q6, L, hL, e1, e2, e3, e4, e5, e6⟩ := g.rel _ _ _ hi hget
                have n1 := code_next ok.row ck _ _ _ _ h1
                have n3 := code_next ok.row ck _ _ _ _ h3
                have n3 : s1.2.next ≤ s3.2.next := n3
                refine ⟨L, hL, ?_, ?_⟩
                · rw [e3]
                  have := hargs.1
                  simp only [Array.length_toList] at this
                  omega
                · rw [e4, e5]
                  refine roundIn_of_wpIn trivial ?_
                  have srA : SRel [] ρ (setAll (r.params.toList.zip args) r.tmps, h) { tmps := (L.params.zip args').foldl (fun tmps (t, a) => tmps.setIfInBounds t a) L.tmps, defers := [] } w := by
                    refine ⟨trel_of ?_, rfl, g⟩
                    have := setAll_rels r.params.toList args args'.toList r.tmps L.tmps hargs e6
                    rw [e3, ← Array.foldl_toList, Array.toList_zip]
                    exact this
                  refine code_sound (rd := some i.blk) (B := 0) ok.ty ok.meth ok.mixed ok.row ck _ _ _ _ h1 q1 q3 (.inr q5) [] ρ _ w srA (.nil (Nat.zero_le _)) (fun c c1 c2 => win c c1 (Nat.lt_of_lt_of_le c2 n3)) fun D1 ρ1 a1 w1 sr1 mk1 st1 => ?_
                  have hi1 := st1.ext _ _ hi
                  obtain ⟨f0, f1, f2, f3, f4, f5, f6, L1, hL1, d1, d2, d3, d4, d5, d6⟩ := sr1.g.rel _ _ _ hi1 hget1
                  have hst : L1.state = .ready := by rw [d1]; simpa using hready
                  refine ⟨_, run_beginRound hL1 hst, ?_⟩
                  obtain ⟨g2, s2⟩ := set_obj (o := .loop { L1 with state := .busy }) (x := .loop { r1 with st := .busy }) sr1.g hi1 (by rw [hget1]; simp)
                    ⟨f0, f1, f2, f3, f4, f5, f6, { L1 with state := .busy }, World.putObj_heap_same (sr1.g.lt _ _ hi1), rfl, d2, d3, d4, d5, d6⟩
                  have win1 : Win ρ1 s1.2 s3.2 := Win.sub (h3 := s3.2) win st1 (Nat.le_refl _)
                  refine code_sound (rd := some i.blk) (B := 0) ok.ty ok.meth ok.mixed ok.row ck _ _ _ _ h3 q2 q4 (.inr q6) D1 ρ1 a1 _ ⟨sr1.t, sr1.d, g2⟩ (mk1.stp s2) win1 fun D3 ρ3 a3 w3 sr3 mk3 st3 => ?_
                  have hi3 := st3.ext _ _ hi1
                  obtain ⟨k0, k1, k2, k3, k4, k5, k6, L3, hL3, b1, b2, b3, b4, b5, b6⟩ := sr3.g.rel _ _ _ hi3 hget3
                  have hend := run_endRound (P := P) (jumpOf x) hL3
                  obtain ⟨g4, s4⟩ := set_obj (o := .loop { L3 with state := if (jumpOf x).isNone then .ready else .done, pending := jumpOf x })
                    (x := .loop { r3 with st := if (jumpOf x).isNone then .ready else .done, pending := jumpOf x }) sr3.g hi3 (by rw [hget3]; simp)
                    ⟨k0, k1, k2, k3, k4, k5, k6, _, World.putObj_heap_same (sr3.g.lt _ _ hi3), rfl, rfl, b3, b4, b5, b6⟩
                  have st : Stp ρ h w ρ3 _ _ := Stp.trans g.fresh sr3.g.fresh (Stp.trans g.fresh g2.fresh (Stp.trans g.fresh sr1.g.fresh st1 s2) st3) s4
                  have hR : Post ρ h w (.bool (jumpOf x).isNone) _ (.returned (.bool (jumpOf x).isNone)) _ := ⟨ρ3, _, rfl, .bool _, g4, st⟩
                  cases x with
                  | normal => exact ⟨_, _, hend, hR⟩
                  | exit id => exact ⟨_, _, hend, hR⟩
                  | ret => exact ⟨_, _, hend, hR⟩
              · cases hy
            · cases hy
          · cases hy
        · cases hy
      · cases hy
  · cases hy
theorem stp_apart {ρ ρ' : Map} {h h' : Heap} {w w' : World} {r : Nat} {o : Obj} (s : Stp ρ h w ρ' h' w') (hr : w.heap.size ≤ r) : Stp ρ h w ρ' h' (w'.putObj r o) :=
  ⟨s.ext, s.dom, s.win, s.next, s.vframe, s.dead, by rw [World.putObj_size]; exact s.grow, fun q hq hf => by rw [World.putObj_heap_other (by omega)]; exact s.rframe q hq hf, s.fromN, s.side⟩
theorem leaves_ok {fn : Func} {tmps : Array Value} {ρ ρ' : Map} {h h' : Heap} {w : World} {R : Ending → World → Prop}
    (fin : ∀ w', Good ρ' h' w' → Stp ρ h w ρ' h' w' → ∃ v, (results fn tmps).run P w' = .ok v w' ∧ R (.returned v) w') :
    ∀ (rs : List Nat) (w' : World), rs.Nodup → (∀ r ∈ rs, w.heap.size ≤ r ∧ w'.heap[r]? = some (.deferred (some [])) ∧ ∀ b i, ρ' b = some i → i.blk ≠ r) → Good ρ' h' w' → Stp ρ h w ρ' h' w' →
      LeavesInM (W none) 0 P fn tmps R (rs.map markOf) .returning w' := by
  intro rs
  induction rs with
  | nil => intro w' _ _ g s; exact fin w' g s
  | cons r rs ih =>
    intro w' hnd hall g s
    obtain ⟨h1, h2, h3⟩ := hall r List.mem_cons_self
    obtain ⟨hni, hnd'⟩ := List.nodup_cons.1 hnd
    refine ⟨by simp, .inl ⟨r, w'.putObj r (.deferred none), rfl, run_takeDeferred h2, ih _ hnd' (fun q hq => ?_) (good_apart g h3 World.putObj_size (fun k hk => World.putObj_heap_other hk)) (stp_apart s h1)⟩⟩
    obtain ⟨g1, g2, g3⟩ := hall q (List.mem_cons_of_mem _ hq)
    exact ⟨g1, by rw [World.putObj_heap_other (fun e => by subst e; exact hni hq)]; exact g2, g3⟩

theorem call_ok (ok : EnvOk P E) : ∀ n, CallOk P (callV E n) := by
  intro n
  induction n with
  | zero => exact ⟨fun f args h v h' hc => by simp [callV] at hc, fun f args h v h' hc => by simp [callV] at hc, fun f args h v h' hc => by simp [callV] at hc, fun f args h v h' hc => by simp [callV] at hc, fun f args h v h' hc => by simp [callV] at hc⟩
  | succ n ih =>
    refine ⟨fun f args h v h' hc => ?_, fun f args h v h' hc => ?_, fun f args h v h' hc ρ w args' g win hargs => ?_, fun l args h v h' hy => yld_next ok.row ih hy, fun l args h v h' hy ρ w args' i hi g win hargs => yld_ok ok ih hy hi g win hargs⟩
    · rw [callV_fn] at hc
      split at hc
      · rename_i gx hx; exact (ok.ext _ _ hx _ _ _ _ hc).1
      · split at hc
        · cases hc
        · rename_i fn hf
          have q := ok.fn _ _ hf
          exact ⟨fn.fn, q.fn, q.name, by rw [q.body]; simp⟩
    · rw [callV_fn] at hc
      split at hc
      · rename_i gx hx; exact (ok.ext _ _ hx _ _ _ _ hc).2.1
      · split at hc
        · cases hc
        · rename_i fn hf
          split at hc
          · rename_i s hcode
            obtain ⟨l, hl, he⟩ := Option.map_eq_some_iff.1 hc
            cases he
            exact code_next ok.row ih _ _ _ _ hcode
          · rename_i s hcode
            obtain ⟨l, hl, he⟩ := Option.map_eq_some_iff.1 hc
            cases he
            exact code_next ok.row ih _ _ _ _ hcode
          · cases hc
    · rw [callV_fn] at hc
      split at hc
      · rename_i gx hx; exact (ok.ext _ _ hx _ _ _ _ hc).2.2 ρ w args' g win hargs
      · split at hc
        · cases hc
        · rename_i fn hf
          have q := ok.fn _ _ hf
          have sr : SRel [] ρ (args ++ List.replicate (fn.fn.ntmps - args.length) undef, h) { tmps := args' ++ Array.replicate (fn.fn.ntmps - args'.size) undef, defers := [] } w := by
            have hl : args.length = args'.size := by rw [hargs.1]; simp
            refine ⟨trel_of ?_, rfl, g⟩
            rw [Array.toList_append, hl]
            refine hargs.append (.of_get (by simp) fun j v v' h1 h2 => ?_)
            rw [List.getElem?_replicate] at h1
            rw [Array.toList_replicate, List.getElem?_replicate] at h2
            split at h1
            · rename_i hlt; rw [if_pos hlt] at h2; cases h1; cases h2; exact undef_rel
            · cases h1
          have fin : ∀ (x : Ex) (s : St), (x = .normal ∨ x = .ret) → codeV E (callV E n) fn.plan n fn.body (args ++ List.replicate (fn.fn.ntmps - args.length) undef, h) = some (x, s) →
              (resultsV E s fn.fn.results.toList).map (fun l => (oneOrTuple l, s.2)) = some (v, h') → Calls P f args' w (Post ρ h w v h') := by
            intro x s hx hcode hres
            obtain ⟨l, hl, he⟩ := Option.map_eq_some_iff.1 hres
            cases he
            refine (callsIn_W (rd := none) (n := 0)).1 (callsIn_of_wp_marks q.fn q.body trivial ?_)
            refine code_sound (rd := none) (B := w.heap.size) ok.ty ok.meth ok.mixed ok.row ih _ _ _ _ hcode q.code q.plan (.inl rfl) [] ρ _ w sr (.nil (Nat.le_refl _)) win fun D' ρ' a' w' sr' mk' st' => ?_
            have hr : ∀ w2, Good ρ' s.2 w2 → Stp ρ h w ρ' s.2 w2 → ∃ v', (results fn.fn a'.tmps).run P w2 = .ok v' w2 ∧ Post ρ h w (oneOrTuple l) s.2 (.returned v') w2 := by
              intro w2 g2 st2
              rw [results_eq, Array.mapM_eq_mapM_toList]
              have sr2 : SRel D' ρ' s a' w2 := ⟨sr'.t, sr'.d, g2⟩
              obtain ⟨l', rl, run⟩ := results_run (P := P) ok.ty sr2 (f := resF a') (fun t w => rfl)
                (fun x t b v w hb hrun => by simp only [resF, hb, asAddr, Sem.run_bind, Sem.run_pure, Result.andThen_ok, hrun]) _ _ hl
              refine ⟨if h : l'.toArray.size = 1 then l'.toArray[0] else .tuple l'.toArray, ?_, ρ', _, rfl, ?_, g2, st2⟩
              · have run' := run
                simp only [Sem.run_bind, Sem.run_map]
                rw [run]
                rfl
              · cases l with
                | nil => have := rl.nil_inv; subst this; exact undef_rel
                | cons v l =>
                  obtain ⟨v', r', rfl, hv, hr⟩ := rl.cons_inv
                  cases l with
                  | nil => have := hr.nil_inv; subst this; exact hv
                  | cons u l =>
                    obtain ⟨u', r2, rfl, hu, hr2⟩ := hr.cons_inv
                    simp only [oneOrTuple]
                    rw [dif_neg (by simp)]
                    exact VRel.tuple' rl
            obtain ⟨⟨rs, hD, hnd, hall⟩, _⟩ := mk'
            have hlv := leaves_ok (P := P) (fn := fn.fn) (tmps := a'.tmps) hr rs w' hnd hall sr'.g st'
            rw [← hD, ← sr'.d] at hlv
            rcases hx with rfl | rfl
            · exact hlv
            · exact hlv
          split at hc
          · rename_i s hcode; exact fin _ _ (.inl rfl) hcode hc
          · rename_i s hcode; exact fin _ _ (.inr rfl) hcode hc
          · cases hc
end
end Go.Vi
