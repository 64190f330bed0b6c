/- Vf4: what the fast interpreter says the slow one says. -/
import Derived.Test.YtdbicjhpgofpiaaGreatDoorVf3
namespace Go.Vi
structure CallLe (c c' : CallV) : Prop where
  fn : ∀ f a h r, c.fn f a h = some r → c'.fn f a h = some r
  yld : ∀ l a h r, c.yld l a h = some r → c'.yld l a h = some r
section
variable {E : Env} {call callv : CallV}
theorem heavy_mono (le : CallLe call callv) {ev : Operand → Value} {h : Heap} {o : Oper} {r : Value × Heap} (hs : heavyV E call ev h o = some r) : heavyV E callv ev h o = some r := by
  unfold heavyV at hs ⊢
  split at hs <;> try exact hs
  split at hs <;> try exact hs
  · split at hs <;> try exact hs
    · split at hs
      · exact hs
      · exact le.fn _ _ _ _ hs
    · split at hs
      · rename_i hc; rw [if_pos hc]; exact le.yld _ _ _ _ hs
      · cases hs
  · split at hs <;> try exact hs
    rename_i t v hv
    obtain ⟨g, hg, hs⟩ := bind_some.1 hs
    rw [hg]
    exact le.fn _ _ _ _ hs
theorem stepE_mono (le : CallLe call callv) {ev : Operand → Value} {h : Heap} {o : Oper} {r : Value × Heap} (hs : stepE E call ev h o = some r) : stepE E callv ev h o = some r := by
  unfold stepE at hs ⊢
  split at hs
  · exact hs
  · split at hs
    · exact hs
    · split at hs
      · exact hs
      · exact heavy_mono le hs
theorem stepE_congr {ev ev2 : Operand → Value} {h : Heap} {o : Oper} (he : ∀ x ∈ o.op.operands, ev x = ev2 x) : stepE E call ev h o = stepE E call ev2 h o := by
  unfold stepE
  rw [pure_congr he, read_congr he, new_congr he, heavy_congr he]
theorem sop_ev {d n : Nat} {tt : BT} {t : Tmps} (tb : TB d n tt t) {x : SOp} (hx : sopOk n x = true) : ∀ a ∈ x.o.op.operands, evF d tt a = evV t a := by
  intro a ha
  unfold sopOk at hx
  simp only [Bool.and_eq_true] at hx
  have ha : a ∈ x.op.operands := ha
  exact tb.ev (List.all_eq_true.1 hx.1.1 a (by simpa using ha))
theorem sop_d {n : Nat} {x : SOp} (hx : sopOk n x = true) : (match x.d with | some i => decide (i < n) | none => true) = true := by
  unfold sopOk at hx
  simp only [Bool.and_eq_true] at hx
  exact hx.1.2
theorem want_eq {d n : Nat} {tt : BT} {t : Tmps} (tb : TB d n tt t) {x : SOp} (hx : sopOk n x = true) : wantF d tt x.g = wantS x.g t := by
  unfold sopOk at hx
  simp only [Bool.and_eq_true] at hx
  have hg := hx.2
  unfold wantF wantS
  cases hxg : x.g with
  | none => rfl
  | some p =>
    obtain ⟨o, want⟩ := p
    cases o with
    | none => rfl
    | some i =>
      rw [hxg] at hg
      have hi : i < n := by simpa using hg
      have hl : i < List.length t := by rw [tb.len]; exact hi
      simp only [Option.bind_some]
      rw [getp_eq, tb.get i hi, List.getD_eq_getElem?_getD, List.getElem?_eq_getElem hl]
      simp only [Option.getD_some]
      cases t[i] <;> rfl
theorem step_le (le : CallLe call callv) {d n : Nat} {tt : BT} {t : Tmps} (tb : TB d n tt t) {x : SOp} (hx : sopOk n x = true) {h : Heap} {r : Value × Heap} (hs : stepF E call (evF d tt) h x = some r) :
    stepV E callv x.o (t, h) = some r := by
  rw [stepF_eq, stepE_congr (sop_ev tb hx)] at hs
  exact stepE_mono le hs
theorem ops_le (le : CallLe call callv) {d n : Nat} : ∀ (l : List SOp) (tt : BT) (t : Tmps) (h : Heap) (tt' : BT) (h' : Heap), l.all (sopOk n) = true → TB d n tt t → opsF E call d l tt h = some (tt', h') →
    ∃ t', opsS E callv l (t, h) = some (t', h') ∧ TB d n tt' t' := by
  intro l
  induction l with
  | nil =>
    intro tt t h tt' h' _ tb hs
    have hs : some (tt, h) = some (tt', h') := hs
    cases hs
    exact ⟨t, rfl, tb⟩
  | cons x l ih =>
    intro tt t h tt' h' hok tb hs
    rw [List.all_cons, Bool.and_eq_true] at hok
    have hs : Bool.rec (motive := fun _ => Option (BT × Heap)) (opsF E call d l (putF d x.d undef tt) h) (opsK (opsF E call d l) d x.d tt (stepF E call (evF d tt) h x)) (wantF d tt x.g) = some (tt', h') := hs
    rw [want_eq tb hok.1] at hs
    rw [opsS]
    cases hw : wantS x.g t with
    | false =>
      rw [hw] at hs
      rw [if_neg (by simp)]
      exact ih _ _ _ _ _ hok.2 (tb.putF (sop_d hok.1) undef) hs
    | true =>
      rw [hw] at hs
      have hs : opsK (opsF E call d l) d x.d tt (stepF E call (evF d tt) h x) = some (tt', h') := hs
      rw [if_pos (by simp)]
      cases hst : stepF E call (evF d tt) h x with
      | none => rw [hst] at hs; cases hs
      | some r =>
        obtain ⟨v, h1⟩ := r
        rw [hst] at hs
        have hs : opsF E call d l (putF d x.d v tt) h1 = some (tt', h') := hs
        rw [step_le le tb hok.1 hst]
        exact ih _ _ _ _ _ hok.2 (tb.putF (sop_d hok.1) v) hs

/-! ## Regions whose order is drawn -/
structure SeenRel (d n : Nat) (f : FSeen) (s : SSeen) : Prop where
  at_ : f.at_ = s.at_
  op : f.op = s.op
  v : f.v = s.v
  ok : sopOk n s.op = true
  tb : TB d n f.t s.t
def Covers (d n : Nat) (rs : List FSeen) (ss : List SSeen) : Prop := ∀ s ∈ ss, ∃ f ∈ rs, SeenRel d n f s
theorem reads_le {d n : Nat} {tt : BT} {t : Tmps} (tb : TB d n tt t) {x : SOp} (hx : sopOk n x = true) {h : Heap} (hr : isRead E x t h = true) : readsF E (evF d tt) h x = true := by
  have he := sop_ev tb hx
  unfold isRead at hr
  rw [← pure_congr he, ← read_congr he] at hr
  unfold readsF
  cases hm : maybeRead x with
  | none => exact hr
  | some b =>
    cases b with
    | true => rfl
    | false =>
      exfalso
      obtain ⟨xd, op, ty, g⟩ := x
      unfold maybeRead at hm
      cases op <;> simp only [reduceCtorEq, Option.some.injEq] at hm <;> (simp [readV, SOp.o] at hr)
theorem draw_le (le : CallLe call callv) {d n : Nat} : ∀ (l : List SOp) (j : Nat) (tt : BT) (t : Tmps) (h : Heap) (hs : List Heap) (rs : List FSeen) (ss : List SSeen) (tt' : BT) (h' : Heap) (hs' : List Heap) (rs' : List FSeen),
    l.all (sopOk n) = true → TB d n tt t → Covers d n rs ss → drawF E call d l j tt h hs rs = some (tt', h', hs', rs') →
    ∃ t' ss', drawT E callv l j (t, h) hs ss = some ((t', h'), hs', ss') ∧ TB d n tt' t' ∧ Covers d n rs' ss' := by
  intro l
  induction l with
  | nil =>
    intro j tt t h hs rs ss tt' h' hs' rs' _ tb cv hd
    have hd : some (tt, h, hs ++ [h], rs) = some (tt', h', hs', rs') := hd
    cases hd
    exact ⟨t, ss, rfl, tb, cv⟩
  | cons x l ih =>
    intro j tt t h hs rs ss tt' h' hs' rs' hok tb cv hd
    rw [List.all_cons, Bool.and_eq_true] at hok
    have hhs : (Bool.rec (motive := fun _ => List Heap) hs (hs ++ [h]) (heavyOp x.o)) = (if heavyOp x.o then hs ++ [h] else hs) := by cases heavyOp x.o <;> rfl
    have hd : Bool.rec (motive := fun _ => Option (BT × Heap × List Heap × List FSeen))
      (drawF E call d l (j + 1) (putF d x.d undef tt) h (Bool.rec (motive := fun _ => List Heap) hs (hs ++ [h]) (heavyOp x.o)) rs)
      (drawK (fun t' h' rs' => drawF E call d l (j + 1) t' h' (Bool.rec (motive := fun _ => List Heap) hs (hs ++ [h]) (heavyOp x.o)) rs') d x.d tt (stepF E call (evF d tt) h x)
        (fun v => Bool.rec (motive := fun _ => List FSeen) (Bool.rec (motive := fun _ => List FSeen) rs (⟨j, x, tt, v⟩ :: rs) (readsF E (evF d tt) h x)) rs (heavyOp x.o)))
      (wantF d tt x.g) = some (tt', h', hs', rs') := hd
    rw [want_eq tb hok.1, hhs] at hd
    rw [drawT]
    cases hw : wantS x.g t with
    | false =>
      rw [hw] at hd
      simp only [Bool.false_eq_true, if_false]
      exact ih _ _ _ _ _ _ _ _ _ _ _ hok.2 (tb.putF (sop_d hok.1) undef) cv hd
    | true =>
      rw [hw] at hd
      simp only [if_true]
      have hd : drawK (fun t' h' rs' => drawF E call d l (j + 1) t' h' (if heavyOp x.o then hs ++ [h] else hs) rs') d x.d tt (stepF E call (evF d tt) h x)
        (fun v => Bool.rec (motive := fun _ => List FSeen) (Bool.rec (motive := fun _ => List FSeen) rs (⟨j, x, tt, v⟩ :: rs) (readsF E (evF d tt) h x)) rs (heavyOp x.o)) = some (tt', h', hs', rs') := hd
      cases hst : stepF E call (evF d tt) h x with
      | none => rw [hst] at hd; cases hd
      | some r =>
        obtain ⟨v, h1⟩ := r
        rw [hst] at hd
        have hd : drawF E call d l (j + 1) (putF d x.d v tt) h1 (if heavyOp x.o then hs ++ [h] else hs)
          (Bool.rec (motive := fun _ => List FSeen) (Bool.rec (motive := fun _ => List FSeen) rs (⟨j, x, tt, v⟩ :: rs) (readsF E (evF d tt) h x)) rs (heavyOp x.o)) = some (tt', h', hs', rs') := hd
        rw [step_le le tb hok.1 hst]
        simp only
        refine ih _ _ _ _ _ _ _ _ _ _ _ hok.2 (tb.putF (sop_d hok.1) v) ?_ hd
        intro s hsm
        cases hh : heavyOp x.o with
        | true =>
          rw [hh] at hsm
          simp only [Bool.not_true, Bool.false_and, Bool.false_eq_true, if_false] at hsm
          exact cv s hsm
        | false =>
          rw [hh] at hsm
          simp only [Bool.not_false, Bool.true_and] at hsm
          show ∃ f ∈ (Bool.rec (motive := fun _ => List FSeen) rs (⟨j, x, tt, v⟩ :: rs) (readsF E (evF d tt) h x)), _
          split at hsm
          · rename_i hr
            rw [reads_le tb hok.1 hr]
            rcases List.mem_cons.1 hsm with rfl | hsm
            · exact ⟨_, List.mem_cons_self, rfl, rfl, rfl, hok.1, tb⟩
            · obtain ⟨f, hf, hr2⟩ := cv s hsm
              exact ⟨f, List.mem_cons_of_mem _ hf, hr2⟩
          · obtain ⟨f, hf, hr2⟩ := cv s hsm
            cases readsF E (evF d tt) h x with
            | false => exact ⟨f, hf, hr2⟩
            | true => exact ⟨f, List.mem_cons_of_mem _ hf, hr2⟩
theorem seen_le {d n : Nat} {p : Plan} {hs : List Heap} {f : FSeen} {s : SSeen} (r : SeenRel d n f s) (h : seenF E d p hs f = true) : seenT E p hs s = true := by
  obtain ⟨ha, ho, hv, hok, tb⟩ := r
  unfold seenF at h
  unfold seenT
  rw [← ha]
  refine List.all_eq_true.2 fun k hk => ?_
  have := List.all_eq_true.1 h k hk
  unfold sameAt at this
  cases hh : hs[p.lo.getD f.at_ 0 + k]? with
  | none => rw [hh] at this; cases this
  | some hp =>
    rw [hh] at this
    simp only at this ⊢
    rw [ho, read_congr (sop_ev tb hok), hv] at this
    exact this
theorem reg_le (le : CallLe call callv) {d n : Nat} {pl : Option Plan} {ops : Array Oper} {tt : BT} {t : Tmps} {h : Heap} {x : Ex} {tt' : BT} {h' : Heap} (hok : (ops.toList.map (slim ops)).all (sopOk n) = true) (tb : TB d n tt t)
    (hs : regF E call d pl (ops.toList.map (slim ops)) tt h = some (x, tt', h')) : x = .normal ∧ ∃ t', regionV E callv pl ops true (t, h) = some (t', h') ∧ TB d n tt' t' := by
  unfold regF at hs
  split at hs
  · rename_i p
    cases hd : drawF E call d (ops.toList.map (slim ops)) 0 tt h [] [] with
    | none => rw [hd] at hs; cases hs
    | some q =>
      obtain ⟨t1, h1, hs1, rs1⟩ := q
      rw [hd] at hs
      have hs : Bool.rec (motive := fun _ => Option (Ex × BT × Heap)) none (some (.normal, t1, h1)) (rs1.all (seenF E d p hs1)) = some (x, tt', h') := hs
      cases hall : rs1.all (seenF E d p hs1) with
      | false => rw [hall] at hs; cases hs
      | true =>
        rw [hall] at hs
        cases hs
        obtain ⟨t', ss', h2, tb', cv⟩ := draw_le le _ 0 tt t h [] [] [] _ _ _ _ hok tb (fun _ h => absurd h (by simp)) hd
        refine ⟨rfl, t', region_slim E callv h2 (List.all_eq_true.2 fun s hsm => ?_), tb'⟩
        obtain ⟨f, hf, hr⟩ := cv s hsm
        exact seen_le hr (List.all_eq_true.1 hall f hf)
  · cases hs

/-! ## Code -/
theorem seqF_inv {b : BT → Heap → Option (Ex × BT × Heap)} {y : Option (Ex × BT × Heap)} {r : Ex × BT × Heap} (h : seqF b y = some r) :
    (∃ t1 h1, y = some (.normal, t1, h1) ∧ b t1 h1 = some r) ∨ (y = some r ∧ r.1 ≠ .normal) := by
  unfold seqF at h
  split at h
  · exact .inl ⟨_, _, rfl, h⟩
  · rename_i hne
    refine .inr ⟨h, fun e => ?_⟩
    obtain ⟨a, b, c⟩ := r
    simp only at e
    subst e
    exact hne _ _ h
theorem code_le (le : CallLe call callv) {pl : Nat → Option Plan} {fuel d n : Nat} : ∀ (c : Code) (tt : BT) (t : Tmps) (h : Heap) (x : Ex) (tt' : BT) (h' : Heap), codeChk n c = true → TB d n tt t →
    codeF E call pl fuel d n c tt h = some (x, tt', h') → ∃ t', codeV E callv pl fuel c (t, h) = some (x, t', h') ∧ TB d n tt' t' := by
  intro c
  induction c with
  | skip =>
    intro tt t h x tt' h' _ tb hs
    have hs : some (Ex.normal, tt, h) = some (x, tt', h') := hs
    cases hs; exact ⟨t, rfl, tb⟩
  | exit id =>
    intro tt t h x tt' h' _ tb hs
    have hs : some (Ex.exit id, tt, h) = some (x, tt', h') := hs
    cases hs; exact ⟨t, rfl, tb⟩
  | ret =>
    intro tt t h x tt' h' _ tb hs
    have hs : some (Ex.ret, tt, h) = some (x, tt', h') := hs
    cases hs; exact ⟨t, rfl, tb⟩
  | region id ops draw =>
    intro tt t h x tt' h' hc tb hs
    have hc : (ops.toList.map (slim ops)).all (sopOk n) = true := hc
    cases draw with
    | false =>
      have hs : endF (opsF E call d (ops.toList.map (slim ops)) tt h) = some (x, tt', h') := hs
      cases hq : opsF E call d (ops.toList.map (slim ops)) tt h with
      | none => rw [hq] at hs; cases hs
      | some q =>
        obtain ⟨t1, h1⟩ := q
        rw [hq] at hs
        cases hs
        obtain ⟨t', h2, tb'⟩ := ops_le le _ tt t h _ _ hc tb hq
        refine ⟨t', ?_, tb'⟩
        rw [codeV]
        unfold regionV
        simp only [Bool.false_eq_true, if_false]
        rw [ops_slim, h2]; rfl
    | true =>
      have hs : regF E call d (pl id) (ops.toList.map (slim ops)) tt h = some (x, tt', h') := hs
      obtain ⟨rfl, t', h2, tb'⟩ := reg_le le hc tb hs
      exact ⟨t', by rw [codeV, h2]; rfl, tb'⟩
  | seq a b iha ihb =>
    intro tt t h x tt' h' hc tb hs
    simp only [codeChk, Bool.and_eq_true] at hc
    have hs : seqF (codeF E call pl fuel d n b) (codeF E call pl fuel d n a tt h) = some (x, tt', h') := hs
    rw [codeV]
    rcases seqF_inv hs with ⟨t1, h1, ha, hb⟩ | ⟨ha, hne⟩
    · obtain ⟨ta, h2, tba⟩ := iha _ _ _ _ _ _ hc.1 tb ha
      rw [h2]
      exact ihb _ _ _ _ _ _ hc.2 tba hb
    · obtain ⟨ta, h2, tba⟩ := iha _ _ _ _ _ _ hc.1 tb ha
      rw [h2]
      refine ⟨ta, ?_, tba⟩
      cases x with
      | normal => exact absurd rfl hne
      | exit i => rfl
      | ret => rfl
  | cond c a b iha ihb =>
    intro tt t h x tt' h' hc tb hs
    simp only [codeChk, Bool.and_eq_true] at hc
    have hs : condF (codeF E call pl fuel d n a) (codeF E call pl fuel d n b) tt h (evF d tt c) = some (x, tt', h') := hs
    rw [tb.ev hc.1.1] at hs
    rw [codeV]
    unfold condF at hs
    cases hv : evV t c <;> rw [hv] at hs <;> try (cases hs; done)
    rename_i q
    cases q with
    | false => exact ihb _ _ _ _ _ _ hc.2 tb hs
    | true => exact iha _ _ _ _ _ _ hc.1.2 tb hs
  | block id b ih =>
    intro tt t h x tt' h' hc tb hs
    have hs : blockF id (codeF E call pl fuel d n b tt h) = some (x, tt', h') := hs
    rw [codeV]
    cases hq : codeF E call pl fuel d n b tt h with
    | none => rw [hq] at hs; cases hs
    | some q =>
      obtain ⟨y, t1, h1⟩ := q
      obtain ⟨tb1, h2, tbb⟩ := ih _ _ _ _ _ _ hc tb hq
      rw [hq] at hs
      rw [h2]
      cases y with
      | normal => cases hs; exact ⟨tb1, rfl, tbb⟩
      | ret => cases hs; exact ⟨tb1, rfl, tbb⟩
      | exit i =>
        have hs : (if i = id then some (Ex.normal, t1, h1) else some (.exit i, t1, h1)) = some (x, tt', h') := hs
        simp only
        split at hs
        · rename_i hi; cases hs; exact ⟨tb1, by rw [if_pos hi], tbb⟩
        · rename_i hi; cases hs; exact ⟨tb1, by rw [if_neg hi], tbb⟩
  | loop b ih =>
    intro tt t h x tt' h' hc tb hs
    have hs : iterF (codeF E call pl fuel d n b) fuel tt h = some (x, tt', h') := hs
    rw [codeV]
    have key : ∀ (m : Nat) (tt : BT) (t : Tmps) (h : Heap), TB d n tt t → iterF (codeF E call pl fuel d n b) m tt h = some (x, tt', h') → ∃ t', iterV (codeV E callv pl fuel b) m (t, h) = some (x, t', h') ∧ TB d n tt' t' := by
      intro m
      induction m with
      | zero => intro tt t h _ hs; cases hs
      | succ m ihm =>
        intro tt t h tb hs
        have hs : seqF (iterF (codeF E call pl fuel d n b) m) (codeF E call pl fuel d n b tt h) = some (x, tt', h') := hs
        unfold iterV
        rcases seqF_inv hs with ⟨t1, h1, ha, hb⟩ | ⟨ha, hne⟩
        · obtain ⟨ta, h2, tba⟩ := ih _ _ _ _ _ _ hc tb ha
          rw [h2]
          exact ihm _ _ _ tba hb
        · obtain ⟨ta, h2, tba⟩ := ih _ _ _ _ _ _ hc tb ha
          rw [h2]
          refine ⟨ta, ?_, tba⟩
          cases x with
          | normal => exact absurd rfl hne
          | exit i => rfl
          | ret => rfl
    exact key fuel tt t h tb hs
  | rangeFunc g ps a b _ _ =>
    intro tt t h x tt' h' hc tb hs
    simp only [codeChk, Bool.and_eq_true] at hc
    have hs : Bool.rec (motive := fun _ => Option (Ex × BT × Heap)) none (rangeF call d n pl ps a b tt h (evF d tt g)) (flat a && flat b) = some (x, tt', h') := hs
    rw [tb.ev hc.1.1] at hs
    cases hf : (flat a && flat b) with
    | false => rw [hf] at hs; cases hs
    | true =>
      rw [hf] at hs
      have hs : rangeF call d n pl ps a b tt h (evV t g) = some (x, tt', h') := hs
      rw [Bool.and_eq_true] at hf
      rw [codeV]
      rw [if_neg (by simp [hf.1, hf.2])]
      unfold rangeF at hs
      cases hv : evV t g <;> rw [hv] at hs <;> try (cases hs; done)
      rename_i fn first captured
      cases fn <;> try (cases hs; done)
      rename_i f
      simp only at hs ⊢
      rw [newF_eq, toL_eq tb] at hs
      unfold rangeE at hs
      split at hs
      · rename_i u h2 hcall
        rw [le.fn _ _ _ _ hcall]
        simp only [getR_eq] at hs ⊢
        split at hs
        · rename_i r hr
          rw [hr]
          simp only
          split at hs
          · cases hs
          · rename_i hb
            rw [if_neg hb]
            split at hs
            · rename_i x0 hx
              cases hs
              rw [hx]
              refine ⟨t, ?_, tb⟩
              rw [setR_heap]; rfl
            · cases hs
        · cases hs
      · cases hs
  | scope b _ => intro tt t h x tt' h' _ _ hs; cases hs
  | label l => intro tt t h x tt' h' _ _ hs; cases hs
  | goto l => intro tt t h x tt' h' _ _ hs; cases hs
  | refuse w => intro tt t h x tt' h' _ _ hs; cases hs

/-! ## Calls -/
theorem res_le {d n : Nat} {tt : BT} {t : Tmps} (tb : TB d n tt t) (h : Heap) : ∀ (rs : List ResultVar) (l : List Value), resF1 E d n tt h rs = some l → resultsV E (t, h) rs = some l := by
  intro rs
  induction rs with
  | nil => intro l hs; exact hs
  | cons r rs ih =>
    intro l hs
    cases r with
    | tmp i =>
      have hs : (if i < n then (match resF1 E d n tt h rs with | some l => some (BT.get d i tt :: l) | none => none) else none) = some l := hs
      split at hs
      · rename_i hi
        split at hs
        · rename_i l0 hl0
          cases hs
          simp only [resultsV, ih _ hl0, Option.map_some, tb.get i hi]
        · cases hs
      · cases hs
    | cell a ty =>
      have hs : (if a < n then (match loadF E ty (BT.get d a tt) h, resF1 E d n tt h rs with | some v, some l => some (v :: l) | _, _ => none) else none) = some l := hs
      split at hs
      · rename_i hi
        split at hs
        · rename_i v l0 hv hl0
          cases hs
          rw [loadF_eq, tb.get a hi] at hv
          simp only [resultsV, ih _ hl0, hv, Option.bind_eq_bind, Option.bind_some]
        · cases hs
      · cases hs
theorem fn_le (le : CallLe call callv) {fuel : Nat} {fn : Fun} {args : List Value} {h : Heap} {r : Value × Heap} (hs : fnF E call fuel fn args h = some r) :
    (match codeV E callv fn.plan fuel fn.body (args ++ List.replicate (fn.fn.ntmps - args.length) undef, h) with
      | some (.normal, s) | some (.ret, s) => (resultsV E s fn.fn.results.toList).map fun l => (oneOrTuple l, s.2)
      | _ => none) = some r := by
  unfold fnF at hs
  cases hc : fnChk fn with
  | false => rw [hc] at hs; cases hs
  | true =>
    rw [hc] at hs
    have hs : (if args.length ≤ fn.fn.ntmps then retF E (depthOf fn.fn.ntmps) fn.fn.ntmps fn.fn.results.toList (codeF E call fn.plan fuel (depthOf fn.fn.ntmps) fn.fn.ntmps fn.body (BT.ofL (depthOf fn.fn.ntmps) args) h) else none) = some r := hs
    split at hs
    · rename_i hl
      unfold retF at hs
      split at hs
      · rename_i e t1 h1 hq
        obtain ⟨t', h2, tb'⟩ := code_le le _ _ _ _ _ _ _ hc (TB.ofL (depth_fits _) hl) hq
        rw [h2]
        split at hs
        · cases hs
        · rename_i hne
          split at hs
          · rename_i l hl
            cases hs
            have := res_le tb' h1 _ _ hl
            cases e with
            | exit i => exact absurd rfl (hne i)
            | normal => simp only [this, Option.map_some]
            | ret => simp only [this, Option.map_some]
          · cases hs
      · cases hs
    · cases hs
theorem setAll_len : ∀ (l : List (Tmp × Value)) (t : List Value), (setAll l t).length = t.length := by
  intro l
  induction l with
  | nil => intro t; rfl
  | cons p l ih => intro t; obtain ⟨d, v⟩ := p; rw [setAll, ih, List.length_set]
theorem yld_le (le : CallLe call callv) {fuel l : Nat} {args : List Value} {h : Heap} {r : Value × Heap} (hs : yldF E call fuel l args h = some r) : yldV E callv fuel l args h = some r := by
  unfold yldF at hs
  unfold yldV
  simp only [getR_eq] at hs
  split at hs
  · rename_i q hq
    rw [hq]
    simp only
    split at hs
    · cases hs
    · rename_i hl
      rw [if_neg hl]
      cases hc : (codeChk q.tmps.length q.assign && codeChk q.tmps.length q.body) with
      | false => rw [hc] at hs; cases hs
      | true =>
        rw [hc] at hs
        rw [Bool.and_eq_true] at hc
        simp only at hs
        split at hs
        · rename_i t1 h1 ha
          have hlen : (setAll (q.params.toList.zip args) q.tmps).length = q.tmps.length := setAll_len _ _
          have tb0 := TB.ofL (l := setAll (q.params.toList.zip args) q.tmps) (depth_fits q.tmps.length) (by rw [hlen]; exact Nat.le_refl _)
          rw [hlen, Nat.sub_self, List.replicate_zero, List.append_nil] at tb0
          obtain ⟨ta, h2, tba⟩ := code_le le _ _ _ _ _ _ _ hc.1 tb0 ha
          rw [h2]
          simp only
          split at hs
          · rename_i r1 hr1
            rw [hr1]
            simp only
            split at hs
            · rename_i hst
              rw [if_pos hst]
              split at hs
              · rename_i x t3 h3 hb
                obtain ⟨tb3, h4, _⟩ := code_le le _ _ _ _ _ _ _ hc.2 tba hb
                rw [setR_heap] at h4
                rw [h4]
                simp only
                split at hs
                · rename_i r3 hr3
                  rw [hr3]
                  cases hs
                  simp only [setR_heap]
                · cases hs
              · cases hs
            · cases hs
          · cases hs
        · cases hs
  · cases hs
end
/-- what the fast interpreter says the slow one says. -/
theorem call_le (E : Env) : ∀ n, CallLe (callF E n) (callV E n) := by
  intro n
  induction n with
  | zero => exact ⟨fun f a h r hs => (by cases hs), fun l a h r hs => (by cases hs)⟩
  | succ n ih =>
    refine ⟨fun f a h r hs => ?_, fun l a h r hs => ?_⟩
    · have hs : (match E.ext f with | some g => g a h | none => match E.fn f with | some fn => fnF E (callF E n) n fn a h | none => none) = some r := hs
      rw [callV_fn]
      split at hs
      · rename_i g hg; rw [hg]; exact hs
      · rename_i hg
        rw [hg]
        split at hs
        · rename_i fn hf
          rw [hf]
          exact fn_le ih hs
        · cases hs
    · have hs : yldF E (callF E n) n l a h = some r := hs
      rw [callV_yld]
      exact yld_le ih hs
end Go.Vi
