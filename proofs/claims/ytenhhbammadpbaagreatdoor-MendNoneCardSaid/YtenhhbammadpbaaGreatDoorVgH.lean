/- Vh0: what the interpreter says with little fuel it says with more. Vh1: the interpreter on frames that are functions: a logic of what code comes to, without fuel. Vh2: the logic: what code comes to, without fuel. Vh3: the logic's equations, one for each operation. Vh4: the logic's equations for regions whose order is drawn. -/
import Derived.Test.YtenhhbammadpbaaGreatDoorVgE
import Derived.Test.YtenhhbammadpbaaGreatDoorVgD
namespace Go.Vi
theorem CallLe.refl (c : CallV) : CallLe c c := ⟨fun _ _ _ _ h => h, fun _ _ _ _ h => h⟩
theorem CallLe.trans {a b c : CallV} (h : CallLe a b) (k : CallLe b c) : CallLe a c := ⟨fun f x y r q => k.fn f x y r (h.fn f x y r q), fun f x y r q => k.yld f x y r (h.yld f x y r q)⟩
section
variable {E : Env} {c c' : CallV}
theorem stepV_mono (le : CallLe c c') {o : Oper} {s : St} {r : Value × Heap} (h : stepV E c o s = some r) : stepV E c' o s = some r := by
  unfold stepV at h ⊢
  simp only at h ⊢
  split at h
  · exact h
  · split at h
    · exact h
    · split at h
      · exact h
      · exact heavy_mono le h
theorem opsV_mono (le : CallLe c c') {ops : Array Oper} : ∀ (l : List Oper) (s r : St), opsV E c ops l s = some r → opsV E c' ops l s = some r := by
  intro l
  induction l with
  | nil => intro s r h; exact h
  | cons o l ih =>
    intro s r h
    rw [opsV] at h ⊢
    split at h
    · rename_i hw
      rw [if_pos hw]
      split at h
      · rename_i v h' hs
        rw [stepV_mono le hs]
        exact ih _ _ h
      · cases h
    · rename_i hw
      rw [if_neg hw]
      exact ih _ _ h
theorem drawV_mono (le : CallLe c c') {ops : Array Oper} : ∀ (l : List Oper) (j : Nat) (s : St) (hs : List Heap) (rs : List Seen) (r : St × List Heap × List Seen), drawV E c ops l j s hs rs = some r → drawV E c' ops l j s hs rs = some r := by
  intro l
  induction l with
  | nil => intro j s hs rs r h; exact h
  | cons o l ih =>
    intro j s hs rs r h
    unfold drawV at h ⊢
    simp only at h ⊢
    split at h
    · rename_i hw
      rw [if_pos hw]
      split at h
      · rename_i v h' hs
        rw [stepV_mono le hs]
        exact ih _ _ _ _ _ h
      · cases h
    · rename_i hw
      rw [if_neg hw]
      exact ih _ _ _ _ _ h
theorem regionV_mono (le : CallLe c c') {pl : Option Plan} {ops : Array Oper} {draw : Bool} {s r : St} (h : regionV E c pl ops draw s = some r) : regionV E c' pl ops draw s = some r := by
  unfold regionV at h ⊢
  split at h
  · rename_i hd
    rw [if_pos hd]
    split at h
    · cases h
    · split at h
      · rename_i hq
        rw [drawV_mono le _ _ _ _ _ _ hq]
        exact h
      · cases h
  · rename_i hd
    rw [if_neg hd]
    exact opsV_mono le _ _ _ h
theorem iterV_mono {f g : St → Option (Ex × St)} (h : ∀ s r, f s = some r → g s = some r) : ∀ (n m : Nat) (s : St) (r : Ex × St), n ≤ m → iterV f n s = some r → iterV g m s = some r := by
  intro n
  induction n with
  | zero => intro m s r _ hq; cases hq
  | succ n ih =>
    intro m s r hm hq
    obtain ⟨m, rfl⟩ : ∃ k, m = k + 1 := ⟨m - 1, by omega⟩
    unfold iterV at hq ⊢
    cases hf : f s with
    | none => rw [hf] at hq; cases hq
    | some x =>
      rw [hf] at hq
      rw [h _ _ hf]
      obtain ⟨e, s'⟩ := x
      cases e with
      | normal => exact ih _ _ _ (by omega) hq
      | exit i => exact hq
      | ret => exact hq
theorem codeV_mono (le : CallLe c c') {pl : Nat → Option Plan} {n n' : Nat} (hn : n ≤ n') : ∀ (k : Code) (s : St) (r : Ex × St), codeV E c pl n k s = some r → codeV E c' pl n' k s = some r := by
  intro k
  induction k with
  | region id ops draw =>
    intro s r h
    rw [codeV] at h ⊢
    obtain ⟨s', h1, h2⟩ := Option.map_eq_some_iff.1 h
    rw [regionV_mono le h1]
    exact congrArg some h2
  | seq a b iha ihb =>
    intro s r h
    rw [codeV] at h ⊢
    cases ha : codeV E c pl n a s with
    | none => rw [ha] at h; cases h
    | some x =>
      rw [ha] at h
      rw [iha _ _ ha]
      obtain ⟨e, s'⟩ := x
      cases e with
      | normal => exact ihb _ _ h
      | exit i => exact h
      | ret => exact h
  | cond x a b iha ihb =>
    intro s r h
    rw [codeV] at h ⊢
    split at h
    · exact iha _ _ h
    · exact ihb _ _ h
    · cases h
  | block id b ih =>
    intro s r h
    rw [codeV] at h ⊢
    cases hb : codeV E c pl n b s with
    | none => rw [hb] at h; cases h
    | some x => rw [hb] at h; rw [ih _ _ hb]; exact h
  | loop b ih =>
    intro s r h
    rw [codeV] at h ⊢
    exact iterV_mono ih n n' s r hn h
  | rangeFunc g ps a b _ _ =>
    intro s r h
    rw [codeV] at h ⊢
    split at h
    · cases h
    · rename_i hf
      rw [if_neg hf]
      split at h
      · split at h
        · rename_i hq
          rw [le.fn _ _ _ _ hq]
          exact h
        · cases h
      · cases h
  | _ => intro s r h; first | (simp [codeV] at h; done) | (simp only [codeV] at h ⊢; exact h)
theorem yldV_mono (le : CallLe c c') {n n' : Nat} (hn : n ≤ n') {l : Nat} {a : List Value} {h : Heap} {r : Value × Heap} (hq : yldV E c n l a h = some r) : yldV E c' n' l a h = some r := by
  unfold yldV at hq ⊢
  split at hq
  · split at hq
    · cases hq
    · rename_i hs
      rw [if_neg hs]
      split at hq
      · rename_i h1
        rw [codeV_mono le hn _ _ _ h1]
        simp only
        split at hq
        · split at hq
          · rename_i hr
            rw [if_pos hr]
            split at hq
            · rename_i h2
              rw [codeV_mono le hn _ _ _ h2]
              exact hq
            · cases hq
          · cases hq
        · cases hq
      · cases hq
  · cases hq
end
theorem callV_step (E : Env) : ∀ n, CallLe (callV E n) (callV E (n + 1)) := by
  intro n
  induction n with
  | zero => exact ⟨fun f a h r hs => (by cases hs), fun l a h r hs => (by cases hs)⟩
  | succ n ih =>
    refine ⟨fun f a h r hs => ?_, fun l a h r hs => ?_⟩
    · rw [callV_fn] at hs ⊢
      split at hs
      · exact hs
      · split at hs
        · exact hs
        · split at hs
          · rename_i hq; rw [codeV_mono ih (Nat.le_succ n) _ _ _ hq]; exact hs
          · rename_i hq; rw [codeV_mono ih (Nat.le_succ n) _ _ _ hq]; exact hs
          · cases hs
    · rw [callV_yld] at hs ⊢
      exact yldV_mono ih (Nat.le_succ n) hs
theorem callV_mono (E : Env) {n m : Nat} (h : n ≤ m) : CallLe (callV E n) (callV E m) := by
  induction h with
  | refl => exact .refl _
  | step _ ih => exact ih.trans (callV_step E _)
end Go.Vi
namespace Go.Vi
abbrev Fr := Nat → Value
def up (ρ : Fr) (d : Nat) (v : Value) : Fr := fun i => if i = d then v else ρ i
def evH (ρ : Fr) : Operand → Value
  | .tmp i => ρ i
  | .const v => if plainB 100 v then v else undef
  | .global _ => undef
  | .func f => .func (.func f) #[] #[]
def putH (ρ : Fr) (d : Option Tmp) (v : Value) : Fr := match d with
  | some d => up ρ d v
  | none => ρ
def wantH (g : Option (Option Tmp × Bool)) (ρ : Fr) : Bool := match g with
  | none => true
  | some (some d, w) => isB (ρ d) w
  | some (none, _) => false
inductive HC where
  | skip
  | list (l : List SOp)
  | drawn (p : Option Plan) (l : List SOp)
  | seq (a b : HC)
  | cond (c : Operand) (a b : HC)
  | block (id : Nat) (b : HC)
  | loop (b : HC)
  | exit (id : Nat)
  | ret
  | rng (g : Operand) (ps : Array Tmp) (a b : Code) (pl : Nat → Option Plan) (n : Nat)
  | bad
def hc (n : Nat) (pl : Nat → Option Plan) : Code → HC
  | .skip => .skip
  | .region id ops draw => if draw then .drawn (pl id) (ops.toList.map (slim ops)) else .list (ops.toList.map (slim ops))
  | .seq a b => .seq (hc n pl a) (hc n pl b)
  | .cond c a b => .cond c (hc n pl a) (hc n pl b)
  | .block id b => .block id (hc n pl b)
  | .loop b => .loop (hc n pl b)
  | .exit id => .exit id
  | .ret => .ret
  | .rangeFunc g ps a b => .rng g ps a b pl n
  | _ => .bad
def frTmps (n : Nat) (ρ : Fr) : Tmps := (List.range n).map ρ
structure HSeen where
  at_ : Nat
  op : SOp
  ρ : Fr
  v : Value
section
variable (E : Env) (call : CallV)
noncomputable def opsH : List SOp → Fr → Heap → Option (Fr × Heap)
  | [], ρ, h => some (ρ, h)
  | x :: r, ρ, h => if wantH x.g ρ then match stepE E call (evH ρ) h x.o with
      | some (v, h') => opsH r (putH ρ x.d v) h'
      | none => none
    else opsH r (putH ρ x.d undef) h
def isReadH (x : SOp) (ρ : Fr) (h : Heap) : Bool := (pureV E (evH ρ) x.o).isNone && (readV E (evH ρ) h x.o).isSome
noncomputable def drawH : List SOp → Nat → Fr → Heap → List Heap → List HSeen → Option (Fr × Heap × List Heap × List HSeen)
  | [], _, ρ, h, hs, rs => some (ρ, h, hs ++ [h], rs)
  | x :: r, j, ρ, h, hs, rs =>
    if wantH x.g ρ then
      match stepE E call (evH ρ) h x.o with
      | some (v, h') => drawH r (j + 1) (putH ρ x.d v) h' (if heavyOp x.o then hs ++ [h] else hs) (if !heavyOp x.o && isReadH E x ρ h then ⟨j, x, ρ, v⟩ :: rs else rs)
      | none => none
    else drawH r (j + 1) (putH ρ x.d undef) h (if heavyOp x.o then hs ++ [h] else hs) rs
def seenH (p : Plan) (hs : List Heap) (x : HSeen) : Bool :=
  let lo := p.lo.getD x.at_ 0
  let hi := p.hi.getD x.at_ 0
  (List.range (hi + 1 - lo)).all fun k => match hs[lo + k]? with
    | some h => match readV E (evH x.ρ) h x.op.o with
      | some v => veq 100000 v x.v
      | none => false
    | none => false
def iterH (f : Fr → Heap → Option (Ex × Fr × Heap)) : Nat → Fr → Heap → Option (Ex × Fr × Heap)
  | 0, _, _ => none
  | n + 1, ρ, h => match f ρ h with
    | some (.normal, ρ', h') => iterH f n ρ' h'
    | r => r
noncomputable def codeH (fuel : Nat) : HC → Fr → Heap → Option (Ex × Fr × Heap)
  | .skip, ρ, h => some (.normal, ρ, h)
  | .list l, ρ, h => match opsH E call l ρ h with
    | some (ρ', h') => some (.normal, ρ', h')
    | none => none
  | .drawn p l, ρ, h => match p with
    | some p => match drawH E call l 0 ρ h [] [] with
      | some (ρ', h', hs, rs) => if rs.all (seenH E p hs) then some (.normal, ρ', h') else none
      | none => none
    | none => none
  | .seq a b, ρ, h => match codeH fuel a ρ h with
    | some (.normal, ρ', h') => codeH fuel b ρ' h'
    | r => r
  | .cond c a b, ρ, h => match evH ρ c with
    | .bool true => codeH fuel a ρ h
    | .bool false => codeH fuel b ρ h
    | _ => none
  | .block id b, ρ, h => match codeH fuel b ρ h with
    | some (.exit i, ρ', h') => if i = id then some (.normal, ρ', h') else some (.exit i, ρ', h')
    | r => r
  | .loop b, ρ, h => iterH (codeH fuel b) fuel ρ h
  | .exit id, ρ, h => some (.exit id, ρ, h)
  | .ret, ρ, h => some (.ret, ρ, h)
  | .rng g ps a b pl n, ρ, h =>
    if !flat a || !flat b then none else
    match evH ρ g with
    | .func (.func f) first captured =>
      match call f (first.toList ++ [.func (.yield h.next) #[] #[]] ++ captured.toList) (h.new (.loop { st := .ready, pending := none, tmps := frTmps n ρ, params := ps, assign := a, body := b, plan := pl })) with
      | some (_, h1) =>
        match h1.get h.next with
        | some (.loop r) => if r.st == .busy then none else (exOf r.pending).map fun x => (x, ρ, h1.set h.next (.loop { r with st := .exhausted }))
        | _ => none
      | none => none
    | _ => none
  | .bad, _, _ => none
end
structure FB (n : Nat) (ρ : Fr) (t : Tmps) : Prop where
  len : t.length = n
  get : ∀ i, i < n → t.getD i undef = ρ i
theorem FB.put {n : Nat} {ρ : Fr} {t : Tmps} (b : FB n ρ t) (d : Option Tmp) (v : Value) : FB n (putH ρ d v) (putV t d v) := by
  cases d with
  | none => exact b
  | some d =>
    refine ⟨by show (t.set d v).length = n; rw [List.length_set]; exact b.len, fun i hi => ?_⟩
    show (t.set d v).getD i undef = if i = d then v else ρ i
    have hl : i < t.length := by rw [b.len]; exact hi
    obtain ⟨d', hd⟩ : ∃ d' : Nat, d' = d := ⟨d, rfl⟩
    subst hd
    rw [List.getD_eq_getElem?_getD, List.getElem?_set]
    by_cases e : d' = i
    · subst e; rw [if_pos rfl, if_pos hl, if_pos rfl]; rfl
    · rw [if_neg e, if_neg (fun x => e x.symm), ← b.get i hi, List.getD_eq_getElem?_getD]
theorem FB.tmps {n : Nat} {ρ : Fr} {t : Tmps} (b : FB n ρ t) : t = frTmps n ρ := by
  unfold frTmps
  refine List.ext_getElem (by rw [List.length_map, List.length_range]; exact b.len) fun i h1 h2 => ?_
  rw [List.getElem_map, List.getElem_range, ← b.get i (by rw [← b.len]; exact h1), List.getD_eq_getElem?_getD, List.getElem?_eq_getElem h1]
  rfl
theorem FB.ev {n : Nat} {ρ : Fr} {t : Tmps} (b : FB n ρ t) {x : Operand} (hx : operOk n x = true) : evH ρ x = evV t x := by
  cases x with
  | tmp i => exact (b.get i (by simpa [operOk] using hx)).symm
  | _ => rfl
section
variable {E : Env} {call : CallV}
theorem sop_evH {n : Nat} {ρ : Fr} {t : Tmps} (b : FB n ρ t) {x : SOp} (hx : sopOk n x = true) : ∀ a ∈ x.o.op.operands, evH ρ a = evV t a := by
  intro a ha
  unfold sopOk at hx
  simp only [Bool.and_eq_true] at hx
  have ha : a ∈ x.op.operands := ha
  exact b.ev (List.all_eq_true.1 hx.1.1 a (by simpa using ha))
theorem want_eqH {n : Nat} {ρ : Fr} {t : Tmps} (b : FB n ρ t) {x : SOp} (hx : sopOk n x = true) : wantH x.g ρ = wantS x.g t := by
  unfold sopOk at hx
  simp only [Bool.and_eq_true] at hx
  have hg := hx.2
  cases hxg : x.g with
  | none => rfl
  | some p =>
    obtain ⟨o, want⟩ := p
    cases o with
    | none => rfl
    | some i =>
      rw [hxg] at hg
      have hi : i < n := by simpa using hg
      rw [wantS_some, b.get i hi]
      rfl
theorem stepE_V {n : Nat} {ρ : Fr} {t : Tmps} (b : FB n ρ t) {x : SOp} (hx : sopOk n x = true) (h : Heap) : stepE E call (evH ρ) h x.o = stepV E call x.o (t, h) := by
  rw [stepE_congr (sop_evH b hx)]
  rfl
theorem ops_H {n : Nat} : ∀ (l : List SOp) (ρ : Fr) (t : Tmps) (h : Heap) (ρ' : Fr) (h' : Heap), l.all (sopOk n) = true → FB n ρ t → opsH E call l ρ h = some (ρ', h') →
    ∃ t', opsS E call l (t, h) = some (t', h') ∧ FB n ρ' t' := by
  intro l
  induction l with
  | nil =>
    intro ρ t h ρ' h' _ b hs
    have hs : some (ρ, h) = some (ρ', h') := hs
    cases hs
    exact ⟨t, rfl, b⟩
  | cons x l ih =>
    intro ρ t h ρ' h' hok b hs
    rw [List.all_cons, Bool.and_eq_true] at hok
    rw [opsH, want_eqH b hok.1, stepE_V b hok.1] at hs
    rw [opsS]
    split at hs
    · rename_i hw
      rw [if_pos hw]
      split at hs
      · rename_i hst
        rw [hst]
        exact ih _ _ _ _ _ hok.2 (b.put _ _) hs
      · cases hs
    · rename_i hw
      rw [if_neg hw]
      exact ih _ _ _ _ _ hok.2 (b.put _ _) hs
structure SeenH (n : Nat) (f : HSeen) (s : SSeen) : Prop where
  at_ : f.at_ = s.at_
  op : f.op = s.op
  v : f.v = s.v
  ok : sopOk n s.op = true
  b : FB n f.ρ s.t
def CoversH (n : Nat) (rs : List HSeen) (ss : List SSeen) : Prop := ∀ s ∈ ss, ∃ f ∈ rs, SeenH n f s
theorem draw_H {n : Nat} : ∀ (l : List SOp) (j : Nat) (ρ : Fr) (t : Tmps) (h : Heap) (hs : List Heap) (rs : List HSeen) (ss : List SSeen) (ρ' : Fr) (h' : Heap) (hs' : List Heap) (rs' : List HSeen),
    l.all (sopOk n) = true → FB n ρ t → CoversH n rs ss → drawH E call l j ρ h hs rs = some (ρ', h', hs', rs') →
    ∃ t' ss', drawT E call l j (t, h) hs ss = some ((t', h'), hs', ss') ∧ FB n ρ' t' ∧ CoversH n rs' ss' := by
  intro l
  induction l with
  | nil =>
    intro j ρ t h hs rs ss ρ' h' hs' rs' _ b cv hd
    have hd : some (ρ, h, hs ++ [h], rs) = some (ρ', h', hs', rs') := hd
    cases hd
    exact ⟨t, ss, rfl, b, cv⟩
  | cons x l ih =>
    intro j ρ t h hs rs ss ρ' h' hs' rs' hok b cv hd
    rw [List.all_cons, Bool.and_eq_true] at hok
    rw [drawH, want_eqH b hok.1, stepE_V b hok.1] at hd
    rw [drawT]
    split at hd
    · rename_i hw
      simp only [hw, if_true]
      split at hd
      · rename_i v h1 hst
        rw [hst]
        simp only
        refine ih _ _ _ _ _ _ _ _ _ _ _ hok.2 (b.put _ _) ?_ hd
        have e : isReadH E x ρ h = isRead E x t h := by
          unfold isReadH isRead
          rw [pure_congr (sop_evH b hok.1), read_congr (sop_evH b hok.1)]
        intro s hsm
        rw [e]
        split at hsm
        · rename_i hr
          rw [if_pos hr]
          rcases List.mem_cons.1 hsm with rfl | hsm
          · exact ⟨_, List.mem_cons_self, rfl, rfl, rfl, hok.1, b⟩
          · obtain ⟨f, hf, hr2⟩ := cv s hsm
            exact ⟨f, List.mem_cons_of_mem _ hf, hr2⟩
        · rename_i hr
          rw [if_neg hr]
          exact cv s hsm
      · cases hd
    · rename_i hw
      simp only [hw]
      exact ih _ _ _ _ _ _ _ _ _ _ _ hok.2 (b.put _ _) cv hd
theorem seen_H {n : Nat} {p : Plan} {hs : List Heap} {f : HSeen} {s : SSeen} (r : SeenH n f s) (h : seenH E p hs f = true) : seenT E p hs s = true := by
  obtain ⟨ha, ho, hv, hok, b⟩ := r
  unfold seenH at h
  unfold seenT
  rw [← ha]
  refine List.all_eq_true.2 fun k hk => ?_
  have := List.all_eq_true.1 h k hk
  split at this
  · rename_i hp hh
    rw [ho, read_congr (sop_evH b hok), hv] at this
    rw [hh]
    exact this
  · cases this
theorem iter_H {n : Nat} {f : Fr → Heap → Option (Ex × Fr × Heap)} {g : St → Option (Ex × St)} (hfg : ∀ ρ t h x ρ' h', FB n ρ t → f ρ h = some (x, ρ', h') → ∃ t', g (t, h) = some (x, (t', h')) ∧ FB n ρ' t') :
    ∀ (k : Nat) (ρ : Fr) (t : Tmps) (h : Heap) (x : Ex) (ρ' : Fr) (h' : Heap), FB n ρ t → iterH f k ρ h = some (x, ρ', h') → ∃ t', iterV g k (t, h) = some (x, (t', h')) ∧ FB n ρ' t' := by
  intro k
  induction k with
  | zero => intro ρ t h x ρ' h' _ hq; cases hq
  | succ k ih =>
    intro ρ t h x ρ' h' b hq
    rw [iterH] at hq
    rw [iterV]
    cases hf : f ρ h with
    | none => rw [hf] at hq; cases hq
    | some r =>
      obtain ⟨e, ρ1, h1⟩ := r
      rw [hf] at hq
      obtain ⟨t1, hg, b1⟩ := hfg _ _ _ _ _ _ b hf
      rw [hg]
      cases e with
      | normal => exact ih _ _ _ _ _ _ b1 hq
      | exit i => cases hq; exact ⟨t1, rfl, b1⟩
      | ret => cases hq; exact ⟨t1, rfl, b1⟩
theorem code_H {pl : Nat → Option Plan} {fuel n : Nat} : ∀ (c : Code) (ρ : Fr) (t : Tmps) (h : Heap) (x : Ex) (ρ' : Fr) (h' : Heap), codeChk n c = true → FB n ρ t →
    codeH E call fuel (hc n pl c) ρ h = some (x, ρ', h') → ∃ t', codeV E call pl fuel c (t, h) = some (x, (t', h')) ∧ FB n ρ' t' := by
  intro c
  induction c with
  | skip =>
    intro ρ t h x ρ' h' _ b hs
    rw [hc, codeH] at hs
    cases hs; exact ⟨t, by simp [codeV], b⟩
  | exit id =>
    intro ρ t h x ρ' h' _ b hs
    rw [hc, codeH] at hs
    cases hs; exact ⟨t, by simp [codeV], b⟩
  | ret =>
    intro ρ t h x ρ' h' _ b hs
    rw [hc, codeH] at hs
    cases hs; exact ⟨t, by simp [codeV], b⟩
  | region id ops draw =>
    intro ρ t h x ρ' h' hk b hs
    have hk : (ops.toList.map (slim ops)).all (sopOk n) = true := hk
    rw [hc] at hs
    rw [codeV]
    cases draw with
    | false =>
      simp only [Bool.false_eq_true, if_false] at hs
      rw [codeH] at hs
      split at hs
      · rename_i hq
        cases hs
        obtain ⟨t', h2, b'⟩ := ops_H _ _ t _ _ _ hk b hq
        refine ⟨t', ?_, b'⟩
        unfold regionV
        simp only [Bool.false_eq_true, if_false]
        rw [ops_slim, h2]
        rfl
      · cases hs
    | true =>
      simp only [if_true, codeH] at hs
      split at hs
      · rename_i p hp
        split at hs
        · rename_i ρ1 h1 hs1 rs1 hd
          split at hs
          · rename_i hall
            cases hs
            obtain ⟨t', ss', h2, b', cv⟩ := draw_H _ 0 _ t _ [] [] [] _ _ _ _ hk b (fun _ h => absurd h (by simp)) hd
            refine ⟨t', ?_, b'⟩
            rw [hp, region_slim E call h2 (List.all_eq_true.2 fun s hsm => ?_)]
            · rfl
            · obtain ⟨f, hf, hr⟩ := cv s hsm
              exact seen_H hr (List.all_eq_true.1 hall f hf)
          · cases hs
        · cases hs
      · cases hs
  | seq a b iha ihb =>
    intro ρ t h x ρ' h' hk bb hs
    simp only [codeChk, Bool.and_eq_true] at hk
    rw [hc, codeH] at hs
    rw [codeV]
    cases ha : codeH E call fuel (hc n pl a) ρ h with
    | none => rw [ha] at hs; cases hs
    | some r =>
      obtain ⟨e, ρ1, h1⟩ := r
      rw [ha] at hs
      obtain ⟨t1, hg, b1⟩ := iha _ _ _ _ _ _ hk.1 bb ha
      rw [hg]
      cases e with
      | normal => exact ihb _ _ _ _ _ _ hk.2 b1 hs
      | exit i => cases hs; exact ⟨t1, rfl, b1⟩
      | ret => cases hs; exact ⟨t1, rfl, b1⟩
  | cond c a b iha ihb =>
    intro ρ t h x ρ' h' hk bb hs
    simp only [codeChk, Bool.and_eq_true] at hk
    rw [hc, codeH, bb.ev hk.1.1] at hs
    rw [codeV]
    split at hs
    · rename_i hv; simp only [hv]; exact iha _ _ _ _ _ _ hk.1.2 bb hs
    · rename_i hv; simp only [hv]; exact ihb _ _ _ _ _ _ hk.2 bb hs
    · cases hs
  | block id b ih =>
    intro ρ t h x ρ' h' hk bb hs
    rw [hc, codeH] at hs
    rw [codeV]
    cases hb : codeH E call fuel (hc n pl b) ρ h with
    | none => rw [hb] at hs; cases hs
    | some r =>
      obtain ⟨e, ρ1, h1⟩ := r
      rw [hb] at hs
      obtain ⟨t1, hg, b1⟩ := ih _ _ _ _ _ _ hk bb hb
      rw [hg]
      cases e with
      | normal => cases hs; exact ⟨t1, rfl, b1⟩
      | exit i =>
        simp only at hs ⊢
        split at hs
        · rename_i hi; rw [if_pos hi]; cases hs; exact ⟨t1, rfl, b1⟩
        · rename_i hi; rw [if_neg hi]; cases hs; exact ⟨t1, rfl, b1⟩
      | ret => cases hs; exact ⟨t1, rfl, b1⟩
  | loop b ih =>
    intro ρ t h x ρ' h' hk bb hs
    rw [hc, codeH] at hs
    rw [codeV]
    exact iter_H (fun ρ t h x ρ' h' b' hq => ih ρ t h x ρ' h' hk b' hq) fuel ρ t h x ρ' h' bb hs
  | rangeFunc g ps a b _ _ =>
    intro ρ t h x ρ' h' hk bb hs
    simp only [codeChk, Bool.and_eq_true] at hk
    rw [hc, codeH, bb.ev hk.1.1, ← bb.tmps] at hs
    rw [codeV]
    split at hs
    · cases hs
    · rename_i hf
      rw [if_neg hf]
      split at hs
      · rename_i f first captured hv
        simp only [hv]
        split at hs
        · rename_i u h1 hc1
          simp only [hc1]
          split at hs
          · rename_i r hr
            simp only [hr]
            split at hs
            · cases hs
            · rename_i hb
              rw [if_neg hb]
              cases he : exOf r.pending with
              | none => rw [he] at hs; cases hs
              | some y => rw [he] at hs; cases hs; exact ⟨t, rfl, bb⟩
          · cases hs
        · cases hs
      · cases hs
  | _ =>
    intro ρ t h x ρ' h' hk bb hs
    simp [hc, codeH] at hs
end
end Go.Vi
namespace Go.Vi
section
variable {E : Env} {c c' : CallV}
theorem opsH_mono (le : CallLe c c') : ∀ (l : List SOp) (ρ : Fr) (h : Heap) (r : Fr × Heap), opsH E c l ρ h = some r → opsH E c' l ρ h = some r := by
  intro l
  induction l with
  | nil => intro ρ h r hs; exact hs
  | cons x l ih =>
    intro ρ h r hs
    rw [opsH] at hs ⊢
    split at hs
    · rename_i hw
      rw [if_pos hw]
      split at hs
      · rename_i hst; rw [stepE_mono le hst]; exact ih _ _ _ hs
      · cases hs
    · rename_i hw
      rw [if_neg hw]
      exact ih _ _ _ hs
theorem drawH_mono (le : CallLe c c') : ∀ (l : List SOp) (j : Nat) (ρ : Fr) (h : Heap) (hs : List Heap) (rs : List HSeen) (r : Fr × Heap × List Heap × List HSeen), drawH E c l j ρ h hs rs = some r → drawH E c' l j ρ h hs rs = some r := by
  intro l
  induction l with
  | nil => intro j ρ h hs rs r hd; exact hd
  | cons x l ih =>
    intro j ρ h hs rs r hd
    rw [drawH] at hd ⊢
    split at hd
    · rename_i hw
      rw [if_pos hw]
      split at hd
      · rename_i hst; rw [stepE_mono le hst]; exact ih _ _ _ _ _ _ hd
      · cases hd
    · rename_i hw
      rw [if_neg hw]
      exact ih _ _ _ _ _ _ hd
theorem iterH_mono {f g : Fr → Heap → Option (Ex × Fr × Heap)} (h : ∀ ρ w r, f ρ w = some r → g ρ w = some r) : ∀ (n m : Nat) (ρ : Fr) (w : Heap) (r : Ex × Fr × Heap), n ≤ m → iterH f n ρ w = some r → iterH g m ρ w = some r := by
  intro n
  induction n with
  | zero => intro m ρ w r _ hq; cases hq
  | succ n ih =>
    intro m ρ w r hm hq
    obtain ⟨m, rfl⟩ : ∃ k, m = k + 1 := ⟨m - 1, by omega⟩
    unfold iterH at hq ⊢
    cases hf : f ρ w with
    | none => rw [hf] at hq; cases hq
    | some x =>
      rw [hf] at hq
      rw [h _ _ _ hf]
      obtain ⟨e, ρ', w'⟩ := x
      cases e with
      | normal => exact ih _ _ _ _ (by omega) hq
      | exit i => exact hq
      | ret => exact hq
theorem codeH_mono (le : CallLe c c') {n n' : Nat} (hn : n ≤ n') : ∀ (k : HC) (ρ : Fr) (h : Heap) (r : Ex × Fr × Heap), codeH E c n k ρ h = some r → codeH E c' n' k ρ h = some r := by
  intro k
  induction k with
  | list l =>
    intro ρ h r hs
    rw [codeH] at hs ⊢
    split at hs
    · rename_i hq; rw [opsH_mono le _ _ _ _ hq]; exact hs
    · cases hs
  | drawn p l =>
    intro ρ h r hs
    cases p with
    | none => simp [codeH] at hs
    | some p =>
      simp only [codeH] at hs ⊢
      split at hs
      · rename_i hq; rw [drawH_mono le _ _ _ _ _ _ _ hq]; exact hs
      · cases hs
  | seq a b iha ihb =>
    intro ρ h r hs
    rw [codeH] at hs ⊢
    cases ha : codeH E c n a ρ h with
    | none => rw [ha] at hs; cases hs
    | some x =>
      rw [ha] at hs
      rw [iha _ _ _ ha]
      obtain ⟨e, ρ', w'⟩ := x
      cases e with
      | normal => exact ihb _ _ _ hs
      | exit i => exact hs
      | ret => exact hs
  | cond x a b iha ihb =>
    intro ρ h r hs
    rw [codeH] at hs ⊢
    split at hs
    · exact iha _ _ _ hs
    · exact ihb _ _ _ hs
    · cases hs
  | block id b ih =>
    intro ρ h r hs
    rw [codeH] at hs ⊢
    cases hb : codeH E c n b ρ h with
    | none => rw [hb] at hs; cases hs
    | some x => rw [hb] at hs; rw [ih _ _ _ hb]; exact hs
  | loop b ih =>
    intro ρ h r hs
    rw [codeH] at hs ⊢
    exact iterH_mono ih n n' ρ h r hn hs
  | rng g ps a b pl m =>
    intro ρ h r hs
    rw [codeH] at hs ⊢
    split at hs
    · cases hs
    · rename_i hf
      rw [if_neg hf]
      split at hs
      · rename_i f first captured hv
        split at hs
        · rename_i u h1 hc1
          rw [le.fn _ _ _ _ hc1]
          exact hs
        · cases hs
      · cases hs
  | _ => intro ρ h r hs; first | (simp [codeH] at hs; done) | (simp only [codeH] at hs ⊢; exact hs)
theorem callR_mono {f : FuncId} (le : CallLe c c') {args : List Value} {h : Heap} {r : Value × Heap} (hs : callR E c f args h = some r) : callR E c' f args h = some r := by
  unfold callR at hs ⊢
  split at hs
  · exact hs
  · exact le.fn _ _ _ _ hs
end
abbrev Qt := Ex → Fr → Heap → Prop
def R (E : Env) (c : HC) (ρ : Fr) (h : Heap) (Q : Qt) : Prop := ∃ n x ρ' h', codeH E (callV E n) n c ρ h = some (x, ρ', h') ∧ Q x ρ' h'
def L (E : Env) (l : List SOp) (ρ : Fr) (h : Heap) (Q : Qt) : Prop := ∃ n ρ' h', opsH E (callV E n) l ρ h = some (ρ', h') ∧ Q .normal ρ' h'
def Ret (E : Env) (f : FuncId) (args : List Value) (h : Heap) (Q : Value → Heap → Prop) : Prop := ∃ n v h', callR E (callV E n) f args h = some (v, h') ∧ Q v h'
section
variable {E : Env}
theorem le_max {n m : Nat} : CallLe (callV E n) (callV E (max n m)) ∧ CallLe (callV E m) (callV E (max n m)) := ⟨callV_mono E (Nat.le_max_left n m), callV_mono E (Nat.le_max_right n m)⟩
theorem Ret.mono {f : FuncId} {args : List Value} {h : Heap} {Q Q' : Value → Heap → Prop} (r : Ret E f args h Q) (q : ∀ v h', Q v h' → Q' v h') : Ret E f args h Q' := by
  obtain ⟨n, v, h', hs, hq⟩ := r
  exact ⟨n, v, h', hs, q _ _ hq⟩
theorem Ret.eq {f : FuncId} {args : List Value} {h h1 : Heap} {v1 : Value} (r : Ret E f args h fun v h' => v = v1 ∧ h' = h1) (Q : Value → Heap → Prop) : Ret E f args h Q = Q v1 h1 := by
  obtain ⟨n, v, h', hs, rfl, rfl⟩ := r
  refine propext ⟨fun ⟨m, v2, h2, hs2, q⟩ => ?_, fun q => ⟨n, v, h', hs, q⟩⟩
  have a := callR_mono (le_max (n := n) (m := m)).1 hs
  have b := callR_mono (le_max (n := n) (m := m)).2 hs2
  rw [a] at b
  cases b
  exact q
theorem R.mono {c : HC} {ρ : Fr} {h : Heap} {Q Q' : Qt} (r : R E c ρ h Q) (q : ∀ x ρ' h', Q x ρ' h' → Q' x ρ' h') : R E c ρ h Q' := by
  obtain ⟨n, x, ρ', h', hs, hq⟩ := r
  exact ⟨n, x, ρ', h', hs, q _ _ _ hq⟩
def seqQ (E : Env) (b : HC) (Q : Qt) : Qt := fun x ρ h => match x with
  | .normal => R E b ρ h Q
  | x => Q x ρ h
theorem seqQ_normal (b : HC) (Q : Qt) (ρ : Fr) (h : Heap) : seqQ E b Q .normal ρ h = R E b ρ h Q := rfl
theorem seqQ_exit (b : HC) (Q : Qt) (i : Nat) (ρ : Fr) (h : Heap) : seqQ E b Q (.exit i) ρ h = Q (.exit i) ρ h := rfl
theorem seqQ_ret (b : HC) (Q : Qt) (ρ : Fr) (h : Heap) : seqQ E b Q .ret ρ h = Q .ret ρ h := rfl
def blockQ (id : Nat) (Q : Qt) : Qt := fun x ρ h => match x with
  | .exit i => if i = id then Q .normal ρ h else Q (.exit i) ρ h
  | x => Q x ρ h
theorem blockQ_normal (id : Nat) (Q : Qt) (ρ : Fr) (h : Heap) : blockQ id Q .normal ρ h = Q .normal ρ h := rfl
theorem blockQ_exit (id i : Nat) (Q : Qt) (ρ : Fr) (h : Heap) : blockQ id Q (.exit i) ρ h = if i = id then Q .normal ρ h else Q (.exit i) ρ h := rfl
theorem blockQ_ret (id : Nat) (Q : Qt) (ρ : Fr) (h : Heap) : blockQ id Q .ret ρ h = Q .ret ρ h := rfl
def condQ (E : Env) (a b : HC) (ρ : Fr) (h : Heap) (Q : Qt) (v : Value) : Prop := match v with
  | .bool true => R E a ρ h Q
  | .bool false => R E b ρ h Q
  | _ => False
@[congr] theorem condQ_congr {a b : HC} {ρ : Fr} {h : Heap} {Q : Qt} {v v' : Value} (e : v = v') : condQ E a b ρ h Q v = condQ E a b ρ h Q v' := by rw [e]
theorem condQ_true (a b : HC) (ρ : Fr) (h : Heap) (Q : Qt) : condQ E a b ρ h Q (.bool true) = R E a ρ h Q := rfl
theorem condQ_false (a b : HC) (ρ : Fr) (h : Heap) (Q : Qt) : condQ E a b ρ h Q (.bool false) = R E b ρ h Q := rfl
theorem r_skip (ρ : Fr) (h : Heap) (Q : Qt) : R E .skip ρ h Q = Q .normal ρ h :=
  propext ⟨fun ⟨n, x, ρ', h', hs, q⟩ => by rw [codeH] at hs; cases hs; exact q, fun q => ⟨0, _, _, _, by rw [codeH], q⟩⟩
theorem r_exit (i : Nat) (ρ : Fr) (h : Heap) (Q : Qt) : R E (.exit i) ρ h Q = Q (.exit i) ρ h :=
  propext ⟨fun ⟨n, x, ρ', h', hs, q⟩ => by rw [codeH] at hs; cases hs; exact q, fun q => ⟨0, _, _, _, by rw [codeH], q⟩⟩
theorem r_ret (ρ : Fr) (h : Heap) (Q : Qt) : R E .ret ρ h Q = Q .ret ρ h :=
  propext ⟨fun ⟨n, x, ρ', h', hs, q⟩ => by rw [codeH] at hs; cases hs; exact q, fun q => ⟨0, _, _, _, by rw [codeH], q⟩⟩
theorem r_seq (a b : HC) (ρ : Fr) (h : Heap) (Q : Qt) : R E (.seq a b) ρ h Q = R E a ρ h (seqQ E b Q) := by
  refine propext ⟨fun ⟨n, x, ρ', h', hs, q⟩ => ?_, fun ⟨n, x, ρ', h', hs, q⟩ => ?_⟩
  · rw [codeH] at hs
    cases ha : codeH E (callV E n) n a ρ h with
    | none => rw [ha] at hs; cases hs
    | some r =>
      obtain ⟨e, ρ1, h1⟩ := r
      rw [ha] at hs
      refine ⟨n, e, ρ1, h1, ha, ?_⟩
      cases e with
      | normal => exact ⟨n, x, ρ', h', hs, q⟩
      | exit i => cases hs; exact q
      | ret => cases hs; exact q
  · cases x with
    | normal =>
      obtain ⟨m, x2, ρ2, h2, hs2, q2⟩ := q
      refine ⟨max n m, x2, ρ2, h2, ?_, q2⟩
      rw [codeH, codeH_mono le_max.1 (Nat.le_max_left n m) _ _ _ _ hs]
      exact codeH_mono le_max.2 (Nat.le_max_right n m) _ _ _ _ hs2
    | exit i => exact ⟨n, _, ρ', h', by rw [codeH, hs], q⟩
    | ret => exact ⟨n, _, ρ', h', by rw [codeH, hs], q⟩
theorem r_cond (c : Operand) (a b : HC) (ρ : Fr) (h : Heap) (Q : Qt) : R E (.cond c a b) ρ h Q = condQ E a b ρ h Q (evH ρ c) := by
  refine propext ⟨fun ⟨n, x, ρ', h', hs, q⟩ => ?_, fun hq => ?_⟩
  · rw [codeH] at hs
    unfold condQ
    split at hs
    · rename_i hv; first | (rw [hv]; exact ⟨n, x, ρ', h', hs, q⟩) | exact ⟨n, x, ρ', h', hs, q⟩
    · rename_i hv; first | (rw [hv]; exact ⟨n, x, ρ', h', hs, q⟩) | exact ⟨n, x, ρ', h', hs, q⟩
    · cases hs
  · unfold condQ at hq
    split at hq
    · rename_i hv
      obtain ⟨n, x, ρ', h', hs, q⟩ := hq
      exact ⟨n, x, ρ', h', by rw [codeH, hv]; exact hs, q⟩
    · rename_i hv
      obtain ⟨n, x, ρ', h', hs, q⟩ := hq
      exact ⟨n, x, ρ', h', by rw [codeH, hv]; exact hs, q⟩
    · exact hq.elim
theorem r_block (id : Nat) (b : HC) (ρ : Fr) (h : Heap) (Q : Qt) : R E (.block id b) ρ h Q = R E b ρ h (blockQ id Q) := by
  refine propext ⟨fun ⟨n, x, ρ', h', hs, q⟩ => ?_, fun ⟨n, x, ρ', h', hs, q⟩ => ?_⟩
  · rw [codeH] at hs
    cases hb : codeH E (callV E n) n b ρ h with
    | none => rw [hb] at hs; cases hs
    | some r =>
      obtain ⟨e, ρ1, h1⟩ := r
      rw [hb] at hs
      refine ⟨n, e, ρ1, h1, hb, ?_⟩
      cases e with
      | normal => cases hs; exact q
      | exit i =>
        simp only at hs
        unfold blockQ
        split at hs
        · rename_i hi; simp only [if_pos hi]; cases hs; exact q
        · rename_i hi; simp only [if_neg hi]; cases hs; exact q
      | ret => cases hs; exact q
  · cases x with
    | normal => exact ⟨n, _, ρ', h', by rw [codeH, hs], q⟩
    | exit i =>
      unfold blockQ at q
      simp only at q
      by_cases hi : i = id
      · rw [if_pos hi] at q; exact ⟨n, _, ρ', h', by rw [codeH, hs]; simp only [if_pos hi], q⟩
      · rw [if_neg hi] at q; exact ⟨n, _, ρ', h', by rw [codeH, hs]; simp only [if_neg hi], q⟩
    | ret => exact ⟨n, _, ρ', h', by rw [codeH, hs], q⟩
theorem r_list (l : List SOp) (ρ : Fr) (h : Heap) (Q : Qt) : R E (.list l) ρ h Q = L E l ρ h Q := by
  refine propext ⟨fun ⟨n, x, ρ', h', hs, q⟩ => ?_, fun ⟨n, ρ', h', hs, q⟩ => ⟨n, _, ρ', h', by rw [codeH, hs], q⟩⟩
  rw [codeH] at hs
  split at hs
  · rename_i hq; cases hs; exact ⟨n, _, _, hq, q⟩
  · cases hs
def loopQ (I : Nat → Fr → Heap → Prop) (k : Nat) (Q : Qt) : Qt := fun x ρ h => match x with
  | .normal => ∃ k', k' < k ∧ I k' ρ h
  | x => Q x ρ h
theorem loopQ_normal (I : Nat → Fr → Heap → Prop) (k : Nat) (Q : Qt) (ρ : Fr) (h : Heap) : loopQ I k Q .normal ρ h = ∃ k', k' < k ∧ I k' ρ h := rfl
theorem loopQ_exit (I : Nat → Fr → Heap → Prop) (k : Nat) (Q : Qt) (i : Nat) (ρ : Fr) (h : Heap) : loopQ I k Q (.exit i) ρ h = Q (.exit i) ρ h := rfl
theorem loopQ_ret (I : Nat → Fr → Heap → Prop) (k : Nat) (Q : Qt) (ρ : Fr) (h : Heap) : loopQ I k Q .ret ρ h = Q .ret ρ h := rfl
theorem r_loop {b : HC} {Q : Qt} (I : Nat → Fr → Heap → Prop) (step : ∀ k ρ h, I k ρ h → R E b ρ h (loopQ I k Q)) : ∀ {k : Nat} {ρ : Fr} {h : Heap}, I k ρ h → R E (.loop b) ρ h Q := by
  intro k
  induction k using Nat.strongRecOn with
  | ind k ih =>
    intro ρ h hi
    obtain ⟨n, x, ρ', h', hs, q⟩ := step k ρ h hi
    cases x with
    | normal =>
      obtain ⟨k', hk, hi'⟩ := q
      obtain ⟨m, x2, ρ2, h2, hs2, q2⟩ := ih k' hk hi'
      refine ⟨max n m + 1, x2, ρ2, h2, ?_, q2⟩
      have l1 : CallLe (callV E n) (callV E (max n m + 1)) := callV_mono E (by omega)
      have l2 : CallLe (callV E m) (callV E (max n m + 1)) := callV_mono E (by omega)
      rw [codeH, iterH, codeH_mono l1 (by omega : n ≤ max n m + 1) _ _ _ _ hs]
      rw [codeH] at hs2
      exact iterH_mono (fun ρ w r hr => codeH_mono l2 (by omega : m ≤ max n m + 1) _ _ _ _ hr) m _ _ _ _ (by omega) hs2
    | exit i =>
      refine ⟨n + 1, _, ρ', h', ?_, q⟩
      rw [codeH, iterH, codeH_mono (callV_step E n) (Nat.le_succ n) _ _ _ _ hs]
    | ret =>
      refine ⟨n + 1, _, ρ', h', ?_, q⟩
      rw [codeH, iterH, codeH_mono (callV_step E n) (Nat.le_succ n) _ _ _ _ hs]
def resH (E : Env) : List ResultVar → Fr → Heap → Option (List Value)
  | [], _, _ => some []
  | .tmp t :: r, ρ, h => (resH E r ρ h).map fun l => ρ t :: l
  | .cell a t :: r, ρ, h => do
    let v ← loadV E t (ρ a) h
    let l ← resH E r ρ h
    some (v :: l)
def retK (Q : Value → Heap → Prop) (h : Heap) (x : Option (List Value)) : Prop := match x with
  | some l => Q (oneOrTuple l) h
  | none => False
theorem retK_some (Q : Value → Heap → Prop) (h : Heap) (l : List Value) : retK Q h (some l) = Q (oneOrTuple l) h := rfl
def endQ (E : Env) (rs : List ResultVar) (Q : Value → Heap → Prop) : Qt := fun x ρ h => match x with
  | .exit _ => False
  | _ => retK Q h (resH E rs ρ h)
theorem endQ_normal (rs : List ResultVar) (Q : Value → Heap → Prop) (ρ : Fr) (h : Heap) : endQ E rs Q .normal ρ h = retK Q h (resH E rs ρ h) := rfl
theorem endQ_ret (rs : List ResultVar) (Q : Value → Heap → Prop) (ρ : Fr) (h : Heap) : endQ E rs Q .ret ρ h = retK Q h (resH E rs ρ h) := rfl
def resChk (n : Nat) : List ResultVar → Bool
  | [] => true
  | .tmp t :: r => Nat.blt t n && resChk n r
  | .cell a _ :: r => Nat.blt a n && resChk n r
theorem res_H {n : Nat} {ρ : Fr} {t : Tmps} (b : FB n ρ t) (h : Heap) : ∀ (rs : List ResultVar), resChk n rs = true → resultsV E (t, h) rs = resH E rs ρ h := by
  intro rs
  induction rs with
  | nil => intro _; rfl
  | cons r rs ih =>
    intro hk
    cases r with
    | tmp i =>
      simp only [resChk, Bool.and_eq_true, Nat.blt_eq] at hk
      rw [resultsV, resH, ih hk.2, b.get i hk.1]
    | cell a ty =>
      simp only [resChk, Bool.and_eq_true, Nat.blt_eq] at hk
      rw [resultsV, resH, ih hk.2, b.get a hk.1]
def frA (args : List Value) : Fr := fun i => args.getD i undef
def FunIs (E : Env) (f : FuncId) (g : HC) (rs : List ResultVar) (n : Nat) : Prop :=
  E.row f = none ∧ E.ext f = none ∧ ∃ fn, E.fn f = some fn ∧ hc n fn.plan fn.body = g ∧ fn.fn.ntmps = n ∧ fn.fn.results.toList = rs ∧ codeChk n fn.body = true ∧ resChk n rs = true
theorem ret_fun {f : FuncId} {g : HC} {rs : List ResultVar} {n : Nat} (k : FunIs E f g rs n) {args : List Value} (hl : args.length ≤ n) {h : Heap} {Q : Value → Heap → Prop} (body : R E g (frA args) h (endQ E rs Q)) : Ret E f args h Q := by
  obtain ⟨hr, hx, fn, hf, hg, hn, hres, hk, hrk⟩ := k
  obtain ⟨m, x, ρ', h', hs, q⟩ := body
  have b0 : FB n (frA args) (args ++ List.replicate (n - args.length) undef) := by
    refine ⟨by simp; omega, fun i hi => ?_⟩
    unfold frA
    rw [List.getD_eq_getElem?_getD, List.getD_eq_getElem?_getD, List.getElem?_append]
    split
    · rfl
    · rename_i hlt
      rw [List.getElem?_eq_none (l := args) (by omega), List.getElem?_replicate]
      split <;> rfl
  rw [← hg] at hs
  obtain ⟨t', hc2, b'⟩ := code_H fn.body _ _ _ _ _ _ hk b0 hs
  have key : (∀ i, x ≠ .exit i) → ∀ l, resH E rs ρ' h' = some l → callR E (callV E (m + 1)) f args h = some (oneOrTuple l, h') := by
    clear q hs
    intro hne l hl2
    unfold callR
    rw [hr]
    simp only
    rw [callV_fn, hx]
    simp only [hf]
    rw [hn, hc2]
    cases x with
    | exit i => exact absurd rfl (hne i)
    | normal => simp only [hres]; rw [res_H b' h' rs hrk, hl2]; rfl
    | ret => simp only [hres]; rw [res_H b' h' rs hrk, hl2]; rfl
  cases x with
  | exit i => exact q.elim
  | normal =>
    unfold endQ retK at q
    simp only at q
    split at q
    · rename_i l hl2; exact ⟨m + 1, _, _, key (fun _ e => by cases e) l hl2, q⟩
    · exact q.elim
  | ret =>
    unfold endQ retK at q
    simp only at q
    split at q
    · rename_i l hl2; exact ⟨m + 1, _, _, key (fun _ e => by cases e) l hl2, q⟩
    · exact q.elim
theorem ret_row {f : FuncId} {g : List Value → Heap → Option (Value × Heap)} (hr : E.row f = some g) {args : List Value} {h h' : Heap} {v : Value} {Q : Value → Heap → Prop} (hg : g args h = some (v, h')) (q : Q v h') : Ret E f args h Q := by
  refine ⟨0, v, h', ?_, q⟩
  unfold callR
  rw [hr]
  exact hg
theorem Ret.callV {f : FuncId} (hr : E.row f = none) {args : List Value} {h : Heap} {Q : Value → Heap → Prop} (r : Ret E f args h Q) : ∃ n v h', callV E n f args h = some (v, h') ∧ Q v h' := by
  obtain ⟨n, v, h', hs, q⟩ := r
  unfold callR at hs
  rw [hr] at hs
  exact ⟨n, v, h', hs, q⟩
end
end Go.Vi
namespace Go.Vi
section
variable {E : Env}
theorem l_nil (ρ : Fr) (h : Heap) (Q : Qt) : L E [] ρ h Q = Q .normal ρ h :=
  propext ⟨fun ⟨_, _, _, hs, q⟩ => by rw [opsH] at hs; cases hs; exact q, fun q => ⟨0, _, _, by rw [opsH], q⟩⟩
@[congr] theorem L_congr {l : List SOp} {ρ ρ' : Fr} {h h' : Heap} {Q : Qt} (e : ρ = ρ') (e2 : h = h') : L E l ρ h Q = L E l ρ' h' Q := by rw [e, e2]
@[congr] theorem R_congr {c : HC} {ρ ρ' : Fr} {h h' : Heap} {Q : Qt} (e : ρ = ρ') (e2 : h = h') : R E c ρ h Q = R E c ρ' h' Q := by rw [e, e2]
def resQ (E : Env) (d : Option Tmp) (r : List SOp) (ρ : Fr) (Q : Qt) (x : Option (Value × Heap)) : Prop := match x with
  | some (v, h) => L E r (putH ρ d v) h Q
  | none => False
def valQ (E : Env) (d : Option Tmp) (r : List SOp) (ρ : Fr) (h : Heap) (Q : Qt) (x : Option Value) : Prop := match x with
  | some v => L E r (putH ρ d v) h Q
  | none => False
def heapQ (E : Env) (d : Option Tmp) (r : List SOp) (ρ : Fr) (Q : Qt) (x : Option Heap) : Prop := match x with
  | some h => L E r (putH ρ d undef) h Q
  | none => False
def newQ (E : Env) (d : Option Tmp) (r : List SOp) (ρ : Fr) (h : Heap) (Q : Qt) (x : Option (Blk × Mk)) : Prop := match x with
  | some (b, m) => L E r (putH ρ d (m.val h.next)) (h.new b) Q
  | none => False
def callQ (E : Env) (d : Option Tmp) (r : List SOp) (ρ : Fr) (Q : Qt) : Value → Heap → Prop := fun v h => L E r (putH ρ d v) h Q
def wantQ (E : Env) (d : Option Tmp) (op : Op) (ty : TypeId) (r : List SOp) (ρ : Fr) (h : Heap) (Q : Qt) (b : Bool) : Prop := match b with
  | true => L E (⟨d, op, ty, none⟩ :: r) ρ h Q
  | false => L E r (putH ρ d undef) h Q
@[congr] theorem resQ_congr {d : Option Tmp} {r : List SOp} {ρ : Fr} {Q : Qt} {x y : Option (Value × Heap)} (e : x = y) : resQ E d r ρ Q x = resQ E d r ρ Q y := by rw [e]
@[congr] theorem valQ_congr {d : Option Tmp} {r : List SOp} {ρ : Fr} {h : Heap} {Q : Qt} {x y : Option Value} (e : x = y) : valQ E d r ρ h Q x = valQ E d r ρ h Q y := by rw [e]
@[congr] theorem heapQ_congr {d : Option Tmp} {r : List SOp} {ρ : Fr} {Q : Qt} {x y : Option Heap} (e : x = y) : heapQ E d r ρ Q x = heapQ E d r ρ Q y := by rw [e]
@[congr] theorem newQ_congr {d : Option Tmp} {r : List SOp} {ρ : Fr} {h : Heap} {Q : Qt} {x y : Option (Blk × Mk)} (e : x = y) : newQ E d r ρ h Q x = newQ E d r ρ h Q y := by rw [e]
@[congr] theorem wantQ_congr {d : Option Tmp} {op : Op} {ty : TypeId} {r : List SOp} {ρ : Fr} {h : Heap} {Q : Qt} {x y : Bool} (e : x = y) : wantQ E d op ty r ρ h Q x = wantQ E d op ty r ρ h Q y := by rw [e]
theorem resQ_some (d : Option Tmp) (r : List SOp) (ρ : Fr) (Q : Qt) (v : Value) (h : Heap) : resQ E d r ρ Q (some (v, h)) = L E r (putH ρ d v) h Q := rfl
theorem valQ_some (d : Option Tmp) (r : List SOp) (ρ : Fr) (h : Heap) (Q : Qt) (v : Value) : valQ E d r ρ h Q (some v) = L E r (putH ρ d v) h Q := rfl
theorem heapQ_some (d : Option Tmp) (r : List SOp) (ρ : Fr) (Q : Qt) (h : Heap) : heapQ E d r ρ Q (some h) = L E r (putH ρ d undef) h Q := rfl
theorem newQ_some (d : Option Tmp) (r : List SOp) (ρ : Fr) (h : Heap) (Q : Qt) (b : Blk) (m : Mk) : newQ E d r ρ h Q (some (b, m)) = L E r (putH ρ d (m.val h.next)) (h.new b) Q := rfl
theorem callQ_eq (d : Option Tmp) (r : List SOp) (ρ : Fr) (Q : Qt) (v : Value) (h : Heap) : callQ E d r ρ Q v h = L E r (putH ρ d v) h Q := rfl
theorem wantQ_true (d : Option Tmp) (op : Op) (ty : TypeId) (r : List SOp) (ρ : Fr) (h : Heap) (Q : Qt) : wantQ E d op ty r ρ h Q true = L E (⟨d, op, ty, none⟩ :: r) ρ h Q := rfl
theorem wantQ_false (d : Option Tmp) (op : Op) (ty : TypeId) (r : List SOp) (ρ : Fr) (h : Heap) (Q : Qt) : wantQ E d op ty r ρ h Q false = L E r (putH ρ d undef) h Q := rfl
theorem putH_some (ρ : Fr) (d : Nat) (v : Value) : putH ρ (some d) v = up ρ d v := rfl
theorem putH_none (ρ : Fr) (v : Value) : putH ρ none v = ρ := rfl
def selK (b : Bool) (v : Value) (ρ : Fr) (i : Nat) : Value := match b with
  | true => v
  | false => ρ i
@[congr] theorem selK_congr {b c : Bool} {v : Value} {ρ : Fr} {i : Nat} (e : b = c) : selK b v ρ i = selK c v ρ i := by rw [e]
theorem selK_true (v : Value) (ρ : Fr) (i : Nat) : selK true v ρ i = v := rfl
theorem selK_false (v : Value) (ρ : Fr) (i : Nat) : selK false v ρ i = ρ i := rfl
theorem up_at (ρ : Fr) (d : Nat) (v : Value) (i : Nat) : up ρ d v i = selK (i == d) v ρ i := by
  unfold up selK
  by_cases h : i = d
  · subst h; simp
  · have : (i == d) = false := by simpa using h
    rw [if_neg h, this]
theorem evH_tmp (ρ : Fr) (i : Nat) : evH ρ (.tmp i) = ρ i := rfl
theorem evH_int (ρ : Fr) (k : IntKind) (n : Int) : evH ρ (.const (.int k n)) = .int k n := rfl
theorem evH_bool (ρ : Fr) (b : Bool) : evH ρ (.const (.bool b)) = .bool b := rfl
theorem evH_str (ρ : Fr) (s : ByteArray) : evH ρ (.const (.string s)) = .string s := rfl
theorem evH_ptr0 (ρ : Fr) : evH ρ (.const (.pointer none)) = .pointer none := rfl
theorem evH_slice0 (ρ : Fr) : evH ρ (.const (.slice none 0 0)) = .slice none 0 0 := rfl
theorem evH_map0 (ρ : Fr) : evH ρ (.const (.map none)) = .map none := rfl
theorem evH_nilFunc (ρ : Fr) : evH ρ (.const .nilFunc) = .nilFunc := rfl
theorem evH_nilIface (ρ : Fr) : evH ρ (.const .nilIface) = .nilIface := rfl
theorem evH_func (ρ : Fr) (f : FuncId) : evH ρ (.func f) = .func (.func f) #[] #[] := rfl
theorem l_guard (d : Option Tmp) (op : Op) (ty : TypeId) (g : Tmp) (w : Bool) (r : List SOp) (ρ : Fr) (h : Heap) (Q : Qt) :
    L E (⟨d, op, ty, some (some g, w)⟩ :: r) ρ h Q = wantQ E d op ty r ρ h Q (isB (ρ g) w) := by
  have e : wantH (some (some g, w)) ρ = isB (ρ g) w := rfl
  have o : ∀ ty, (⟨d, op, ty, some (some g, w)⟩ : SOp).o = (⟨d, op, ty, none⟩ : SOp).o := fun _ => rfl
  unfold wantQ
  split
  · rename_i hb
    refine propext ⟨fun ⟨n, ρ', h', hs, q⟩ => ⟨n, ρ', h', ?_, q⟩, fun ⟨n, ρ', h', hs, q⟩ => ⟨n, ρ', h', ?_, q⟩⟩
    · rw [opsH] at hs ⊢
      rw [e, hb] at hs
      exact hs
    · rw [opsH] at hs ⊢
      rw [e, hb]
      exact hs
  · rename_i hb
    refine propext ⟨fun ⟨n, ρ', h', hs, q⟩ => ⟨n, ρ', h', ?_, q⟩, fun ⟨n, ρ', h', hs, q⟩ => ⟨n, ρ', h', ?_, q⟩⟩
    · rw [opsH] at hs
      rw [e, hb] at hs
      exact hs
    · rw [opsH]
      rw [e, hb]
      exact hs
theorem l_step {d : Option Tmp} {op : Op} {ty : TypeId} {r : List SOp} {ρ : Fr} {h : Heap} {Q : Qt} {X : Option (Value × Heap)} (hX : ∀ call, stepE E call (evH ρ) h (SOp.o ⟨d, op, ty, none⟩) = X) : L E (⟨d, op, ty, none⟩ :: r) ρ h Q = resQ E d r ρ Q X := by
  refine propext ⟨fun ⟨n, ρ', h', hs, q⟩ => ?_, fun hq => ?_⟩
  · rw [opsH] at hs
    simp only [wantH, if_true, hX] at hs
    unfold resQ
    split at hs
    · exact ⟨n, ρ', h', hs, q⟩
    · cases hs
  · unfold resQ at hq
    split at hq
    · rename_i v h1
      obtain ⟨n, ρ', h', hs, q⟩ := hq
      refine ⟨n, ρ', h', ?_, q⟩
      rw [opsH]
      simp only [wantH, if_true, hX]
      exact hs
    · exact hq.elim
theorem l_val {d : Option Tmp} {op : Op} {ty : TypeId} {r : List SOp} {ρ : Fr} {h : Heap} {Q : Qt} {X : Option Value} (hX : ∀ call, stepE E call (evH ρ) h (SOp.o ⟨d, op, ty, none⟩) = atH h X) : L E (⟨d, op, ty, none⟩ :: r) ρ h Q = valQ E d r ρ h Q X := by
  rw [l_step hX]
  cases X <;> rfl
theorem l_heap {d : Option Tmp} {op : Op} {ty : TypeId} {r : List SOp} {ρ : Fr} {h : Heap} {Q : Qt} {X : Option Heap} (hX : ∀ call, stepE E call (evH ρ) h (SOp.o ⟨d, op, ty, none⟩) = heapK undef X) : L E (⟨d, op, ty, none⟩ :: r) ρ h Q = heapQ E d r ρ Q X := by
  rw [l_step hX]
  cases X <;> rfl
theorem l_new {d : Option Tmp} {op : Op} {ty : TypeId} {r : List SOp} {ρ : Fr} {h : Heap} {Q : Qt} {X : Option (Blk × Mk)} (hX : ∀ call, stepE E call (evH ρ) h (SOp.o ⟨d, op, ty, none⟩) = newK h X) : L E (⟨d, op, ty, none⟩ :: r) ρ h Q = newQ E d r ρ h Q X := by
  rw [l_step hX]
  cases X <;> rfl
theorem l_call0 {d : Option Tmp} {op : Op} {ty : TypeId} {r : List SOp} {ρ : Fr} {h : Heap} {Q : Qt} {f : FuncId} {args : List Value} (hX : ∀ call, stepE E call (evH ρ) h (SOp.o ⟨d, op, ty, none⟩) = callR E call f args h) :
    L E (⟨d, op, ty, none⟩ :: r) ρ h Q = Ret E f args h (callQ E d r ρ Q) := by
  refine propext ⟨fun ⟨n, ρ', h', hs, q⟩ => ?_, fun ⟨n, v, h1, hc, m, ρ', h', hs, q⟩ => ?_⟩
  · rw [opsH] at hs
    simp only [wantH, if_true, hX] at hs
    split at hs
    · rename_i v h1 hc
      exact ⟨n, v, h1, hc, n, ρ', h', hs, q⟩
    · cases hs
  · refine ⟨max n m, ρ', h', ?_, q⟩
    rw [opsH]
    simp only [wantH, if_true, hX]
    rw [callR_mono le_max.1 hc]
    exact opsH_mono le_max.2 _ _ _ _ hs
end
section
variable (E : Env) (call : CallV) (d : Option Tmp) (ty : TypeId) (ev : Operand → Value) (h : Heap)
theorem se_pick (c a b : Operand) : stepE E call ev h (SOp.o ⟨d, .pick c a b, ty, none⟩) = atH h (pickK (ev c) (ev a) (ev b)) := by
  unfold stepE pureV SOp.o pickK atH
  simp only
  cases ev c <;> rfl
theorem se_bin (op : BinOp) (xt yt : TypeId) (x y : Operand) : stepE E call ev h (SOp.o ⟨d, .binOp op xt x y yt, ty, none⟩) = atH h (binV E op xt (isConstO x || isConstO y) (ev x) (ev y)) := by
  unfold stepE pureV readV newV heavyV SOp.o atH
  simp only
  cases binV E op xt (isConstO x || isConstO y) (ev x) (ev y) <;> rfl
theorem se_un (op : UnOp) (xt : TypeId) (x : Operand) : stepE E call ev h (SOp.o ⟨d, .unOp op xt x, ty, none⟩) = atH h (unV op (ev x)) := by
  unfold stepE pureV readV newV heavyV SOp.o atH
  simp only
  cases unV op (ev x) <;> rfl
theorem se_build (bt : TypeId) (ps : Array (Nat × Operand)) : stepE E call ev h (SOp.o ⟨d, .build bt ps, ty, none⟩) = atH h (buildV E bt (partsV ev ps)) := by
  unfold stepE pureV readV newV heavyV SOp.o atH
  simp only
  cases buildV E bt (partsV ev ps) <;> rfl
def nilK (v : Value) : Option Value := match v with
  | .pointer (some a) => some (.pointer (some a))
  | .iface t v => some (.iface t v)
  | .func (.func f) a c => some (.func (.func f) a c)
  | _ => none
theorem se_nilCheck (x : Operand) : stepE E call ev h (SOp.o ⟨d, .nilCheck x, ty, none⟩) = atH h (nilK (ev x)) := by
  have e : pureV E ev (SOp.o ⟨d, .nilCheck x, ty, none⟩) = nilK (ev x) := rfl
  unfold stepE
  rw [e]
  cases nilK (ev x) <;> rfl
def makeK (E : Env) (t : TypeId) (v : Value) : Option Value := (E.ty t).bind fun i => if isIface i.under then none else some (.iface t v)
theorem se_makeI (t : TypeId) (x : Operand) : stepE E call ev h (SOp.o ⟨d, .makeInterface t x, ty, none⟩) = atH h (makeK E t (ev x)) := by
  have e : pureV E ev (SOp.o ⟨d, .makeInterface t x, ty, none⟩) = makeK E t (ev x) := rfl
  unfold stepE
  rw [e]
  cases makeK E t (ev x) <;> rfl
theorem se_fieldAddr (s : TypeId) (x : Operand) (f : Nat) : stepE E call ev h (SOp.o ⟨d, .fieldAddr s x f, ty, none⟩) = atH h (fieldAddrV E s (ev x) f) := by
  unfold stepE pureV readV newV heavyV SOp.o atH
  simp only
  cases fieldAddrV E s (ev x) f <;> rfl
theorem se_field (s : TypeId) (x : Operand) (f : Nat) : stepE E call ev h (SOp.o ⟨d, .field s x f, ty, none⟩) = atH h (fieldV E s (ev x) f) := by
  unfold stepE pureV readV newV heavyV SOp.o atH
  simp only
  cases fieldV E s (ev x) f <;> rfl
theorem se_indexAddr (s : TypeId) (x i : Operand) : stepE E call ev h (SOp.o ⟨d, .indexAddr s x i, ty, none⟩) = atH h (indexAddrV E s (ev x) (ev i)) := by
  unfold stepE pureV readV newV heavyV SOp.o atH
  simp only
  cases indexAddrV E s (ev x) (ev i) <;> rfl
theorem se_index (s : TypeId) (x i : Operand) : stepE E call ev h (SOp.o ⟨d, .index s x i, ty, none⟩) = atH h (indexV E s (ev x) (ev i)) := by
  unfold stepE pureV readV newV heavyV SOp.o atH
  simp only
  cases indexV E s (ev x) (ev i) <;> rfl
theorem se_assert (x : Operand) (xt asserted : TypeId) (ok : Bool) : stepE E call ev h (SOp.o ⟨d, .typeAssert x xt asserted ok, ty, none⟩) = atH h (assertV E (ev x) asserted ok) := by
  unfold stepE pureV readV newV heavyV SOp.o atH
  simp only
  cases assertV E (ev x) asserted ok <;> rfl
theorem se_extract (x : Operand) (i : Nat) : stepE E call ev h (SOp.o ⟨d, .extract x i, ty, none⟩) = atH h (extrK (ev x) i) := by
  unfold stepE pureV readV newV heavyV SOp.o atH extrK
  simp only
  cases ev x <;> simp only
  rename_i vs
  cases vs[i]? <;> rfl
theorem se_load (lt : TypeId) (a : Operand) : stepE E call ev h (SOp.o ⟨d, .load lt a, ty, none⟩) = atH h (loadV E lt (ev a) h) := by
  unfold stepE pureV readV newV heavyV SOp.o atH
  simp only
  cases loadV E lt (ev a) h <;> rfl
theorem se_lookup (t : TypeId) (m k : Operand) (ok : Bool) : stepE E call ev h (SOp.o ⟨d, .lookup t m k ok, ty, none⟩) = atH h (lookupV E t (ev m) (ev k) ok h) := by
  unfold stepE pureV readV newV heavyV SOp.o atH
  simp only
  cases lookupV E t (ev m) (ev k) ok h <;> rfl
theorem se_store (st : TypeId) (a x : Operand) : stepE E call ev h (SOp.o ⟨d, .store st a x, ty, none⟩) = heapK undef (storeV E st (ev a) (ev x) h) := by
  unfold stepE pureV readV newV heavyV SOp.o heapK
  simp only
  cases storeV E st (ev a) (ev x) h <;> rfl
theorem se_mapUpdate (t : TypeId) (m k x : Operand) : stepE E call ev h (SOp.o ⟨d, .mapUpdate t m k x, ty, none⟩) = heapK undef (mapPutV E t (ev m) (ev k) (ev x) h) := by
  unfold stepE pureV readV newV heavyV SOp.o heapK
  simp only
  cases mapPutV E t (ev m) (ev k) (ev x) h <;> rfl
def allocH (E : Env) (t : TypeId) : Option (Blk × Mk) := newV E (fun _ => undef) (SOp.o ⟨none, .alloc t, 0, none⟩)
theorem se_alloc (at_ : TypeId) : stepE E call ev h (SOp.o ⟨d, .alloc at_, ty, none⟩) = newK h (allocH E at_) := by
  have e : newV E ev (SOp.o ⟨d, .alloc at_, ty, none⟩) = allocH E at_ := rfl
  unfold stepE
  rw [e]
  unfold pureV readV heavyV SOp.o newK
  simp only
  cases allocH E at_ <;> rfl
def bsliceK (E : Env) (st : TypeId) (n : Nat) (ps : List (Nat × Value)) : Option (Blk × Mk) := do
  let i ← E.ty st
  match i.under with
  | .slice elem => do
    let e ← E.ty elem
    if n * e.size > 2 ^ 24 then none else do
    let z ← zeros e n
    let cs ← fillV (fun i => some (i * e.size, e.size)) z ps
    some (.cells cs true none, .slice n n)
  | _ => none
def mksliceK (E : Env) (t : TypeId) (l c : Value) : Option (Blk × Mk) := do
  let i ← E.ty t
  match i.under with
  | .slice elem => do
    let e ← E.ty elem
    let l ← intOf l
    let c ← intOf c
    if 0 ≤ l ∧ l ≤ c ∧ c < 2 ^ 62 ∧ e.bytes * c ≤ 2 ^ 48 then do
      let z ← zeros e c.toNat
      some (.cells z true none, .slice l.toNat c.toNat)
    else none
  | _ => none
theorem se_bslice (st : TypeId) (n : Nat) (ps : Array (Nat × Operand)) : stepE E call ev h (SOp.o ⟨d, .buildSlice st n ps, ty, none⟩) = newK h (bsliceK E st n (partsV ev ps)) := by
  have e : newV E ev (SOp.o ⟨d, .buildSlice st n ps, ty, none⟩) = bsliceK E st n (partsV ev ps) := rfl
  unfold stepE
  rw [e]
  unfold pureV readV heavyV SOp.o newK
  simp only
  cases bsliceK E st n (partsV ev ps) <;> rfl
theorem se_mkslice (st : TypeId) (l c : Operand) : stepE E call ev h (SOp.o ⟨d, .makeSlice st l c, ty, none⟩) = newK h (mksliceK E st (ev l) (ev c)) := by
  have e : newV E ev (SOp.o ⟨d, .makeSlice st l c, ty, none⟩) = mksliceK E st (ev l) (ev c) := rfl
  unfold stepE
  rw [e]
  unfold pureV readV heavyV SOp.o newK
  simp only
  cases mksliceK E st (ev l) (ev c) <;> rfl
theorem se_slice (st : TypeId) (x : Operand) (lo hi mx : Option Operand) : stepE E call ev h (SOp.o ⟨d, .slice st x lo hi mx, ty, none⟩) =
    atH h (orK (sliceV E st (ev x) (lo.map ev) (hi.map ev) (mx.map ev)) (sliceS E st (ev x) (lo.map ev) (hi.map ev) (mx.map ev) h)) := by
  unfold stepE pureV readV newV heavyV SOp.o atH orK
  simp only
  cases sliceV E st (ev x) (lo.map ev) (hi.map ev) (mx.map ev) <;> simp only
  cases sliceS E st (ev x) (lo.map ev) (hi.map ev) (mx.map ev) h <;> rfl
theorem se_call (f : FuncId) (args : Array Operand) (ats : Array TypeId) (hf : ev (.func f) = .func (.func f) #[] #[]) : stepE E call ev h (SOp.o ⟨d, .call { callee := .value (.func f), args := args, argTypes := ats }, ty, none⟩) = callR E call f (args.map ev).toList h := by
  unfold stepE pureV readV newV heavyV SOp.o callR
  simp only [hf, List.nil_append, List.append_nil]
  cases E.row f <;> rfl
theorem se_callv (x : Operand) (args : Array Operand) (ats : Array TypeId) {g : FuncId} {first captured : Array Value} (hx : ev x = .func (.func g) first captured) :
    stepE E call ev h (SOp.o ⟨d, .call { callee := .value x, args := args, argTypes := ats }, ty, none⟩) = callR E call g (first.toList ++ (args.map ev).toList ++ captured.toList) h := by
  unfold stepE pureV readV newV heavyV SOp.o callR
  simp only [hx]
  cases E.row g <;> rfl
theorem se_cally (x : Operand) (args : Array Operand) (ats : Array TypeId) {l : Nat} (hx : ev x = .func (.yield l) #[] #[]) :
    stepE E call ev h (SOp.o ⟨d, .call { callee := .value x, args := args, argTypes := ats }, ty, none⟩) = call.yld l (args.map ev).toList h := by
  unfold stepE pureV readV newV heavyV SOp.o
  simp only [hx]
  rfl
def lenP (E : Env) (t : TypeId) (v : Value) : Option Value := do
  let i ← E.ty t
  match i.under, v with
  | .string, .string s => some (.int .i64 s.size)
  | .array n _, _ => some (.int .i64 n)
  | .slice _, .slice _ n _ => some (.int .i64 n)
  | .map _ _, .map none => some (.int .i64 0)
  | _, _ => none
def lenR (E : Env) (t : TypeId) (v : Value) (h : Heap) : Option Value := do
  let i ← E.ty t
  match i.under with
  | .map _ _ => do
    let es ← allOf h v
    some (.int .i64 es.length)
  | .chan _ _ => chanLen h v
  | _ => none
theorem step2 {o : Oper} {a b : Option Value} (h1 : pureV E ev o = a) (h2 : readV E ev h o = b) (h3 : newV E ev o = none) (h4 : heavyV E call ev h o = none) : stepE E call ev h o = atH h (orK a b) := by
  unfold stepE
  rw [h1, h2, h3, h4]
  cases a <;> cases b <;> rfl
theorem se_len (x : Operand) (t : TypeId) : stepE E call ev h (SOp.o ⟨d, .call { callee := .builtin .len, args := #[x], argTypes := #[t] }, ty, none⟩) = atH h (orK (lenP E t (ev x)) (lenR E t (ev x) h)) :=
  step2 E call ev h rfl rfl rfl rfl
def capR (E : Env) (t : TypeId) (v : Value) (h : Heap) : Option Value := do
  let i ← E.ty t
  match i.under, v with
  | .slice _, .slice none _ cap => some (.int .i64 cap)
  | .slice _, .slice (some a) _ cap => match h.get a.block with
    | some (.cells _ _ none) => some (.int .i64 cap)
    | _ => none
  | _, _ => none
theorem se_cap (x : Operand) (t : TypeId) : stepE E call ev h (SOp.o ⟨d, .call { callee := .builtin .cap, args := #[x], argTypes := #[t] }, ty, none⟩) = atH h (capR E t (ev x) h) :=
  (step2 (a := none) (b := capR E t (ev x) h) E call ev h rfl rfl rfl rfl).trans (by cases capR E t (ev x) h <;> rfl)
theorem step1 {o : Oper} {a : Option Value} (h1 : pureV E ev o = a) (h2 : readV E ev h o = none) (h3 : newV E ev o = none) (h4 : heavyV E call ev h o = none) : stepE E call ev h o = atH h a := by
  unfold stepE
  rw [h1, h2, h3, h4]
  cases a <;> rfl
theorem se_min (x y : Operand) (ats : Array TypeId) : stepE E call ev h (SOp.o ⟨d, .call { callee := .builtin .min, args := #[x, y], argTypes := ats }, ty, none⟩) = atH h (mnV (ev x) [ev y]) :=
  step1 E call ev h (by
    have e : pureV E ev (SOp.o ⟨d, .call { callee := .builtin .min, args := #[x, y], argTypes := ats }, ty, none⟩) = match (#[x, y].map ev).toList with | x :: r => mnV x r | [] => none := rfl
    have e2 : (#[x, y].map ev).toList = [ev x, ev y] := by simp
    rw [e, e2]) rfl rfl rfl
theorem se_max (x y : Operand) (ats : Array TypeId) : stepE E call ev h (SOp.o ⟨d, .call { callee := .builtin .max, args := #[x, y], argTypes := ats }, ty, none⟩) = atH h (mxV (ev x) [ev y]) :=
  step1 E call ev h (by
    have e : pureV E ev (SOp.o ⟨d, .call { callee := .builtin .max, args := #[x, y], argTypes := ats }, ty, none⟩) = match (#[x, y].map ev).toList with | x :: r => mxV x r | [] => none := rfl
    have e2 : (#[x, y].map ev).toList = [ev x, ev y] := by simp
    rw [e, e2]) rfl rfl rfl
theorem step4 {o : Oper} {x : Option (Value × Heap)} (h1 : pureV E ev o = none) (h2 : readV E ev h o = none) (h3 : newV E ev o = none) (h4 : heavyV E call ev h o = x) : stepE E call ev h o = x := by
  unfold stepE
  rw [h1, h2, h3, h4]
theorem se_clear (x : Operand) (t : TypeId) : stepE E call ev h (SOp.o ⟨d, .call { callee := .builtin .clear, args := #[x], argTypes := #[t] }, ty, none⟩) = heapK (.tuple #[]) (clearV E t (ev x) h) :=
  step4 E call ev h rfl rfl rfl (by
    have e : heavyV E call ev h (SOp.o ⟨d, .call { callee := .builtin .clear, args := #[x], argTypes := #[t] }, ty, none⟩) = (clearV E t (ev x) h).map fun h => (.tuple #[], h) := rfl
    rw [e]
    cases clearV E t (ev x) h <;> rfl)
theorem se_delete (m k : Operand) (t u : TypeId) : stepE E call ev h (SOp.o ⟨d, .call { callee := .builtin .delete, args := #[m, k], argTypes := #[t, u] }, ty, none⟩) = heapK (.tuple #[]) (deleteV E t (ev m) (ev k) h) :=
  step4 E call ev h rfl rfl rfl (by
    have e : heavyV E call ev h (SOp.o ⟨d, .call { callee := .builtin .delete, args := #[m, k], argTypes := #[t, u] }, ty, none⟩) = (deleteV E t (ev m) (ev k) h).map fun h => (.tuple #[], h) := rfl
    rw [e]
    cases deleteV E t (ev m) (ev k) h <;> rfl)
def mkmapK (E : Env) (t : TypeId) (r : Option Value) : Option (Blk × Mk) := match r with
  | none => some (.map [] 0, .map)
  | some (.int _ _) => do
    let i ← E.ty t
    match i.under with
    | .map _ _ => some (.map [] 0, .map)
    | _ => none
  | _ => none
theorem step3 {o : Oper} {x : Option (Blk × Mk)} (h1 : pureV E ev o = none) (h2 : readV E ev h o = none) (h3 : newV E ev o = x) (h4 : heavyV E call ev h o = none) : stepE E call ev h o = newK h x := by
  unfold stepE
  rw [h1, h2, h3, h4]
  cases x <;> rfl
theorem se_mkmap (t : TypeId) (r : Option Operand) : stepE E call ev h (SOp.o ⟨d, .makeMap t r, ty, none⟩) = newK h (mkmapK E t (r.map ev)) :=
  step3 E call ev h rfl rfl rfl rfl
theorem se_insert (t : TypeId) (m k x : Operand) : stepE E call ev h (SOp.o ⟨d, .insert t m k x, ty, none⟩) = heapK undef (mapPutV E t (ev m) (ev k) (ev x) h) :=
  step4 E call ev h rfl rfl rfl (by
    have e : heavyV E call ev h (SOp.o ⟨d, .insert t m k x, ty, none⟩) = (mapPutV E t (ev m) (ev k) (ev x) h).map fun h => (undef, h) := rfl
    rw [e]
    cases mapPutV E t (ev m) (ev k) (ev x) h <;> rfl)
theorem se_mapEntry (t : TypeId) (m k : Operand) : stepE E call ev h (SOp.o ⟨d, .mapEntry t m k, ty, none⟩) = mapEntryV E t (ev m) (ev k) h :=
  step4 E call ev h rfl rfl rfl rfl
theorem se_entryStore (t : TypeId) (m s x : Operand) : stepE E call ev h (SOp.o ⟨d, .entryStore t m s x, ty, none⟩) = heapK undef (entryStoreV (ev m) (ev s) (ev x) h) :=
  step4 E call ev h rfl rfl rfl (by
    have e : heavyV E call ev h (SOp.o ⟨d, .entryStore t m s x, ty, none⟩) = (entryStoreV (ev m) (ev s) (ev x) h).map fun h => (undef, h) := rfl
    rw [e]
    cases entryStoreV (ev m) (ev s) (ev x) h <;> rfl)
theorem se_range (t : TypeId) (x : Operand) : stepE E call ev h (SOp.o ⟨d, .range t x, ty, none⟩) = rangeV E t (ev x) h := step4 E call ev h rfl rfl rfl rfl
theorem se_next (it : Operand) (isS : Bool) : stepE E call ev h (SOp.o ⟨d, .next it isS, ty, none⟩) = nextV (ev it) isS h := step4 E call ev h rfl rfl rfl rfl
theorem se_entry (it : Operand) : stepE E call ev h (SOp.o ⟨d, .entry it, ty, none⟩) = entryV (ev it) h := step4 E call ev h rfl rfl rfl rfl
def convR (E : Env) (s t : TypeId) (v : Value) (h : Heap) : Option Value := do
  let i ← E.ty s
  let j ← E.ty t
  match i.under, j.under with
  | .slice e, .string => do
    let e ← E.ty e
    match e.under with
    | .int .u8 => match v with
      | .slice none _ _ => some (.string .empty)
      | .slice (some a) len _ => do
        let l ← rdE h a len
        let b ← unbytes l
        some (.string (strOf b))
      | _ => none
    | _ => none
  | .pointer e, .unsafePointer => seenV E e v h
  | .unsafePointer, .pointer e => seenV E e v h
  | _, _ => none
def convN (E : Env) (s t : TypeId) (v : Value) : Option (Blk × Mk) := do
  let i ← E.ty s
  let j ← E.ty t
  match i.under, j.under, v with
  | .string, .slice el, .string s => do
    let e ← E.ty el
    match e.under with
    | .int .u8 => some (.cells ((strL s).map byteV) true (some (1, el)), .slice s.size s.size)
    | _ => none
  | _, _, _ => none
theorem se_conv {s t : TypeId} (hne : s ≠ t) (x : Operand) : stepE E call ev h (SOp.o ⟨d, .convert s t x, ty, none⟩) = orK (atH h (orK (convV E s t (ev x)) (convR E s t (ev x) h))) (newK h (convN E s t (ev x))) := by
  have h1 : pureV E ev (SOp.o ⟨d, .convert s t x, ty, none⟩) = convV E s t (ev x) := if_neg hne
  have h2 : readV E ev h (SOp.o ⟨d, .convert s t x, ty, none⟩) = convR E s t (ev x) h := if_neg hne
  have h3 : newV E ev (SOp.o ⟨d, .convert s t x, ty, none⟩) = convN E s t (ev x) := if_neg hne
  have h4 : heavyV E call ev h (SOp.o ⟨d, .convert s t x, ty, none⟩) = none := if_neg hne
  unfold stepE
  rw [h1, h2, h3, h4]
  cases convV E s t (ev x) <;> cases convR E s t (ev x) h <;> cases convN E s t (ev x) <;> rfl
theorem se_same (s : TypeId) (x : Operand) : stepE E call ev h (SOp.o ⟨d, .convert s s x, ty, none⟩) = sameV E s (ev x) h := by
  have h1 : pureV E ev (SOp.o ⟨d, .convert s s x, ty, none⟩) = none := if_pos rfl
  have h2 : readV E ev h (SOp.o ⟨d, .convert s s x, ty, none⟩) = none := if_pos rfl
  have h3 : newV E ev (SOp.o ⟨d, .convert s s x, ty, none⟩) = none := if_pos rfl
  have h4 : heavyV E call ev h (SOp.o ⟨d, .convert s s x, ty, none⟩) = sameV E s (ev x) h := if_pos rfl
  exact step4 E call ev h h1 h2 h3 h4
theorem se_append (s x : Operand) (st xt : TypeId) : stepE E call ev h (SOp.o ⟨d, .call { callee := .builtin .append, args := #[s, x], argTypes := #[st, xt] }, ty, none⟩) = appendV E st (some xt) (ev s) (ev x) h := by
  unfold stepE pureV readV newV heavyV SOp.o
  rfl
theorem se_copy (s x : Operand) (st xt : TypeId) : stepE E call ev h (SOp.o ⟨d, .call { callee := .builtin .copy, args := #[s, x], argTypes := #[st, xt] }, ty, none⟩) = copyV E st (ev s) (ev x) h := by
  unfold stepE pureV readV newV heavyV SOp.o
  rfl
end
section
variable {E : Env} (d : Option Tmp) (ty : TypeId) (r : List SOp) (ρ : Fr) (h : Heap) (Q : Qt)
theorem l_move (x : Operand) : L E (⟨d, .move x, ty, none⟩ :: r) ρ h Q = L E r (putH ρ d (evH ρ x)) h Q := l_val (X := some (evH ρ x)) fun _ => rfl
theorem l_assign (x : Operand) : L E (⟨d, .assign x, ty, none⟩ :: r) ρ h Q = L E r (putH ρ d (evH ρ x)) h Q := l_val (X := some (evH ρ x)) fun _ => rfl
theorem l_pick (c a b : Operand) : L E (⟨d, .pick c a b, ty, none⟩ :: r) ρ h Q = valQ E d r ρ h Q (pickK (evH ρ c) (evH ρ a) (evH ρ b)) := l_val fun call => se_pick E call d ty _ h c a b
theorem l_bin (op : BinOp) (xt yt : TypeId) (x y : Operand) : L E (⟨d, .binOp op xt x y yt, ty, none⟩ :: r) ρ h Q = valQ E d r ρ h Q (binV E op xt (isConstO x || isConstO y) (evH ρ x) (evH ρ y)) := l_val fun call => se_bin E call d ty _ h op xt yt x y
theorem l_un (op : UnOp) (xt : TypeId) (x : Operand) : L E (⟨d, .unOp op xt x, ty, none⟩ :: r) ρ h Q = valQ E d r ρ h Q (unV op (evH ρ x)) := l_val fun call => se_un E call d ty _ h op xt x
theorem l_build (bt : TypeId) (ps : Array (Nat × Operand)) : L E (⟨d, .build bt ps, ty, none⟩ :: r) ρ h Q = valQ E d r ρ h Q (buildV E bt (partsV (evH ρ) ps)) := l_val fun call => se_build E call d ty _ h bt ps
theorem l_nilCheck (x : Operand) : L E (⟨d, .nilCheck x, ty, none⟩ :: r) ρ h Q = valQ E d r ρ h Q (nilK (evH ρ x)) := l_val fun call => se_nilCheck E call d ty _ h x
theorem l_makeI (t : TypeId) (x : Operand) : L E (⟨d, .makeInterface t x, ty, none⟩ :: r) ρ h Q = valQ E d r ρ h Q (makeK E t (evH ρ x)) := l_val fun call => se_makeI E call d ty _ h t x
theorem l_makeF (f : FuncId) (a b : Array Operand) : L E (⟨d, .makeFunc (.func f) a b, ty, none⟩ :: r) ρ h Q = L E r (putH ρ d (.func (.func f) (a.map (evH ρ)) (b.map (evH ρ)))) h Q := l_val (X := some (.func (.func f) (a.map (evH ρ)) (b.map (evH ρ)))) fun _ => rfl
theorem l_fieldAddr (s : TypeId) (x : Operand) (f : Nat) : L E (⟨d, .fieldAddr s x f, ty, none⟩ :: r) ρ h Q = valQ E d r ρ h Q (fieldAddrV E s (evH ρ x) f) := l_val fun call => se_fieldAddr E call d ty _ h s x f
theorem l_field (s : TypeId) (x : Operand) (f : Nat) : L E (⟨d, .field s x f, ty, none⟩ :: r) ρ h Q = valQ E d r ρ h Q (fieldV E s (evH ρ x) f) := l_val fun call => se_field E call d ty _ h s x f
theorem l_indexAddr (s : TypeId) (x i : Operand) : L E (⟨d, .indexAddr s x i, ty, none⟩ :: r) ρ h Q = valQ E d r ρ h Q (indexAddrV E s (evH ρ x) (evH ρ i)) := l_val fun call => se_indexAddr E call d ty _ h s x i
theorem l_index (s : TypeId) (x i : Operand) : L E (⟨d, .index s x i, ty, none⟩ :: r) ρ h Q = valQ E d r ρ h Q (indexV E s (evH ρ x) (evH ρ i)) := l_val fun call => se_index E call d ty _ h s x i
theorem l_assert (x : Operand) (xt t : TypeId) (ok : Bool) : L E (⟨d, .typeAssert x xt t ok, ty, none⟩ :: r) ρ h Q = valQ E d r ρ h Q (assertV E (evH ρ x) t ok) := l_val fun call => se_assert E call d ty _ h x xt t ok
theorem l_extract (x : Operand) (i : Nat) : L E (⟨d, .extract x i, ty, none⟩ :: r) ρ h Q = valQ E d r ρ h Q (extrK (evH ρ x) i) := l_val fun call => se_extract E call d ty _ h x i
theorem l_load (t : TypeId) (a : Operand) : L E (⟨d, .load t a, ty, none⟩ :: r) ρ h Q = valQ E d r ρ h Q (loadV E t (evH ρ a) h) := l_val fun call => se_load E call d ty _ h t a
theorem l_lookup (t : TypeId) (m k : Operand) (ok : Bool) : L E (⟨d, .lookup t m k ok, ty, none⟩ :: r) ρ h Q = valQ E d r ρ h Q (lookupV E t (evH ρ m) (evH ρ k) ok h) := l_val fun call => se_lookup E call d ty _ h t m k ok
theorem l_store (t : TypeId) (a x : Operand) : L E (⟨d, .store t a x, ty, none⟩ :: r) ρ h Q = heapQ E d r ρ Q (storeV E t (evH ρ a) (evH ρ x) h) := l_heap fun call => se_store E call d ty _ h t a x
theorem l_mapUpdate (t : TypeId) (m k x : Operand) : L E (⟨d, .mapUpdate t m k x, ty, none⟩ :: r) ρ h Q = heapQ E d r ρ Q (mapPutV E t (evH ρ m) (evH ρ k) (evH ρ x) h) := l_heap fun call => se_mapUpdate E call d ty _ h t m k x
theorem l_insert (t : TypeId) (m k x : Operand) : L E (⟨d, .insert t m k x, ty, none⟩ :: r) ρ h Q = heapQ E d r ρ Q (mapPutV E t (evH ρ m) (evH ρ k) (evH ρ x) h) := l_heap fun call => se_insert E call d ty _ h t m k x
theorem l_mapEntry (t : TypeId) (m k : Operand) : L E (⟨d, .mapEntry t m k, ty, none⟩ :: r) ρ h Q = resQ E d r ρ Q (mapEntryV E t (evH ρ m) (evH ρ k) h) := l_step fun call => se_mapEntry E call d ty _ h t m k
theorem l_entryStore (t : TypeId) (m s x : Operand) : L E (⟨d, .entryStore t m s x, ty, none⟩ :: r) ρ h Q = heapQ E d r ρ Q (entryStoreV (evH ρ m) (evH ρ s) (evH ρ x) h) := l_heap fun call => se_entryStore E call d ty _ h t m s x
theorem l_alloc (t : TypeId) : L E (⟨d, .alloc t, ty, none⟩ :: r) ρ h Q = newQ E d r ρ h Q (allocH E t) := l_new fun call => se_alloc E call d ty _ h t
theorem l_box (t : TypeId) (x : Operand) : L E (⟨d, .box t x, ty, none⟩ :: r) ρ h Q = L E r (putH ρ d (.pointer (some ⟨h.next, 0, none⟩))) (h.new (.cells (cellsOf (evH ρ x)) true none)) Q := l_step (X := some (.pointer (some ⟨h.next, 0, none⟩), h.new (.cells (cellsOf (evH ρ x)) true none))) fun _ => rfl
theorem l_bslice (t : TypeId) (n : Nat) (ps : Array (Nat × Operand)) : L E (⟨d, .buildSlice t n ps, ty, none⟩ :: r) ρ h Q = newQ E d r ρ h Q (bsliceK E t n (partsV (evH ρ) ps)) := l_new fun call => se_bslice E call d ty _ h t n ps
theorem l_mkslice (t : TypeId) (l c : Operand) : L E (⟨d, .makeSlice t l c, ty, none⟩ :: r) ρ h Q = newQ E d r ρ h Q (mksliceK E t (evH ρ l) (evH ρ c)) := l_new fun call => se_mkslice E call d ty _ h t l c
theorem l_mkmap (t : TypeId) (x : Option Operand) : L E (⟨d, .makeMap t x, ty, none⟩ :: r) ρ h Q = newQ E d r ρ h Q (mkmapK E t (x.map (evH ρ))) := l_new fun call => se_mkmap E call d ty _ h t x
theorem l_slice (t : TypeId) (x : Operand) (lo hi mx : Option Operand) : L E (⟨d, .slice t x lo hi mx, ty, none⟩ :: r) ρ h Q = valQ E d r ρ h Q (orK (sliceV E t (evH ρ x) (lo.map (evH ρ)) (hi.map (evH ρ)) (mx.map (evH ρ))) (sliceS E t (evH ρ x) (lo.map (evH ρ)) (hi.map (evH ρ)) (mx.map (evH ρ)) h)) :=
  l_val fun call => se_slice E call d ty _ h t x lo hi mx
theorem l_call (f : FuncId) (args : Array Operand) (ats : Array TypeId) : L E (⟨d, .call { callee := .value (.func f), args := args, argTypes := ats }, ty, none⟩ :: r) ρ h Q = Ret E f (args.map (evH ρ)).toList h (callQ E d r ρ Q) :=
  l_call0 fun call => se_call E call d ty _ h f args ats rfl
def YRet (E : Env) (l : Nat) (args : List Value) (h : Heap) (Q : Value → Heap → Prop) : Prop := ∃ n v h', (callV E n).yld l args h = some (v, h') ∧ Q v h'
theorem YRet.mono {l : Nat} {args : List Value} {h : Heap} {Q Q' : Value → Heap → Prop} (r : YRet E l args h Q) (q : ∀ v h', Q v h' → Q' v h') : YRet E l args h Q' := by
  obtain ⟨n, v, h', hs, hq⟩ := r
  exact ⟨n, v, h', hs, q _ _ hq⟩
theorem l_yld0 {d : Option Tmp} {op : Op} {ty : TypeId} {r : List SOp} {ρ : Fr} {h : Heap} {Q : Qt} {l : Nat} {args : List Value} (hX : ∀ call, stepE E call (evH ρ) h (SOp.o ⟨d, op, ty, none⟩) = call.yld l args h) :
    L E (⟨d, op, ty, none⟩ :: r) ρ h Q = YRet E l args h (callQ E d r ρ Q) := by
  refine propext ⟨fun ⟨n, ρ', h', hs, q⟩ => ?_, fun ⟨n, v, h1, hc, m, ρ', h', hs, q⟩ => ?_⟩
  · rw [opsH] at hs
    simp only [wantH, if_true, hX] at hs
    split at hs
    · rename_i v h1 hc
      exact ⟨n, v, h1, hc, n, ρ', h', hs, q⟩
    · cases hs
  · refine ⟨max n m, ρ', h', ?_, q⟩
    rw [opsH]
    simp only [wantH, if_true, hX]
    rw [le_max.1.yld _ _ _ _ hc]
    exact opsH_mono le_max.2 _ _ _ _ hs
def funQ (E : Env) (d : Option Tmp) (ty : TypeId) (t : Tmp) (args : Array Operand) (ats : Array TypeId) (r : List SOp) (ρ : Fr) (h : Heap) (Q : Qt) (v : Value) : Prop := match v with
  | .func (.func g) first captured => Ret E g (first.toList ++ (args.map (evH ρ)).toList ++ captured.toList) h (callQ E d r ρ Q)
  | .func (.yield l) ⟨[]⟩ ⟨[]⟩ => YRet E l (args.map (evH ρ)).toList h (callQ E d r ρ Q)
  | _ => L E (⟨d, .call { callee := .value (.tmp t), args := args, argTypes := ats }, ty, none⟩ :: r) ρ h Q
@[congr] theorem funQ_congr {d : Option Tmp} {ty : TypeId} {t : Tmp} {args : Array Operand} {ats : Array TypeId} {r : List SOp} {ρ : Fr} {h : Heap} {Q : Qt} {x y : Value} (e : x = y) : funQ E d ty t args ats r ρ h Q x = funQ E d ty t args ats r ρ h Q y := by rw [e]
theorem funQ_func (t : Tmp) (args : List Operand) (ats : Array TypeId) (g : FuncId) (a c : List Value) : funQ E d ty t ⟨args⟩ ats r ρ h Q (.func (.func g) ⟨a⟩ ⟨c⟩) = Ret E g (a ++ args.map (evH ρ) ++ c) h (callQ E d r ρ Q) := by
  show Ret E g (a ++ ((⟨args⟩ : Array Operand).map (evH ρ)).toList ++ c) h _ = _
  rw [show ((⟨args⟩ : Array Operand).map (evH ρ)).toList = args.map (evH ρ) from by simp]
theorem funQ_yield (t : Tmp) (args : List Operand) (ats : Array TypeId) (l : Nat) : funQ E d ty t ⟨args⟩ ats r ρ h Q (.func (.yield l) ⟨[]⟩ ⟨[]⟩) = YRet E l (args.map (evH ρ)) h (callQ E d r ρ Q) := by
  show YRet E l (((⟨args⟩ : Array Operand).map (evH ρ)).toList) h _ = _
  rw [show ((⟨args⟩ : Array Operand).map (evH ρ)).toList = args.map (evH ρ) from by simp]
theorem l_callv (t : Tmp) (args : Array Operand) (ats : Array TypeId) {g : FuncId} {a c : Array Value} (hx : ρ t = .func (.func g) a c) : L E (⟨d, .call { callee := .value (.tmp t), args := args, argTypes := ats }, ty, none⟩ :: r) ρ h Q = Ret E g (a.toList ++ (args.map (evH ρ)).toList ++ c.toList) h (callQ E d r ρ Q) :=
  l_call0 fun call => se_callv E call d ty _ h (.tmp t) args ats hx
theorem l_callt (t : Tmp) (args : Array Operand) (ats : Array TypeId) : L E (⟨d, .call { callee := .value (.tmp t), args := args, argTypes := ats }, ty, none⟩ :: r) ρ h Q = funQ E d ty t args ats r ρ h Q (ρ t) := by
  unfold funQ
  split
  · rename_i hv; exact l_callv d ty r ρ h Q t args ats hv
  · rename_i hv; exact l_yld0 fun call => se_cally E call d ty _ h (.tmp t) args ats hv
  · rfl
theorem l_len (x : Operand) (t : TypeId) : L E (⟨d, .call { callee := .builtin .len, args := #[x], argTypes := #[t] }, ty, none⟩ :: r) ρ h Q = valQ E d r ρ h Q (orK (lenP E t (evH ρ x)) (lenR E t (evH ρ x) h)) := l_val fun call => se_len E call d ty _ h x t
theorem l_cap (x : Operand) (t : TypeId) : L E (⟨d, .call { callee := .builtin .cap, args := #[x], argTypes := #[t] }, ty, none⟩ :: r) ρ h Q = valQ E d r ρ h Q (capR E t (evH ρ x) h) := l_val fun call => se_cap E call d ty _ h x t
theorem l_min (x y : Operand) (ats : Array TypeId) : L E (⟨d, .call { callee := .builtin .min, args := #[x, y], argTypes := ats }, ty, none⟩ :: r) ρ h Q = valQ E d r ρ h Q (mnV (evH ρ x) [evH ρ y]) := l_val fun call => se_min E call d ty _ h x y ats
theorem l_max (x y : Operand) (ats : Array TypeId) : L E (⟨d, .call { callee := .builtin .max, args := #[x, y], argTypes := ats }, ty, none⟩ :: r) ρ h Q = valQ E d r ρ h Q (mxV (evH ρ x) [evH ρ y]) := l_val fun call => se_max E call d ty _ h x y ats
theorem l_append (s x : Operand) (st xt : TypeId) : L E (⟨d, .call { callee := .builtin .append, args := #[s, x], argTypes := #[st, xt] }, ty, none⟩ :: r) ρ h Q = resQ E d r ρ Q (appendV E st (some xt) (evH ρ s) (evH ρ x) h) := l_step fun call => se_append E call d ty _ h s x st xt
theorem l_copy (s x : Operand) (st xt : TypeId) : L E (⟨d, .call { callee := .builtin .copy, args := #[s, x], argTypes := #[st, xt] }, ty, none⟩ :: r) ρ h Q = resQ E d r ρ Q (copyV E st (evH ρ s) (evH ρ x) h) := l_step fun call => se_copy E call d ty _ h s x st xt
theorem l_clear (x : Operand) (t : TypeId) : L E (⟨d, .call { callee := .builtin .clear, args := #[x], argTypes := #[t] }, ty, none⟩ :: r) ρ h Q = resQ E d r ρ Q (heapK (.tuple #[]) (clearV E t (evH ρ x) h)) := l_step fun call => se_clear E call d ty _ h x t
theorem l_delete (m k : Operand) (t u : TypeId) : L E (⟨d, .call { callee := .builtin .delete, args := #[m, k], argTypes := #[t, u] }, ty, none⟩ :: r) ρ h Q = resQ E d r ρ Q (heapK (.tuple #[]) (deleteV E t (evH ρ m) (evH ρ k) h)) := l_step fun call => se_delete E call d ty _ h m k t u
theorem l_range (t : TypeId) (x : Operand) : L E (⟨d, .range t x, ty, none⟩ :: r) ρ h Q = resQ E d r ρ Q (rangeV E t (evH ρ x) h) := l_step fun call => se_range E call d ty _ h t x
theorem l_next (it : Operand) (isS : Bool) : L E (⟨d, .next it isS, ty, none⟩ :: r) ρ h Q = resQ E d r ρ Q (nextV (evH ρ it) isS h) := l_step fun call => se_next E call d ty _ h it isS
theorem l_entry (it : Operand) : L E (⟨d, .entry it, ty, none⟩ :: r) ρ h Q = resQ E d r ρ Q (entryV (evH ρ it) h) := l_step fun call => se_entry E call d ty _ h it
theorem l_conv {s t : TypeId} (hne : s ≠ t) (x : Operand) : L E (⟨d, .convert s t x, ty, none⟩ :: r) ρ h Q = resQ E d r ρ Q (orK (atH h (orK (convV E s t (evH ρ x)) (convR E s t (evH ρ x) h))) (newK h (convN E s t (evH ρ x)))) := l_step fun call => se_conv E call d ty _ h hne x
theorem l_same (s : TypeId) (x : Operand) : L E (⟨d, .convert s s x, ty, none⟩ :: r) ρ h Q = resQ E d r ρ Q (sameV E s (evH ρ x) h) := l_step fun call => se_same E call d ty _ h s x
end
end Go.Vi
namespace Go.Vi
def DR (E : Env) (p : Plan) (l : List SOp) (j : Nat) (ρ : Fr) (h : Heap) (hs : List Heap) (rs : List HSeen) (Q : Qt) : Prop :=
  ∃ n ρ' h' hs' rs', drawH E (callV E n) l j ρ h hs rs = some (ρ', h', hs', rs') ∧ rs'.all (seenH E p hs') = true ∧ Q .normal ρ' h'
section
variable {E : Env}
@[congr] theorem DR_congr {p : Plan} {l : List SOp} {j j' : Nat} {ρ ρ' : Fr} {h h' : Heap} {hs : List Heap} {rs : List HSeen} {Q : Qt} (e0 : j = j') (e : ρ = ρ') (e2 : h = h') : DR E p l j ρ h hs rs Q = DR E p l j' ρ' h' hs rs Q := by rw [e0, e, e2]
theorem r_drawn (p : Plan) (l : List SOp) (ρ : Fr) (h : Heap) (Q : Qt) : R E (.drawn (some p) l) ρ h Q = DR E p l 0 ρ h [] [] Q := by
  refine propext ⟨fun ⟨n, x, ρ', h', hs, q⟩ => ?_, fun ⟨n, ρ', h', hs', rs', hd, ha, q⟩ => ⟨n, _, ρ', h', ?_, q⟩⟩
  · simp only [codeH] at hs
    split at hs
    · rename_i hd
      split at hs
      · rename_i ha; cases hs; exact ⟨n, _, _, _, _, hd, ha, q⟩
      · cases hs
    · cases hs
  · simp only [codeH, hd, ha, if_true]
def SeenAll (E : Env) (p : Plan) (hs : List Heap) : List HSeen → Prop
  | [] => True
  | x :: r => seenH E p hs x = true ∧ SeenAll E p hs r
theorem seenAll_iff {p : Plan} {hs : List Heap} : ∀ (rs : List HSeen), (rs.all (seenH E p hs) = true) = SeenAll E p hs rs := by
  intro rs
  induction rs with
  | nil => simp [SeenAll]
  | cons x r ih => rw [List.all_cons, Bool.and_eq_true, SeenAll, ih]
theorem sa_nil (p : Plan) (hs : List Heap) : SeenAll E p hs [] = True := rfl
theorem sa_cons (p : Plan) (hs : List Heap) (x : HSeen) (r : List HSeen) : SeenAll E p hs (x :: r) = (seenH E p hs x = true ∧ SeenAll E p hs r) := rfl
theorem d_nil (p : Plan) (j : Nat) (ρ : Fr) (h : Heap) (hs : List Heap) (rs : List HSeen) (Q : Qt) : DR E p [] j ρ h hs rs Q = (SeenAll E p (hs ++ [h]) rs ∧ Q .normal ρ h) := by
  refine propext ⟨fun ⟨n, ρ', h', hs', rs', hd, ha, q⟩ => ?_, fun ⟨ha, q⟩ => ⟨0, ρ, h, hs ++ [h], rs, by rw [drawH], by rw [seenAll_iff]; exact ha, q⟩⟩
  rw [drawH] at hd
  cases hd
  rw [seenAll_iff] at ha
  exact ⟨ha, q⟩
def dwantQ0 (E : Env) (p : Plan) (d : Option Tmp) (op : Op) (ty : TypeId) (r : List SOp) (j : Nat) (ρ : Fr) (h : Heap) (hs : List Heap) (rs : List HSeen) (Q : Qt) (b : Bool) : Prop := match b with
  | true => DR E p (⟨d, op, ty, none⟩ :: r) j ρ h hs rs Q
  | false => DR E p r (j + 1) (putH ρ d undef) h (if heavyOp (SOp.o ⟨d, op, ty, none⟩) then hs ++ [h] else hs) rs Q
def dwantQ (E : Env) (p : Plan) (d : Option Tmp) (op : Op) (ty : TypeId) (r : List SOp) (j : Nat) (ρ : Fr) (h : Heap) (hs : List Heap) (rs : List HSeen) (Q : Qt) (b v : Bool) : Prop := match b with
  | true => DR E p (⟨d, op, ty, none⟩ :: r) j ρ h hs rs Q
  | false => match v with
    | true => DR E p r (j + 1) (putH ρ d undef) h (hs ++ [h]) rs Q
    | false => DR E p r (j + 1) (putH ρ d undef) h hs rs Q
@[congr] theorem dwantQ_congr {p : Plan} {d : Option Tmp} {op : Op} {ty : TypeId} {r : List SOp} {j : Nat} {ρ : Fr} {h : Heap} {hs : List Heap} {rs : List HSeen} {Q : Qt} {x y v v' : Bool} (e : x = y) (e' : v = v') : dwantQ E p d op ty r j ρ h hs rs Q x v = dwantQ E p d op ty r j ρ h hs rs Q y v' := by rw [e, e']
theorem dwantQ_true (p : Plan) (d : Option Tmp) (op : Op) (ty : TypeId) (r : List SOp) (j : Nat) (ρ : Fr) (h : Heap) (hs : List Heap) (rs : List HSeen) (Q : Qt) (v : Bool) : dwantQ E p d op ty r j ρ h hs rs Q true v = DR E p (⟨d, op, ty, none⟩ :: r) j ρ h hs rs Q := rfl
theorem dwantQ_false (p : Plan) (d : Option Tmp) (op : Op) (ty : TypeId) (r : List SOp) (j : Nat) (ρ : Fr) (h : Heap) (hs : List Heap) (rs : List HSeen) (Q : Qt) :
    dwantQ E p d op ty r j ρ h hs rs Q false false = DR E p r (j + 1) (putH ρ d undef) h hs rs Q := rfl
theorem dwantQ_heavy (p : Plan) (d : Option Tmp) (op : Op) (ty : TypeId) (r : List SOp) (j : Nat) (ρ : Fr) (h : Heap) (hs : List Heap) (rs : List HSeen) (Q : Qt) :
    dwantQ E p d op ty r j ρ h hs rs Q false true = DR E p r (j + 1) (putH ρ d undef) h (hs ++ [h]) rs Q := rfl
theorem d_guard0 (p : Plan) (d : Option Tmp) (op : Op) (ty : TypeId) (g : Tmp) (w : Bool) (r : List SOp) (j : Nat) (ρ : Fr) (h : Heap) (hs : List Heap) (rs : List HSeen) (Q : Qt) :
    DR E p (⟨d, op, ty, some (some g, w)⟩ :: r) j ρ h hs rs Q = dwantQ0 E p d op ty r j ρ h hs rs Q (isB (ρ g) w) := by
  have e : wantH (some (some g, w)) ρ = isB (ρ g) w := rfl
  unfold dwantQ0
  have key : ∀ (n : Nat) (l : List SOp) (j : Nat) (ρ : Fr) (h : Heap) (hs : List Heap) (rs rs2 : List HSeen), (∀ p hs, rs.all (seenH E p hs) = rs2.all (seenH E p hs)) → ∀ ρ' h' hs' rs', drawH E (callV E n) l j ρ h hs rs = some (ρ', h', hs', rs') →
      ∃ rs2', drawH E (callV E n) l j ρ h hs rs2 = some (ρ', h', hs', rs2') ∧ ∀ p hs, rs'.all (seenH E p hs) = rs2'.all (seenH E p hs) := by
    intro n l
    induction l with
    | nil =>
      intro j ρ h hs rs rs2 hr ρ' h' hs' rs' hd
      rw [drawH] at hd
      cases hd
      exact ⟨rs2, by rw [drawH], hr⟩
    | cons x l ih =>
      intro j ρ h hs rs rs2 hr ρ' h' hs' rs' hd
      rw [drawH] at hd ⊢
      split at hd
      · rename_i hw
        rw [if_pos hw]
        split at hd
        · rename_i v h1 hst
          refine ih _ _ _ _ _ _ (fun p hs => ?_) _ _ _ _ hd
          split
          · rw [List.all_cons, List.all_cons, hr]
          · exact hr p hs
        · cases hd
      · rename_i hw
        rw [if_neg hw]
        exact ih _ _ _ _ _ _ hr _ _ _ _ hd
  split
  · rename_i hb
    refine propext ⟨fun ⟨n, ρ', h', hs', rs', hd, ha, q⟩ => ?_, fun ⟨n, ρ', h', hs', rs', hd, ha, q⟩ => ?_⟩
    · rw [drawH] at hd
      rw [e, hb] at hd
      simp only [if_true] at hd
      split at hd
      · rename_i v h1 hst
        obtain ⟨rs2, hd2, ha2⟩ := key n _ _ _ _ _ _ (if !heavyOp (SOp.o ⟨d, op, ty, none⟩) && isReadH E ⟨d, op, ty, none⟩ ρ h then ⟨j, ⟨d, op, ty, none⟩, ρ, v⟩ :: rs else rs) (fun p hs => by
          have c : (!heavyOp (SOp.o ⟨d, op, ty, some (some g, w)⟩) && isReadH E ⟨d, op, ty, some (some g, w)⟩ ρ h) = (!heavyOp (SOp.o ⟨d, op, ty, none⟩) && isReadH E ⟨d, op, ty, none⟩ ρ h) := rfl
          rw [c]
          split <;> rfl) _ _ _ _ hd
        refine ⟨n, ρ', h', hs', rs2, ?_, by rw [← ha2]; exact ha, q⟩
        rw [drawH]
        simp only [wantH, if_true]
        have hst' : stepE E (callV E n) (evH ρ) h (SOp.o ⟨d, op, ty, none⟩) = some (v, h1) := hst
        rw [hst']
        exact hd2
      · cases hd
    · rw [drawH] at hd
      simp only [wantH, if_true] at hd
      split at hd
      · rename_i v h1 hst
        obtain ⟨rs2, hd2, ha2⟩ := key n _ _ _ _ _ _ (if !heavyOp (SOp.o ⟨d, op, ty, some (some g, w)⟩) && isReadH E ⟨d, op, ty, some (some g, w)⟩ ρ h then ⟨j, ⟨d, op, ty, some (some g, w)⟩, ρ, v⟩ :: rs else rs) (fun p hs => by
          have c : (!heavyOp (SOp.o ⟨d, op, ty, some (some g, w)⟩) && isReadH E ⟨d, op, ty, some (some g, w)⟩ ρ h) = (!heavyOp (SOp.o ⟨d, op, ty, none⟩) && isReadH E ⟨d, op, ty, none⟩ ρ h) := rfl
          rw [c]
          split <;> rfl) _ _ _ _ hd
        refine ⟨n, ρ', h', hs', rs2, ?_, by rw [← ha2]; exact ha, q⟩
        rw [drawH]
        rw [e, hb]
        simp only [if_true]
        have hst' : stepE E (callV E n) (evH ρ) h (SOp.o ⟨d, op, ty, some (some g, w)⟩) = some (v, h1) := hst
        rw [hst']
        exact hd2
      · cases hd
  · rename_i hb
    refine propext ⟨fun ⟨n, ρ', h', hs', rs', hd, ha, q⟩ => ⟨n, ρ', h', hs', rs', ?_, ha, q⟩, fun ⟨n, ρ', h', hs', rs', hd, ha, q⟩ => ⟨n, ρ', h', hs', rs', ?_, ha, q⟩⟩
    · rw [drawH] at hd
      rw [e, hb] at hd
      exact hd
    · rw [drawH]
      rw [e, hb]
      exact hd
theorem d_guard (p : Plan) (d : Option Tmp) (op : Op) (ty : TypeId) (g : Tmp) (w : Bool) (r : List SOp) (j : Nat) (ρ : Fr) (h : Heap) (hs : List Heap) (rs : List HSeen) (Q : Qt) :
    DR E p (⟨d, op, ty, some (some g, w)⟩ :: r) j ρ h hs rs Q = dwantQ E p d op ty r j ρ h hs rs Q (isB (ρ g) w) (heavyOp (SOp.o ⟨d, op, ty, none⟩)) := by
  rw [d_guard0]
  unfold dwantQ0 dwantQ
  cases isB (ρ g) w
  · cases heavyOp (SOp.o ⟨d, op, ty, none⟩) <;> rfl
  · rfl
end
section
variable {E : Env} {p : Plan} {d : Option Tmp} {op : Op} {ty : TypeId} {r : List SOp} {j : Nat} {ρ : Fr} {h : Heap} {hs : List Heap} {rs : List HSeen} {Q : Qt}
def dvalQ (E : Env) (p : Plan) (d : Option Tmp) (r : List SOp) (j : Nat) (ρ : Fr) (h : Heap) (hs : List Heap) (rs : List HSeen) (Q : Qt) (x : Option Value) : Prop := match x with
  | some v => DR E p r (j + 1) (putH ρ d v) h hs rs Q
  | none => False
def dreadQ (E : Env) (p : Plan) (d : Option Tmp) (op : Op) (ty : TypeId) (r : List SOp) (j : Nat) (ρ : Fr) (h : Heap) (hs : List Heap) (rs : List HSeen) (Q : Qt) (x : Option Value) : Prop := match x with
  | some v => DR E p r (j + 1) (putH ρ d v) h hs (⟨j, ⟨d, op, ty, none⟩, ρ, v⟩ :: rs) Q
  | none => False
def dresQ (E : Env) (p : Plan) (d : Option Tmp) (r : List SOp) (j : Nat) (ρ : Fr) (hs : List Heap) (rs : List HSeen) (Q : Qt) (x : Option (Value × Heap)) : Prop := match x with
  | some (v, h) => DR E p r (j + 1) (putH ρ d v) h hs rs Q
  | none => False
def dcallQ (E : Env) (p : Plan) (d : Option Tmp) (r : List SOp) (j : Nat) (ρ : Fr) (hs : List Heap) (rs : List HSeen) (Q : Qt) : Value → Heap → Prop := fun v h => DR E p r (j + 1) (putH ρ d v) h hs rs Q
@[congr] theorem dvalQ_congr {x y : Option Value} (e : x = y) : dvalQ E p d r j ρ h hs rs Q x = dvalQ E p d r j ρ h hs rs Q y := by rw [e]
@[congr] theorem dreadQ_congr {x y : Option Value} (e : x = y) : dreadQ E p d op ty r j ρ h hs rs Q x = dreadQ E p d op ty r j ρ h hs rs Q y := by rw [e]
@[congr] theorem dresQ_congr {x y : Option (Value × Heap)} (e : x = y) : dresQ E p d r j ρ hs rs Q x = dresQ E p d r j ρ hs rs Q y := by rw [e]
theorem dvalQ_some (v : Value) : dvalQ E p d r j ρ h hs rs Q (some v) = DR E p r (j + 1) (putH ρ d v) h hs rs Q := rfl
theorem dreadQ_some (v : Value) : dreadQ E p d op ty r j ρ h hs rs Q (some v) = DR E p r (j + 1) (putH ρ d v) h hs (⟨j, ⟨d, op, ty, none⟩, ρ, v⟩ :: rs) Q := rfl
theorem dresQ_some (v : Value) (h : Heap) : dresQ E p d r j ρ hs rs Q (some (v, h)) = DR E p r (j + 1) (putH ρ d v) h hs rs Q := rfl
theorem dcallQ_eq (v : Value) (h : Heap) : dcallQ E p d r j ρ hs rs Q v h = DR E p r (j + 1) (putH ρ d v) h hs rs Q := rfl
theorem d_step {X : Option (Value × Heap)} (hX : ∀ call, stepE E call (evH ρ) h (SOp.o ⟨d, op, ty, none⟩) = X) (hr : (!heavyOp (SOp.o ⟨d, op, ty, none⟩) && isReadH E ⟨d, op, ty, none⟩ ρ h) = false) :
    DR E p (⟨d, op, ty, none⟩ :: r) j ρ h hs rs Q = dresQ E p d r j ρ (if heavyOp (SOp.o ⟨d, op, ty, none⟩) then hs ++ [h] else hs) rs Q X := by
  refine propext ⟨fun ⟨n, ρ', h', hs', rs', hd, ha, q⟩ => ?_, fun hq => ?_⟩
  · rw [drawH] at hd
    simp only [wantH, if_true, hX, hr] at hd
    unfold dresQ
    split at hd
    · exact ⟨n, ρ', h', hs', rs', hd, ha, q⟩
    · cases hd
  · unfold dresQ at hq
    split at hq
    · obtain ⟨n, ρ', h', hs', rs', hd, ha, q⟩ := hq
      refine ⟨n, ρ', h', hs', rs', ?_, ha, q⟩
      rw [drawH]
      simp only [wantH, if_true, hX, hr]
      exact hd
    · exact hq.elim
theorem d_pure {X : Option Value} (hl : heavyOp (SOp.o ⟨d, op, ty, none⟩) = false) (hp : pureV E (evH ρ) (SOp.o ⟨d, op, ty, none⟩) = X) (hX : ∀ call, stepE E call (evH ρ) h (SOp.o ⟨d, op, ty, none⟩) = atH h X) :
    DR E p (⟨d, op, ty, none⟩ :: r) j ρ h hs rs Q = dvalQ E p d r j ρ h hs rs Q X := by
  cases X with
  | none =>
    refine propext ⟨fun ⟨n, ρ', h', hs', rs', hd, ha, q⟩ => ?_, fun hq => hq.elim⟩
    rw [drawH] at hd
    simp only [wantH, if_true, hX, atH] at hd
    cases hd
  | some v =>
    rw [d_step (X := some (v, h)) hX (by unfold isReadH; simp [hp]), hl]
    rfl
theorem d_read {X : Option Value} (hl : heavyOp (SOp.o ⟨d, op, ty, none⟩) = false) (hp : pureV E (evH ρ) (SOp.o ⟨d, op, ty, none⟩) = none) (hr : readV E (evH ρ) h (SOp.o ⟨d, op, ty, none⟩) = X) (hX : ∀ call, stepE E call (evH ρ) h (SOp.o ⟨d, op, ty, none⟩) = atH h X) :
    DR E p (⟨d, op, ty, none⟩ :: r) j ρ h hs rs Q = dreadQ E p d op ty r j ρ h hs rs Q X := by
  refine propext ⟨fun ⟨n, ρ', h', hs', rs', hd, ha, q⟩ => ?_, fun hq => ?_⟩
  · rw [drawH] at hd
    cases X with
    | none => simp only [wantH, if_true, hX, atH] at hd; cases hd
    | some v =>
      have e : isReadH E ⟨d, op, ty, none⟩ ρ h = true := by unfold isReadH; simp [hp, hr]
      simp only [wantH, if_true, hX, atH, hl, e, Bool.not_false, Bool.and_self, Bool.false_eq_true, if_false] at hd
      exact ⟨n, ρ', h', hs', rs', hd, ha, q⟩
  · cases X with
    | none => exact hq.elim
    | some v =>
      obtain ⟨n, ρ', h', hs', rs', hd, ha, q⟩ := hq
      refine ⟨n, ρ', h', hs', rs', ?_, ha, q⟩
      have e : isReadH E ⟨d, op, ty, none⟩ ρ h = true := by unfold isReadH; simp [hp, hr]
      rw [drawH]
      simp only [wantH, if_true, hX, atH, hl, e, Bool.not_false, Bool.and_self, Bool.false_eq_true, if_false]
      exact hd
theorem d_heavy {X : Option (Value × Heap)} (hl : heavyOp (SOp.o ⟨d, op, ty, none⟩) = true) (hX : ∀ call, stepE E call (evH ρ) h (SOp.o ⟨d, op, ty, none⟩) = X) :
    DR E p (⟨d, op, ty, none⟩ :: r) j ρ h hs rs Q = dresQ E p d r j ρ (hs ++ [h]) rs Q X := by
  rw [d_step hX (by rw [hl]; rfl), hl]
  rfl
theorem d_new {X : Option (Blk × Mk)} (hl : heavyOp (SOp.o ⟨d, op, ty, none⟩) = false) (hr : readV E (evH ρ) h (SOp.o ⟨d, op, ty, none⟩) = none) (hX : ∀ call, stepE E call (evH ρ) h (SOp.o ⟨d, op, ty, none⟩) = newK h X) :
    DR E p (⟨d, op, ty, none⟩ :: r) j ρ h hs rs Q = dresQ E p d r j ρ hs rs Q (newK h X) := by
  rw [d_step hX (by unfold isReadH; simp [hr]), hl]
  rfl
theorem d_call (f : FuncId) (args : Array Operand) (ats : Array TypeId) :
    DR E p (⟨d, .call { callee := .value (.func f), args := args, argTypes := ats }, ty, none⟩ :: r) j ρ h hs rs Q = Ret E f (args.map (evH ρ)).toList h (dcallQ E p d r j ρ (hs ++ [h]) rs Q) := by
  have hX := fun call => se_call E call d ty (evH ρ) h f args ats rfl
  have hl : heavyOp (SOp.o ⟨d, .call { callee := .value (.func f), args := args, argTypes := ats }, ty, none⟩) = true := rfl
  refine propext ⟨fun ⟨n, ρ', h', hs', rs', hd, ha, q⟩ => ?_, fun ⟨n, v, h1, hc, m, ρ', h', hs', rs', hd, ha, q⟩ => ?_⟩
  · rw [drawH] at hd
    simp only [wantH, if_true, hX, hl, Bool.not_true, Bool.false_and, Bool.false_eq_true, if_false] at hd
    split at hd
    · rename_i v h1 hc
      exact ⟨n, v, h1, hc, n, ρ', h', hs', rs', hd, ha, q⟩
    · cases hd
  · refine ⟨max n m, ρ', h', hs', rs', ?_, ha, q⟩
    rw [drawH]
    simp only [wantH, if_true, hX, hl, Bool.not_true, Bool.false_and, Bool.false_eq_true, if_false]
    rw [callR_mono le_max.1 hc]
    exact drawH_mono le_max.2 _ _ _ _ _ _ _ hd
end
section
variable {E : Env} (p : Plan) (d : Option Tmp) (ty : TypeId) (r : List SOp) (j : Nat) (ρ : Fr) (h : Heap) (hs : List Heap) (rs : List HSeen) (Q : Qt)
theorem d_move (x : Operand) : DR E p (⟨d, .move x, ty, none⟩ :: r) j ρ h hs rs Q = DR E p r (j + 1) (putH ρ d (evH ρ x)) h hs rs Q := d_pure (X := some (evH ρ x)) rfl rfl fun _ => rfl
theorem d_assign (x : Operand) : DR E p (⟨d, .assign x, ty, none⟩ :: r) j ρ h hs rs Q = DR E p r (j + 1) (putH ρ d (evH ρ x)) h hs rs Q := d_pure (X := some (evH ρ x)) rfl rfl fun _ => rfl
theorem d_pick (c a b : Operand) : DR E p (⟨d, .pick c a b, ty, none⟩ :: r) j ρ h hs rs Q = dvalQ E p d r j ρ h hs rs Q (pickK (evH ρ c) (evH ρ a) (evH ρ b)) := d_pure rfl (by unfold pureV SOp.o pickK; simp only; cases evH ρ c <;> rfl) fun call => se_pick E call d ty _ h c a b
theorem d_bin (op : BinOp) (xt yt : TypeId) (x y : Operand) : DR E p (⟨d, .binOp op xt x y yt, ty, none⟩ :: r) j ρ h hs rs Q = dvalQ E p d r j ρ h hs rs Q (binV E op xt (isConstO x || isConstO y) (evH ρ x) (evH ρ y)) := d_pure rfl rfl fun call => se_bin E call d ty _ h op xt yt x y
theorem d_un (op : UnOp) (xt : TypeId) (x : Operand) : DR E p (⟨d, .unOp op xt x, ty, none⟩ :: r) j ρ h hs rs Q = dvalQ E p d r j ρ h hs rs Q (unV op (evH ρ x)) := d_pure rfl rfl fun call => se_un E call d ty _ h op xt x
theorem d_build (bt : TypeId) (ps : Array (Nat × Operand)) : DR E p (⟨d, .build bt ps, ty, none⟩ :: r) j ρ h hs rs Q = dvalQ E p d r j ρ h hs rs Q (buildV E bt (partsV (evH ρ) ps)) := d_pure rfl rfl fun call => se_build E call d ty _ h bt ps
theorem d_nilCheck (x : Operand) : DR E p (⟨d, .nilCheck x, ty, none⟩ :: r) j ρ h hs rs Q = dvalQ E p d r j ρ h hs rs Q (nilK (evH ρ x)) := d_pure rfl rfl fun call => se_nilCheck E call d ty _ h x
theorem d_fieldAddr (s : TypeId) (x : Operand) (f : Nat) : DR E p (⟨d, .fieldAddr s x f, ty, none⟩ :: r) j ρ h hs rs Q = dvalQ E p d r j ρ h hs rs Q (fieldAddrV E s (evH ρ x) f) := d_pure rfl rfl fun call => se_fieldAddr E call d ty _ h s x f
theorem d_field (s : TypeId) (x : Operand) (f : Nat) : DR E p (⟨d, .field s x f, ty, none⟩ :: r) j ρ h hs rs Q = dvalQ E p d r j ρ h hs rs Q (fieldV E s (evH ρ x) f) := d_pure rfl rfl fun call => se_field E call d ty _ h s x f
theorem d_indexAddr (s : TypeId) (x i : Operand) : DR E p (⟨d, .indexAddr s x i, ty, none⟩ :: r) j ρ h hs rs Q = dvalQ E p d r j ρ h hs rs Q (indexAddrV E s (evH ρ x) (evH ρ i)) := d_pure rfl rfl fun call => se_indexAddr E call d ty _ h s x i
theorem d_index (s : TypeId) (x i : Operand) : DR E p (⟨d, .index s x i, ty, none⟩ :: r) j ρ h hs rs Q = dvalQ E p d r j ρ h hs rs Q (indexV E s (evH ρ x) (evH ρ i)) := d_pure rfl rfl fun call => se_index E call d ty _ h s x i
theorem d_extract (x : Operand) (i : Nat) : DR E p (⟨d, .extract x i, ty, none⟩ :: r) j ρ h hs rs Q = dvalQ E p d r j ρ h hs rs Q (extrK (evH ρ x) i) := d_pure rfl (by unfold pureV SOp.o extrK; simp only; cases evH ρ x <;> rfl) fun call => se_extract E call d ty _ h x i
theorem d_makeI (t : TypeId) (x : Operand) : DR E p (⟨d, .makeInterface t x, ty, none⟩ :: r) j ρ h hs rs Q = dvalQ E p d r j ρ h hs rs Q (makeK E t (evH ρ x)) := d_pure rfl rfl fun call => se_makeI E call d ty _ h t x
theorem d_load (t : TypeId) (a : Operand) : DR E p (⟨d, .load t a, ty, none⟩ :: r) j ρ h hs rs Q = dreadQ E p d (.load t a) ty r j ρ h hs rs Q (loadV E t (evH ρ a) h) := d_read rfl rfl rfl fun call => se_load E call d ty _ h t a
theorem d_lookup (t : TypeId) (m k : Operand) (ok : Bool) : DR E p (⟨d, .lookup t m k ok, ty, none⟩ :: r) j ρ h hs rs Q = dreadQ E p d (.lookup t m k ok) ty r j ρ h hs rs Q (lookupV E t (evH ρ m) (evH ρ k) ok h) := d_read rfl rfl rfl fun call => se_lookup E call d ty _ h t m k ok
theorem d_store (t : TypeId) (a x : Operand) : DR E p (⟨d, .store t a x, ty, none⟩ :: r) j ρ h hs rs Q = dresQ E p d r j ρ (hs ++ [h]) rs Q (heapK undef (storeV E t (evH ρ a) (evH ρ x) h)) := d_heavy rfl fun call => se_store E call d ty _ h t a x
theorem d_mapUpdate (t : TypeId) (m k x : Operand) : DR E p (⟨d, .mapUpdate t m k x, ty, none⟩ :: r) j ρ h hs rs Q = dresQ E p d r j ρ (hs ++ [h]) rs Q (heapK undef (mapPutV E t (evH ρ m) (evH ρ k) (evH ρ x) h)) := d_heavy rfl fun call => se_mapUpdate E call d ty _ h t m k x
theorem d_alloc (t : TypeId) : DR E p (⟨d, .alloc t, ty, none⟩ :: r) j ρ h hs rs Q = dresQ E p d r j ρ hs rs Q (newK h (allocH E t)) := d_new rfl rfl fun call => se_alloc E call d ty _ h t
theorem d_box (t : TypeId) (x : Operand) : DR E p (⟨d, .box t x, ty, none⟩ :: r) j ρ h hs rs Q = DR E p r (j + 1) (putH ρ d (.pointer (some ⟨h.next, 0, none⟩))) (h.new (.cells (cellsOf (evH ρ x)) true none)) hs rs Q :=
  d_new (X := some (.cells (cellsOf (evH ρ x)) true none, .ptr)) rfl rfl fun _ => rfl
theorem d_bslice (t : TypeId) (n : Nat) (ps : Array (Nat × Operand)) : DR E p (⟨d, .buildSlice t n ps, ty, none⟩ :: r) j ρ h hs rs Q = dresQ E p d r j ρ hs rs Q (newK h (bsliceK E t n (partsV (evH ρ) ps))) := d_new rfl rfl fun call => se_bslice E call d ty _ h t n ps
theorem d_mkslice (t : TypeId) (l c : Operand) : DR E p (⟨d, .makeSlice t l c, ty, none⟩ :: r) j ρ h hs rs Q = dresQ E p d r j ρ hs rs Q (newK h (mksliceK E t (evH ρ l) (evH ρ c))) := d_new rfl rfl fun call => se_mkslice E call d ty _ h t l c
theorem d_append (s x : Operand) (st xt : TypeId) : DR E p (⟨d, .call { callee := .builtin .append, args := #[s, x], argTypes := #[st, xt] }, ty, none⟩ :: r) j ρ h hs rs Q = dresQ E p d r j ρ (hs ++ [h]) rs Q (appendV E st (some xt) (evH ρ s) (evH ρ x) h) := d_heavy rfl fun call => se_append E call d ty _ h s x st xt
theorem d_copy (s x : Operand) (st xt : TypeId) : DR E p (⟨d, .call { callee := .builtin .copy, args := #[s, x], argTypes := #[st, xt] }, ty, none⟩ :: r) j ρ h hs rs Q = dresQ E p d r j ρ (hs ++ [h]) rs Q (copyV E st (evH ρ s) (evH ρ x) h) := d_heavy rfl fun call => se_copy E call d ty _ h s x st xt
theorem d_lenP (x : Operand) (t : TypeId) {v : Value} (hv : lenP E t (evH ρ x) = some v) : DR E p (⟨d, .call { callee := .builtin .len, args := #[x], argTypes := #[t] }, ty, none⟩ :: r) j ρ h hs rs Q = DR E p r (j + 1) (putH ρ d v) h hs rs Q :=
  d_pure (X := some v) rfl hv fun call => (se_len E call d ty _ h x t).trans (by rw [hv]; rfl)
def dlenQ (E : Env) (p : Plan) (d : Option Tmp) (op : Op) (ty : TypeId) (r : List SOp) (j : Nat) (ρ : Fr) (h : Heap) (hs : List Heap) (rs : List HSeen) (Q : Qt) (x : Option Value) : Prop := match x with
  | some v => DR E p r (j + 1) (putH ρ d v) h hs rs Q
  | none => DR E p (⟨d, op, ty, none⟩ :: r) j ρ h hs rs Q
@[congr] theorem dlenQ_congr {op : Op} {x y : Option Value} (e : x = y) : dlenQ E p d op ty r j ρ h hs rs Q x = dlenQ E p d op ty r j ρ h hs rs Q y := by rw [e]
theorem dlenQ_some (op : Op) (v : Value) : dlenQ E p d op ty r j ρ h hs rs Q (some v) = DR E p r (j + 1) (putH ρ d v) h hs rs Q := rfl
theorem d_len (x : Operand) (t : TypeId) : DR E p (⟨d, .call { callee := .builtin .len, args := #[x], argTypes := #[t] }, ty, none⟩ :: r) j ρ h hs rs Q = dlenQ E p d (.call { callee := .builtin .len, args := #[x], argTypes := #[t] }) ty r j ρ h hs rs Q (lenP E t (evH ρ x)) := by
  unfold dlenQ
  split
  · rename_i hv; exact d_lenP p d ty r j ρ h hs rs Q x t hv
  · rfl
theorem d_sliceP (t : TypeId) (x : Operand) (lo hi mx : Option Operand) {v : Value} (hv : sliceV E t (evH ρ x) (lo.map (evH ρ)) (hi.map (evH ρ)) (mx.map (evH ρ)) = some v) :
    DR E p (⟨d, .slice t x lo hi mx, ty, none⟩ :: r) j ρ h hs rs Q = DR E p r (j + 1) (putH ρ d v) h hs rs Q :=
  d_pure (X := some v) rfl hv fun call => (se_slice E call d ty _ h t x lo hi mx).trans (by rw [hv]; rfl)
theorem d_sliceR (t : TypeId) (x : Operand) (lo hi mx : Option Operand) (hv : sliceV E t (evH ρ x) (lo.map (evH ρ)) (hi.map (evH ρ)) (mx.map (evH ρ)) = none) :
    DR E p (⟨d, .slice t x lo hi mx, ty, none⟩ :: r) j ρ h hs rs Q = dreadQ E p d (.slice t x lo hi mx) ty r j ρ h hs rs Q (sliceS E t (evH ρ x) (lo.map (evH ρ)) (hi.map (evH ρ)) (mx.map (evH ρ)) h) :=
  d_read rfl hv rfl fun call => (se_slice E call d ty _ h t x lo hi mx).trans (by rw [hv]; rfl)
def dsliceQ (E : Env) (p : Plan) (d : Option Tmp) (op : Op) (ty : TypeId) (r : List SOp) (j : Nat) (ρ : Fr) (h : Heap) (hs : List Heap) (rs : List HSeen) (Q : Qt) (x y : Option Value) : Prop := match x with
  | some v => DR E p r (j + 1) (putH ρ d v) h hs rs Q
  | none => dreadQ E p d op ty r j ρ h hs rs Q y
@[congr] theorem dsliceQ_congr {op : Op} {x x' y y' : Option Value} (e : x = x') (e' : y = y') : dsliceQ E p d op ty r j ρ h hs rs Q x y = dsliceQ E p d op ty r j ρ h hs rs Q x' y' := by rw [e, e']
theorem dsliceQ_some (op : Op) (v : Value) (y : Option Value) : dsliceQ E p d op ty r j ρ h hs rs Q (some v) y = DR E p r (j + 1) (putH ρ d v) h hs rs Q := rfl
theorem dsliceQ_none (op : Op) (y : Option Value) : dsliceQ E p d op ty r j ρ h hs rs Q none y = dreadQ E p d op ty r j ρ h hs rs Q y := rfl
theorem d_slice (t : TypeId) (x : Operand) (lo hi mx : Option Operand) : DR E p (⟨d, .slice t x lo hi mx, ty, none⟩ :: r) j ρ h hs rs Q =
    dsliceQ E p d (.slice t x lo hi mx) ty r j ρ h hs rs Q (sliceV E t (evH ρ x) (lo.map (evH ρ)) (hi.map (evH ρ)) (mx.map (evH ρ))) (sliceS E t (evH ρ x) (lo.map (evH ρ)) (hi.map (evH ρ)) (mx.map (evH ρ)) h) := by
  unfold dsliceQ
  split
  · rename_i hv; exact d_sliceP p d ty r j ρ h hs rs Q t x lo hi mx hv
  · rename_i hv; exact d_sliceR p d ty r j ρ h hs rs Q t x lo hi mx hv
end
theorem hvq : (∀ (d : Option Tmp) (ty : TypeId) (x : Operand), heavyOp (SOp.o ⟨d, .move x, ty, none⟩) = false)
  ∧ (∀ (d : Option Tmp) (ty : TypeId) (x : Operand), heavyOp (SOp.o ⟨d, .assign x, ty, none⟩) = false)
  ∧ (∀ (d : Option Tmp) (ty : TypeId) (a b c : Operand), heavyOp (SOp.o ⟨d, .pick a b c, ty, none⟩) = false)
  ∧ (∀ (d : Option Tmp) (ty : TypeId) (t : TypeId) (ps : Array (Nat × Operand)), heavyOp (SOp.o ⟨d, .build t ps, ty, none⟩) = false)
  ∧ (∀ (d : Option Tmp) (ty : TypeId) (x : Operand), heavyOp (SOp.o ⟨d, .nilCheck x, ty, none⟩) = false)
  ∧ (∀ (d : Option Tmp) (ty : TypeId) (o : BinOp) (t : TypeId) (x y : Operand) (u : TypeId), heavyOp (SOp.o ⟨d, .binOp o t x y u, ty, none⟩) = false)
  ∧ (∀ (d : Option Tmp) (ty : TypeId) (o : UnOp) (t : TypeId) (x : Operand), heavyOp (SOp.o ⟨d, .unOp o t x, ty, none⟩) = false)
  ∧ (∀ (d : Option Tmp) (ty : TypeId) (t : TypeId) (x : Operand), heavyOp (SOp.o ⟨d, .makeInterface t x, ty, none⟩) = false)
  ∧ (∀ (d : Option Tmp) (ty : TypeId) (t : TypeId) (x : Operand) (a b c : Option Operand), heavyOp (SOp.o ⟨d, .slice t x a b c, ty, none⟩) = false)
  ∧ (∀ (d : Option Tmp) (ty : TypeId) (t : TypeId) (x : Operand) (f : Nat), heavyOp (SOp.o ⟨d, .fieldAddr t x f, ty, none⟩) = false)
  ∧ (∀ (d : Option Tmp) (ty : TypeId) (t : TypeId) (x : Operand) (f : Nat), heavyOp (SOp.o ⟨d, .field t x f, ty, none⟩) = false)
  ∧ (∀ (d : Option Tmp) (ty : TypeId) (t : TypeId) (x y : Operand), heavyOp (SOp.o ⟨d, .indexAddr t x y, ty, none⟩) = false)
  ∧ (∀ (d : Option Tmp) (ty : TypeId) (t : TypeId) (x y : Operand), heavyOp (SOp.o ⟨d, .index t x y, ty, none⟩) = false)
  ∧ (∀ (d : Option Tmp) (ty : TypeId) (x : Operand) (f : Nat), heavyOp (SOp.o ⟨d, .extract x f, ty, none⟩) = false)
  ∧ (∀ (d : Option Tmp) (ty : TypeId) (t : TypeId) (x : Operand), heavyOp (SOp.o ⟨d, .load t x, ty, none⟩) = false)
  ∧ (∀ (d : Option Tmp) (ty : TypeId) (t : TypeId) (x y : Operand) (b : Bool), heavyOp (SOp.o ⟨d, .lookup t x y b, ty, none⟩) = false)
  ∧ (∀ (d : Option Tmp) (ty : TypeId) (t : TypeId), heavyOp (SOp.o ⟨d, .alloc t, ty, none⟩) = false)
  ∧ (∀ (d : Option Tmp) (ty : TypeId) (t : TypeId) (x : Operand), heavyOp (SOp.o ⟨d, .box t x, ty, none⟩) = false)
  ∧ (∀ (d : Option Tmp) (ty : TypeId) (t : TypeId) (n : Nat) (ps : Array (Nat × Operand)), heavyOp (SOp.o ⟨d, .buildSlice t n ps, ty, none⟩) = false)
  ∧ (∀ (d : Option Tmp) (ty : TypeId) (t : TypeId) (x y : Operand), heavyOp (SOp.o ⟨d, .makeSlice t x y, ty, none⟩) = false)
  ∧ (∀ (d : Option Tmp) (ty : TypeId) (x : Operand) (t u : TypeId) (b : Bool), heavyOp (SOp.o ⟨d, .typeAssert x t u b, ty, none⟩) = false)
  ∧ (∀ (d : Option Tmp) (ty : TypeId) (as : Array Operand) (ts : Array TypeId), heavyOp (SOp.o ⟨d, .call ⟨.builtin .len, as, ts⟩, ty, none⟩) = false)
  ∧ (∀ (d : Option Tmp) (ty : TypeId) (as : Array Operand) (ts : Array TypeId), heavyOp (SOp.o ⟨d, .call ⟨.builtin .cap, as, ts⟩, ty, none⟩) = false)
  ∧ (∀ (d : Option Tmp) (ty : TypeId) (as : Array Operand) (ts : Array TypeId), heavyOp (SOp.o ⟨d, .call ⟨.builtin .min, as, ts⟩, ty, none⟩) = false)
  ∧ (∀ (d : Option Tmp) (ty : TypeId) (as : Array Operand) (ts : Array TypeId), heavyOp (SOp.o ⟨d, .call ⟨.builtin .max, as, ts⟩, ty, none⟩) = false)
  ∧ (∀ (d : Option Tmp) (ty : TypeId) (as : Array Operand) (ts : Array TypeId), heavyOp (SOp.o ⟨d, .call ⟨.builtin .append, as, ts⟩, ty, none⟩) = true)
  ∧ (∀ (d : Option Tmp) (ty : TypeId) (as : Array Operand) (ts : Array TypeId), heavyOp (SOp.o ⟨d, .call ⟨.builtin .copy, as, ts⟩, ty, none⟩) = true)
  ∧ (∀ (d : Option Tmp) (ty : TypeId) (as : Array Operand) (ts : Array TypeId), heavyOp (SOp.o ⟨d, .call ⟨.builtin .clear, as, ts⟩, ty, none⟩) = true)
  ∧ (∀ (d : Option Tmp) (ty : TypeId) (as : Array Operand) (ts : Array TypeId), heavyOp (SOp.o ⟨d, .call ⟨.builtin .delete, as, ts⟩, ty, none⟩) = true)
  ∧ (∀ (d : Option Tmp) (ty : TypeId) (x : Operand) (as : Array Operand) (ts : Array TypeId), heavyOp (SOp.o ⟨d, .call ⟨.value x, as, ts⟩, ty, none⟩) = true)
  ∧ (∀ (d : Option Tmp) (ty : TypeId) (t : TypeId) (x y : Operand), heavyOp (SOp.o ⟨d, .store t x y, ty, none⟩) = true) :=
  ⟨fun _ _ _ => rfl, fun _ _ _ => rfl, fun _ _ _ _ _ => rfl, fun _ _ _ _ => rfl, fun _ _ _ => rfl, fun _ _ _ _ _ _ _ => rfl, fun _ _ _ _ _ => rfl, fun _ _ _ _ => rfl, fun _ _ _ _ _ _ _ => rfl, fun _ _ _ _ _ => rfl, fun _ _ _ _ _ => rfl, fun _ _ _ _ _ => rfl, fun _ _ _ _ _ => rfl, fun _ _ _ _ => rfl, fun _ _ _ _ => rfl, fun _ _ _ _ _ _ => rfl, fun _ _ _ => rfl, fun _ _ _ _ => rfl, fun _ _ _ _ _ => rfl, fun _ _ _ _ _ => rfl, fun _ _ _ _ _ _ => rfl, fun _ _ _ _ => rfl, fun _ _ _ _ => rfl, fun _ _ _ _ => rfl, fun _ _ _ _ => rfl, fun _ _ _ _ => rfl, fun _ _ _ _ => rfl, fun _ _ _ _ => rfl, fun _ _ _ _ => rfl, fun _ _ _ _ _ => rfl, fun _ _ _ _ _ => rfl⟩
def sameAs (v : Value) (x : Option Value) : Bool := match x with
  | some u => veq 100000 u v
  | none => false
def seenAt (f : Heap → Option Value) (v : Value) : Nat → List Heap → Bool
  | 0, _ => true
  | _ + 1, [] => false
  | n + 1, h :: r => sameAs v (f h) && seenAt f v n r
theorem seenAt_eq (f : Heap → Option Value) (v : Value) (hs : List Heap) : ∀ (n lo : Nat), ((List.range n).all fun k => match hs[lo + k]? with | some h => sameAs v (f h) | none => false) = seenAt f v n (hs.drop lo) := by
  intro n
  induction n with
  | zero => intro lo; rfl
  | succ n ih =>
    intro lo
    rw [List.range_succ_eq_map, List.all_cons, List.all_map]
    have h1 : ((fun k => match hs[lo + k]? with | some h => sameAs v (f h) | none => false) ∘ Nat.succ) = fun k => match hs[lo + 1 + k]? with | some h => sameAs v (f h) | none => false := by
      funext k
      simp only [Function.comp]
      rw [show lo + Nat.succ k = lo + 1 + k from by omega]
    rw [h1, ih (lo + 1)]
    rcases Nat.lt_or_ge lo hs.length with hl | hl
    · rw [List.drop_eq_getElem_cons hl]
      simp only [seenAt, Nat.add_zero, List.getElem?_eq_getElem hl]
    · rw [List.drop_eq_nil_of_le hl]
      simp only [seenAt, Nat.add_zero, List.getElem?_eq_none hl, Bool.false_and]
theorem seen_load {E : Env} (p : Plan) (hs : List Heap) (j : Nat) (d : Option Tmp) (t : TypeId) (a : Operand) (ty : TypeId) (ρ : Fr) (v : Value) :
    seenH E p hs ⟨j, ⟨d, .load t a, ty, none⟩, ρ, v⟩ = seenAt (loadV E t (evH ρ a)) v (p.hi.getD j 0 + 1 - p.lo.getD j 0) (hs.drop (p.lo.getD j 0)) := by
  rw [← seenAt_eq]
  rfl
theorem seen_lookup {E : Env} (p : Plan) (hs : List Heap) (j : Nat) (d : Option Tmp) (t : TypeId) (m k : Operand) (ok : Bool) (ty : TypeId) (ρ : Fr) (v : Value) :
    seenH E p hs ⟨j, ⟨d, .lookup t m k ok, ty, none⟩, ρ, v⟩ = seenAt (lookupV E t (evH ρ m) (evH ρ k) ok) v (p.hi.getD j 0 + 1 - p.lo.getD j 0) (hs.drop (p.lo.getD j 0)) := by
  rw [← seenAt_eq]
  rfl
theorem seen_slice {E : Env} (p : Plan) (hs : List Heap) (j : Nat) (d : Option Tmp) (t : TypeId) (x : Operand) (lo hi mx : Option Operand) (ty : TypeId) (ρ : Fr) (v : Value) :
    seenH E p hs ⟨j, ⟨d, .slice t x lo hi mx, ty, none⟩, ρ, v⟩ = seenAt (sliceS E t (evH ρ x) (lo.map (evH ρ)) (hi.map (evH ρ)) (mx.map (evH ρ))) v (p.hi.getD j 0 + 1 - p.lo.getD j 0) (hs.drop (p.lo.getD j 0)) := by
  rw [← seenAt_eq]
  rfl
theorem seenAt_zero (f : Heap → Option Value) (v : Value) (hs : List Heap) : seenAt f v 0 hs = true := rfl
theorem seenAt_succ (f : Heap → Option Value) (v : Value) (n : Nat) (h : Heap) (hs : List Heap) : seenAt f v (n + 1) (h :: hs) = (sameAs v (f h) && seenAt f v n hs) := rfl
end Go.Vi
