/- Vd0: code in all orders of its ranges over maps, as a predicate on what it comes to. Vd1: what a state comes to, told by other blocks: renamed, and maps in an unknown order. Vd2: a call's end, told by other blocks; functions told by it. Vd3: all orders, in the logic of frames. Vd4: a range over a map, in any order. Vd5: the shape of a copied object, wherever it is laid; many of them, in any order. Vd6: copied objects, laid in their order, tell of them laid in any order. Vd7: a store's copy, told. Vd8: blocks laid behind a heap; a row that is read, appended to an empty one. Vd9: what is visited of a map's entries, and where their copies lie. Vd10: the copy of a store, told. Vd11: all orders, by the code as the logic has it. Vd12: the names of a store, where one at most is asked for, told. -/
import Derived.Test.YtenhhbammadpbaaGreatDoorVgF
import Derived.Test.YtenhhbammadpbaaGreatDoorVgH
import Derived.Test.YtenhhbammadpbaaGreatDoorVgI
import Derived.Test.YtenhhbammadpbaaGreatDoorVgJ
namespace Go.Vi
variable {K : Known} {P : Program} {E : Env}
def WinN (ρ : Map) (h : Heap) (N : Nat) : Prop := ∀ b, h.next ≤ b → b < N → ρ b = none
theorem WinN.win {ρ : Map} {h h' : Heap} {N : Nat} (x : WinN ρ h N) (hn : h'.next ≤ N) : Win ρ h h' := fun b h1 h2 => x b h1 (by omega)
theorem WinN.sub {ρ ρ' : Map} {h h1 : Heap} {w w1 : World} {N : Nat} (x : WinN ρ h N) (s : Stp ρ h w ρ' h1 w1) : WinN ρ' h1 N := fun b q1 q2 => by
  have h0 : ρ b = none := x b (Nat.le_trans s.next q1) q2
  cases hq : ρ' b with
  | none => rfl
  | some i =>
    have := s.dom b h0 (by rw [hq]; simp)
    omega
def SR (K : Known) (P : Program) (N : Nat) (c : Code) (s : St) (S : Ex → St → Prop) : Prop :=
  ∀ (B : Nat) (D : List Deferred) (ρ : Map) (a : Act) (w : World), SRel K D ρ s a w → Marked B D ρ w → WinN ρ s.2 N →
    ∀ {Q : Exit → Act → World → Prop}, (∀ x s', S x s' → s'.2.next ≤ N → ∀ D' ρ' a' w', SRel K D' ρ' s' a' w' → Marked B D' ρ' w' → Stp ρ s.2 w ρ' s'.2 w' → Q (exitOf x) a' w') → c.wpIn (W none) 0 P Q a w
theorem SR.mono {N : Nat} {c : Code} {s : St} {S S' : Ex → St → Prop} (r : SR K P N c s S) (h : ∀ x s', S x s' → S' x s') : SR K P N c s S' :=
  fun B D ρ a w sr mk win {_} k => r B D ρ a w sr mk win fun x s' hs => k x s' (h x s' hs)
theorem sr_det (ok : EnvOk K P E) {n : Nat} {pl : Nat → Option Plan} {fuel N : Nat} {c : Code} {s : St} {x : Ex} {s' : St} {S : Ex → St → Prop} (h : codeV E (callV E n) pl fuel c s = some (x, s')) (hc : codeOk c = true) (hp : planOk pl c = true) (hn : s'.2.next ≤ N) (hs : S x s') :
    SR K P N c s S := fun _ D ρ a w sr mk win {_} k =>
  code_sound ok.ty ok.meth ok.mixed ok.row (call_ok ok n) c s x s' h hc hp (.inl rfl) D ρ a w sr mk (win.win hn) fun D' ρ' a' w' sr' mk' st' => k x s' hs hn D' ρ' a' w' sr' mk' st'
theorem sr_seq {N : Nat} {a b : Code} {s : St} {S : Ex → St → Prop} (h : SR K P N a s fun x s1 => match x with | .normal => SR K P N b s1 S | x => S x s1) : SR K P N (.seq a b) s S := by
  intro B D ρ ac w sr mk win Q k
  refine wpIn_seq ?_
  refine h B D ρ ac w sr mk win fun x s1 hs hn D1 ρ1 a1 w1 sr1 mk1 st1 => ?_
  cases x with
  | normal =>
    have hs : SR K P N b s1 S := hs
    exact hs B D1 ρ1 a1 w1 sr1 mk1 (win.sub st1) fun x s2 hs2 hn2 D2 ρ2 a2 w2 sr2 mk2 st2 => k x s2 hs2 hn2 D2 ρ2 a2 w2 sr2 mk2 (Stp.trans sr.g.fresh sr1.g.fresh st1 st2)
  | exit i => exact k _ s1 hs hn D1 ρ1 a1 w1 sr1 mk1 st1
  | ret => exact k _ s1 hs hn D1 ρ1 a1 w1 sr1 mk1 st1
theorem sr_cond {N : Nat} {c : Operand} {a b : Code} {s : St} {S : Ex → St → Prop} (hc : codeOk (.cond c a b) = true) (h : (evV s.1 c = .bool true ∧ SR K P N a s S) ∨ (evV s.1 c = .bool false ∧ SR K P N b s S)) : SR K P N (.cond c a b) s S := by
  intro B D ρ ac w sr mk win Q k
  simp only [codeOk, Bool.and_eq_true] at hc
  rcases h with ⟨hv, h⟩ | ⟨hv, h⟩
  · exact wpIn_cond_true (cond_val sr.t hc.1.1 hv) (h B D ρ ac w sr mk win k)
  · exact wpIn_cond_false (cond_val sr.t hc.1.1 hv) (h B D ρ ac w sr mk win k)
def blX (id : Nat) (S : Ex → St → Prop) : Ex → St → Prop := fun x s => match x with
  | .exit i => if i = id then S .normal s else S (.exit i) s
  | x => S x s
theorem sr_block {N id : Nat} {b : Code} {s : St} {S : Ex → St → Prop} (h : SR K P N b s (blX id S)) : SR K P N (.block id b) s S := by
  intro B D ρ a w sr mk win Q k
  refine wpIn_block ?_
  refine h B D ρ a w sr mk win fun x s1 hs hn D1 ρ1 a1 w1 sr1 mk1 st1 => ?_
  cases x with
  | normal => exact k .normal s1 hs hn D1 ρ1 a1 w1 sr1 mk1 st1
  | ret => exact k .ret s1 hs hn D1 ρ1 a1 w1 sr1 mk1 st1
  | exit i =>
    simp only [exitOf, Exit.inBlock]
    have hs : if i = id then S .normal s1 else S (.exit i) s1 := hs
    by_cases hi : i = id
    · rw [if_pos hi] at hs ⊢
      exact k .normal s1 hs hn D1 ρ1 a1 w1 sr1 mk1 st1
    · rw [if_neg hi] at hs ⊢
      exact k (.exit i) s1 hs hn D1 ρ1 a1 w1 sr1 mk1 st1
theorem sr_loop {N : Nat} {b : Code} {S : Ex → St → Prop} (I : Nat → St → Prop)
    (hb : ∀ n s, I n s → SR K P N b s fun x s' => match x with | .normal => ∃ m, m < n ∧ I m s' | x => S x s') {n : Nat} {s : St} (hi : I n s) : SR K P N (.loop b) s S := by
  intro B D ρ a w sr mk win Q k
  refine wpIn_loop_rounds (n + 1) ?_
  have key : ∀ (f n : Nat) (s : St), n < f → I n s → ∀ (D : List Deferred) (ρ : Map) (a : Act) (w : World), SRel K D ρ s a w → Marked B D ρ w → WinN ρ s.2 N →
      (∀ x s', S x s' → s'.2.next ≤ N → ∀ D' ρ' a' w', SRel K D' ρ' s' a' w' → Marked B D' ρ' w' → Stp ρ s.2 w ρ' s'.2 w' → Q (exitOf x) a' w') → Code.roundsIn (W none) 0 P b Q f a w := by
    intro f
    induction f with
    | zero => intro n s h; omega
    | succ f ihf =>
      intro n s hlt hi D ρ a w sr mk win k
      rw [roundsIn_succ]
      refine hb n s hi B D ρ a w sr mk win fun x s1 hs hn D1 ρ1 a1 w1 sr1 mk1 st1 => ?_
      cases x with
      | normal =>
        obtain ⟨m, hm, hi2⟩ := hs
        exact ihf m s1 (by omega) hi2 D1 ρ1 a1 w1 sr1 mk1 (win.sub st1) fun x s2 hs2 hn2 D2 ρ2 a2 w2 sr2 mk2 st2 => k x s2 hs2 hn2 D2 ρ2 a2 w2 sr2 mk2 (Stp.trans sr.g.fresh sr1.g.fresh st1 st2)
      | exit i => exact k _ s1 hs hn D1 ρ1 a1 w1 sr1 mk1 st1
      | ret => exact k _ s1 hs hn D1 ρ1 a1 w1 sr1 mk1 st1
  exact key (n + 1) n s (Nat.lt_succ_self _) hi D ρ a w sr mk win k
theorem sr_next (ok : EnvOk K P E) {n : Nat} {pl : Option Plan} {N id : Nat} {ops : Array Oper} {o : Oper} {r : List Oper} {it : Operand} {s : St} {L : List (Value × Heap)} {S : Ex → St → Prop} (hops : ops.toList = o :: r) (hop : o.op = .next it false) (hg : o.guard = none)
    (hok : codeOk (.region id ops false) = true) (hL : nextO (evV s.1 it) s.2 = some L) (hall : ∀ p ∈ L, ∃ s', opsV E (callV E n) ops r (putV s.1 o.dst p.1, p.2) = some s' ∧ s'.2.next ≤ N ∧ S .normal s') : SR K P N (.region id ops false) s S := by
  intro B D ρ a w sr mk win Q k
  obtain ⟨L', hL', hm⟩ : ∃ L', mapO (fun p => opsV E (callV E n) ops r (putV s.1 o.dst p.1, p.2)) L = some L' ∧ ∀ s' ∈ L', s'.2.next ≤ N ∧ S .normal s' := by
    clear hL
    induction L with
    | nil => exact ⟨[], rfl, fun _ h => nomatch h⟩
    | cons p L ih =>
      obtain ⟨s', h1, h2, h3⟩ := hall p List.mem_cons_self
      obtain ⟨L', h4, h5⟩ := ih fun q hq => hall q (List.mem_cons_of_mem _ hq)
      refine ⟨s' :: L', by simp only [mapO, h1, h4], fun x hx => ?_⟩
      rcases List.mem_cons.1 hx with rfl | hx
      · exact ⟨h2, h3⟩
      · exact h5 x hx
  have hR : regionO E (callV E n) pl ops false s = some L' := by
    unfold regionO
    simp only [hops, hop, hg, hL]
    exact hL'
  refine regionO_sound (D := D) ok.ty ok.meth ok.mixed ok.row (call_ok ok n) hR hok rfl sr (fun s' hs' => win.win (hm s' hs').1) fun s' hs' ρ' a' w' sr' st' => ?_
  exact k .normal s' (hm s' hs').2 (hm s' hs').1 D ρ' a' w' sr' (mk.stp st') st'
end Go.Vi
namespace Go.Vi
variable {K : Known}
inductive VR (τ : Nat → Nat) : Value → Value → Prop where
  | bool (b : Bool) : VR τ (.bool b) (.bool b)
  | int (k : IntKind) (n : Int) : VR τ (.int k n) (.int k n)
  | string (s : ByteArray) : VR τ (.string s) (.string s)
  | ptr0 : VR τ (.pointer none) (.pointer none)
  | ptr (b o : Nat) : VR τ (.pointer (some ⟨b, o, none⟩)) (.pointer (some ⟨τ b, o, none⟩))
  | slice0 : VR τ (.slice none 0 0) (.slice none 0 0)
  | slice (b o n c : Nat) : VR τ (.slice (some ⟨b, o, none⟩) n c) (.slice (some ⟨τ b, o, none⟩) n c)
  | sliceE : VR τ (.slice (some ⟨0, 0, some 0⟩) 0 0) (.slice (some ⟨0, 0, some 0⟩) 0 0)
  | map0 : VR τ (.map none) (.map none)
  | map (b : Nat) : VR τ (.map (some b)) (.map (some (τ b)))
  | nilFunc : VR τ .nilFunc .nilFunc
  | nilIface : VR τ .nilIface .nilIface
  | iface (t : TypeId) (v v' : Value) (h : VR τ v v') : VR τ (.iface t v) (.iface t v')
  | agg (l l' : Array Value) (hl : l.toList.length = l'.toList.length) (h : ∀ j (h : j < l.toList.length) (h' : j < l'.toList.length), VR τ l.toList[j] l'.toList[j]) : VR τ (.agg l) (.agg l')
  | tuple (l l' : Array Value) (hl : l.toList.length = l'.toList.length) (h : ∀ j (h : j < l.toList.length) (h' : j < l'.toList.length), VR τ l.toList[j] l'.toList[j]) : VR τ (.tuple l) (.tuple l')
theorem VR.rel {τ : Nat → Nat} {ρ1 ρ' : Map} (hρ : ∀ b i, ρ1 (τ b) = some i → ρ' b = some i) {v v1 : Value} (r : VR τ v v1) : ∀ {v' : Value}, VRel ρ1 v1 v' → VRel ρ' v v' := by
  induction r with
  | bool b => intro v' h; cases h; exact .bool b
  | int k n => intro v' h; cases h; exact .int k n
  | string s => intro v' h; cases h; exact .string s
  | ptr0 => intro v' h; cases h; exact .ptr0
  | ptr b o =>
    intro v' h
    generalize hx : τ b = x at h
    cases h with
    | ptr _ _ i hi => exact .ptr b o i (hρ b i (by rw [hx]; exact hi))
  | slice0 => intro v' h; cases h; exact .slice0
  | slice b o n c =>
    intro v' h
    generalize hx : τ b = x at h
    cases h with
    | slice _ _ _ _ i o' cap' hi hl ho hc hn hr => exact .slice b o n c i o' cap' (hρ b i (by rw [hx]; exact hi)) hl ho hc hn hr
  | sliceE => intro v' h; cases h; exact .sliceE _
  | map0 => intro v' h; cases h; exact .map0
  | map b =>
    intro v' h
    generalize hx : τ b = x at h
    cases h with
    | map _ i hi => exact .map b i (hρ b i (by rw [hx]; exact hi))
  | nilFunc => intro v' h; cases h; exact .nilFunc
  | nilIface => intro v' h; cases h; exact .nilIface
  | iface t v v1 _ ih =>
    intro v' h
    cases h with
    | iface _ _ w hw => exact .iface t v w (ih hw)
  | agg l l1 hl _ ih =>
    intro v' h
    cases h with
    | agg _ m hm hk => exact .agg l m (hl.trans hm) fun j h1 h2 => ih j h1 (by rw [← hl]; exact h1) (hk j (by rw [← hl]; exact h1) h2)
  | tuple l l1 hl _ ih =>
    intro v' h
    cases h with
    | tuple _ m hm hk => exact .tuple l m (hl.trans hm) fun j h1 h2 => ih j h1 (by rw [← hl]; exact h1) (hk j (by rw [← hl]; exact h1) h2)
def VRs (τ : Nat → Nat) (l l1 : List Value) : Prop := l.length = l1.length ∧ ∀ j (h : j < l.length) (h' : j < l1.length), VR τ l[j] l1[j]
theorem VRs.rel {τ : Nat → Nat} {ρ1 ρ' : Map} (hρ : ∀ b i, ρ1 (τ b) = some i → ρ' b = some i) {l l1 l' : List Value} (r : VRs τ l l1) (h : VRels ρ1 l1 l') : VRels ρ' l l' :=
  ⟨r.1.trans h.1, fun j h1 h2 => (r.2 j h1 (by rw [← r.1]; exact h1)).rel hρ (h.2 j (by rw [← r.1]; exact h1) h2)⟩
theorem VRel.narrow {ρ ρ1 : Map} (e : Ext ρ ρ1) {v a : Value} (h : VRel ρ v a) : ∀ {b : Value}, VRel ρ1 v b → VRel ρ v b := by
  induction h with
  | bool b => intro b h; cases h; exact .bool _
  | int k n => intro b h; cases h; exact .int k n
  | string s => intro b h; cases h; exact .string s
  | ptr0 => intro b h; cases h; exact .ptr0
  | ptr b o i hi =>
    intro y h
    cases h with
    | ptr _ _ j hj => exact .ptr b o j (by rw [hi]; rw [e _ _ hi] at hj; exact hj)
  | slice0 => intro b h; cases h; exact .slice0
  | slice b o n c i o' cap' hi =>
    intro y h
    cases h with
    | slice _ _ _ _ j o2 cap2 hj hl ho hc hn hr => exact .slice b o n c j o2 cap2 (by rw [hi]; rw [e _ _ hi] at hj; exact hj) hl ho hc hn hr
  | sliceE a => intro b h; cases h; exact .sliceE _
  | map0 => intro b h; cases h; exact .map0
  | map b i hi =>
    intro y h
    cases h with
    | map _ j hj => exact .map b j (by rw [hi]; rw [e _ _ hi] at hj; exact hj)
  | chan0 => intro b h; cases h; exact .chan0
  | chan b i hi =>
    intro y h
    cases h with
    | chan _ j hj => exact .chan b j (by rw [hi]; rw [e _ _ hi] at hj; exact hj)
  | nilFunc => intro b h; cases h; exact .nilFunc
  | func g l l' c c' hl _ kl _ ih ik =>
    intro y h
    cases h with
    | func _ _ m _ d hm hmm km kmm => exact .func g l m c d hm (fun j h1 h2 => ih j h1 (by rw [← hl]; exact h1) (hmm j h1 h2)) km (fun j h1 h2 => ik j h1 (by rw [← kl]; exact h1) (kmm j h1 h2))
  | yield b i hi hb =>
    intro y h
    cases h with
    | yield _ j hj hb2 => exact .yield b j (by rw [hi]; rw [e _ _ hi] at hj; exact hj) hb2
  | nilIface => intro b h; cases h; exact .nilIface
  | iface t v v' _ ih =>
    intro y h
    cases h with
    | iface _ _ w hw => exact .iface t v w (ih hw)
  | agg l l' hl _ ih =>
    intro y h
    cases h with
    | agg _ m hm hk => exact .agg l m hm fun j h1 h2 => ih j h1 (by rw [← hl]; exact h1) (hk j h1 h2)
  | tuple l l' hl _ ih =>
    intro y h
    cases h with
    | tuple _ m hm hk => exact .tuple l m hm fun j h1 h2 => ih j h1 (by rw [← hl]; exact h1) (hk j h1 h2)
theorem VRels.narrow {ρ ρ1 : Map} (e : Ext ρ ρ1) {l a b : List Value} (h : VRels ρ l a) (k : VRels ρ1 l b) : VRels ρ l b :=
  ⟨k.1, fun j h1 h2 => (h.2 j h1 (by rw [← h.1]; exact h1)).narrow e (k.2 j h1 h2)⟩
theorem MRel.narrow {ρ ρ1 : Map} (e : Ext ρ ρ1) {es l m : List MapEntry} (h : MRel ρ es l) (k : MRel ρ1 es m) : MRel ρ es m := by
  refine ⟨k.1, fun j a b ha hb => ?_⟩
  have hj : j < l.length := by rw [← h.1]; exact (List.getElem?_eq_some_iff.1 ha).1
  have h1 := h.2 j a _ ha (List.getElem?_eq_getElem hj)
  have h2 := k.2 j a b ha hb
  exact ⟨h1.key.narrow e h2.key, h1.val.narrow e h2.val, h2.born⟩
theorem MRel.all {ρ : Map} {es l : List MapEntry} (h : MRel ρ es l) {a : MapEntry} (ha : a ∈ es) : ∃ b, MERel ρ a b := by
  obtain ⟨j, hj⟩ := List.getElem?_of_mem ha
  have hl : j < l.length := by rw [← h.1]; exact (List.getElem?_eq_some_iff.1 hj).1
  exact ⟨_, h.2 j a _ hj (List.getElem?_eq_getElem hl)⟩
theorem ORel.narrow {ρ ρ1 : Map} (e : Ext ρ ρ1) {o : Blk} {i : Info} {w w2 : World} (h : ORel ρ o i w) (k : ORel ρ1 o i w2) : ORel ρ o i w2 := by
  cases o with
  | cells cs wr opn =>
    obtain ⟨_, _, _, _, _, _, _, h1, _⟩ := h
    obtain ⟨k1, c, el, fr, k2, k3, k4, k5, k6⟩ := k
    exact ⟨k1, c, el, fr, k2, k3, k4, h1.narrow e k5, k6⟩
  | map es c =>
    obtain ⟨_, _, h2⟩ := h
    obtain ⟨es', k1, k2⟩ := k
    exact ⟨es', k1, h2.narrow e k2⟩
  | umap es =>
    obtain ⟨es2, c, u, es', h1, h2⟩ := h
    obtain ⟨es3, c3, u3, es3', k1, k2⟩ := k
    refine ⟨es3, c3, u3, es3', k1, k2.1, fun j a b ha hb => ?_⟩
    have hk := k2.2 j a b ha hb
    obtain ⟨a1, ha1, hv1⟩ := u3.mem2 (List.mem_of_getElem? ha)
    obtain ⟨a2, ha2, hv2⟩ := u.mem ha1
    obtain ⟨b2, hb2⟩ := h2.all ha2
    have hkv := hv2.trans hv1
    have e1 : a2.key = a.key := congrArg Prod.fst hkv
    have e2 : a2.val = a.val := congrArg Prod.snd hkv
    exact ⟨(e1 ▸ hb2.key).narrow e hk.key, (e2 ▸ hb2.val).narrow e hk.val, hk.born⟩
  | loop r =>
    obtain ⟨_, _, _, _, _, _, _, _, _, _, _, _, _, _, h1⟩ := h
    obtain ⟨k0, c1, c2, c3, c4, c5, c6, L, k1, e1, e2, e3, e4, e5, k2⟩ := k
    exact ⟨k0, c1, c2, c3, c4, c5, c6, L, k1, e1, e2, e3, e4, e5, h1.narrow e k2⟩
  | sit s pos => exact k
  | mit m since seen last =>
    obtain ⟨_, m1, _, h1⟩ := h
    obtain ⟨k0, m2, k1, k2⟩ := k
    refine ⟨k0, m2, k1, ?_⟩
    cases m with
    | none => exact k2
    | some b =>
      obtain ⟨j, hj, _⟩ := h1
      obtain ⟨j2, hj2, e2⟩ := k2
      exact ⟨j2, by rw [hj]; rw [e _ _ hj] at hj2; exact hj2, e2⟩
  | chan cap buf =>
    obtain ⟨_, _, _, _, h2⟩ := h
    obtain ⟨buf', s, r, k1, k2⟩ := k
    exact ⟨buf', s, r, k1, h2.narrow e k2⟩
end Go.Vi
namespace Go.Vi
variable {K : Known}
def BR (τ : Nat → Nat) (o1 o : Blk) : Prop := match o with
  | .cells cs wr opn => ∃ cs1, o1 = .cells cs1 wr opn ∧ VRs τ cs cs1
  | .map es c => ∃ es1, o1 = .map es1 c ∧ es.length = es1.length ∧ ∀ (j : Nat) (a b : MapEntry), es[j]? = some a → es1[j]? = some b → VR τ a.key b.key ∧ VR τ a.val b.val ∧ a.born = b.born
  | .umap es => ∃ es1 es2 c, o1 = .map es1 c ∧ UPerm es es2 c ∧ es2.length = es1.length ∧ ∀ (j : Nat) (a b : MapEntry), es2[j]? = some a → es1[j]? = some b → VR τ a.key b.key ∧ VR τ a.val b.val ∧ a.born = b.born
  | _ => False
theorem BR.rel {τ : Nat → Nat} {ρ1 ρ' : Map} (hρ : ∀ b i, ρ1 (τ b) = some i → ρ' b = some i) {o1 o : Blk} (r : BR τ o1 o) {i : Info} {w : World} (h : ORel ρ1 o1 i w) : ORel ρ' o i w := by
  have hm : ∀ {es es1 l : List MapEntry}, es.length = es1.length → (∀ (j : Nat) (a b : MapEntry), es[j]? = some a → es1[j]? = some b → VR τ a.key b.key ∧ VR τ a.val b.val ∧ a.born = b.born) → MRel ρ1 es1 l → MRel ρ' es l := fun {es es1 l} hl hall m =>
    ⟨hl.trans m.1, fun j a b ha hb => by
      have hj : j < es1.length := by rw [← hl]; exact (List.getElem?_eq_some_iff.1 ha).1
      obtain ⟨q1, q2, q3⟩ := hall j a _ ha (List.getElem?_eq_getElem hj)
      have := m.2 j _ b (List.getElem?_eq_getElem hj) hb
      exact ⟨q1.rel hρ this.key, q2.rel hρ this.val, q3.trans this.born⟩⟩
  cases o with
  | cells cs wr opn =>
    obtain ⟨cs1, rfl, hv⟩ := r
    obtain ⟨k1, c, el, fr, k2, k3, k4, k5, k6, k7⟩ := h
    have hl := hv.1
    exact ⟨k1, c, el, fr, k2, k3, by rw [hl]; exact k4, by rw [hl]; exact hv.rel hρ k5, k6, fun z hz => by rw [hl]; exact k7 z hz⟩
  | map es c =>
    obtain ⟨es1, rfl, hl, hall⟩ := r
    obtain ⟨es', h1, h2⟩ := h
    exact ⟨es', h1, hm hl hall h2⟩
  | umap es =>
    obtain ⟨es1, es2, c, rfl, u, hl, hall⟩ := r
    obtain ⟨es', h1, h2⟩ := h
    exact ⟨es2, c, u, es', h1, hm hl hall h2⟩
  | loop r => exact r.elim
  | sit s p => exact r.elim
  | mit a b c d => exact r.elim
  | chan a b => exact r.elim
structure Ren (h h1 h' : Heap) (τ : Nat → Nat) : Prop where
  next : h1.next ≤ h'.next
  next0 : h.next ≤ h1.next
  old : ∀ b, b < h.next → h'.get b = h.get b
  old1 : ∀ b, b < h.next → h1.get b = h.get b
  same : ∀ b, b < h.next ∨ h'.next ≤ b → τ b = b
  win : ∀ b, h.next ≤ b → b < h'.next → h.next ≤ τ b ∧ τ b < h'.next
  new : ∀ b, h.next ≤ b → ∀ o, h'.get b = some o → ∃ o1, h1.get (τ b) = some o1 ∧ BR τ o1 o
  inj : ∀ b c, h.next ≤ b → h.next ≤ c → h'.get b ≠ none → h'.get c ≠ none → τ b = τ c → b = c
  fresh : ∀ b, h'.next ≤ b → h'.get b = none
theorem Ren.told {h h1 h' : Heap} {τ : Nat → Nat} (r : Ren h h1 h' τ) {ρ ρ1 : Map} {w w2 : World} (g : Good K ρ h w) (g1 : Good K ρ1 h1 w2) (s1 : Stp ρ h w ρ1 h1 w2) (win : WinN ρ h h'.next) {v v1 v' : Value} (hv : VR τ v v1) (rv : VRel ρ1 v1 v') :
    ∃ ρ', VRel ρ' v v' ∧ Good K ρ' h' w2 ∧ Stp ρ h w ρ' h' w2 := by
  obtain ⟨ρ', eρ⟩ : ∃ ρ' : Map, ρ' = fun b => if h.next ≤ b ∧ b < h'.next then ρ1 (τ b) else ρ b := ⟨_, rfl⟩
  have inW : ∀ b, h.next ≤ b → b < h'.next → ρ' b = ρ1 (τ b) := fun b q1 q2 => by rw [eρ]; exact if_pos ⟨q1, q2⟩
  have outW : ∀ b, ¬ (h.next ≤ b ∧ b < h'.next) → ρ' b = ρ b := fun b q => by rw [eρ]; exact if_neg q
  have same1 : ∀ b, ¬ (h.next ≤ b ∧ b < h1.next) → ρ1 b = ρ b := fun b q => by
    cases h0 : ρ b with
    | some i => exact s1.ext b i h0
    | none =>
      cases hb : ρ1 b with
      | none => rfl
      | some i => exact absurd (s1.dom b h0 (by rw [hb]; simp)) q
  have hn := r.next
  have hn0 := r.next0
  have hρ : ∀ b i, ρ1 (τ b) = some i → ρ' b = some i := fun b i hi => by
    by_cases q : h.next ≤ b ∧ b < h'.next
    · rw [inW b q.1 q.2]; exact hi
    · rw [outW b q]
      rw [r.same b (by omega), same1 b (by omega)] at hi
      exact hi
  have ext : Ext ρ ρ' := fun b i hb => by
    rw [outW b fun q => by have := win b q.1 q.2; rw [hb] at this; cases this]
    exact hb
  have newI : ∀ b i, h.next ≤ b → b < h'.next → ρ' b = some i → ρ1 (τ b) = some i ∧ ρ (τ b) = none := fun b i q1 q2 hb => by
    rw [inW b q1 q2] at hb
    obtain ⟨w1, w2⟩ := r.win b q1 q2
    exact ⟨hb, win _ w1 w2⟩
  have fromN : ∀ b i, ρ b = none → ρ' b = some i → i.ro = false ∧ (w.heap.size ≤ i.blk ∨ ∃ c j, ρ c = some j ∧ h.get c ≠ none ∧ j.ro = false ∧ h'.get c = none ∧ j.blk = i.blk) := fun b i h0 hb => by
    by_cases q : h.next ≤ b ∧ b < h'.next
    · obtain ⟨h1', h2⟩ := newI b i q.1 q.2 hb
      obtain ⟨q1, q2⟩ := s1.fromN _ i h2 h1'
      refine ⟨q1, q2.imp (fun x => x) fun ⟨c, j, c1, c2, c3, c4, c5⟩ => ⟨c, j, c1, c2, c3, ?_, c5⟩⟩
      have hc : c < h.next := Nat.lt_of_not_le fun hx => c2 (g.fresh c hx)
      rw [r.old c hc, ← r.old1 c hc]
      exact c4
    · rw [outW b q, h0] at hb; cases hb
  have st : Stp ρ h w ρ' h' w2 := {
    ext := ext
    dom := fun b h0 hb => by
      by_cases q : h.next ≤ b ∧ b < h'.next
      · exact q
      · rw [outW b q] at hb; exact absurd h0 hb
    win := fun b q1 q2 => win b q1 q2
    next := by omega
    vframe := fun b hb _ => r.old b hb
    dead := fun b hb h0 => by rw [r.old b hb]; exact h0
    grow := s1.grow
    rframe := s1.rframe
    fromN := fromN
    side := s1.side }
  have good : Good0 ρ' h' w2 := {
    rel := fun b i o hb ho => by
      by_cases q : h.next ≤ b
      · have q2 : b < h'.next := Nat.lt_of_not_le fun hx => by rw [r.fresh b hx] at ho; cases ho
        obtain ⟨h1', _⟩ := newI b i q q2 hb
        obtain ⟨o1, ho1, br⟩ := r.new b q o ho
        exact br.rel hρ (g1.rel _ i o1 h1' ho1)
      · have hb0 : ρ b = some i := by rw [outW b fun x => q x.1] at hb; exact hb
        have ho0 : h.get b = some o := by rw [← r.old b (by omega)]; exact ho
        have ho1 : h1.get b = some o := by rw [r.old1 b (by omega)]; exact ho0
        exact ((g.rel b i o hb0 ho0).narrow s1.ext (g1.rel b i o (s1.ext _ _ hb0) ho1)).move ext rfl
    inj := fun b c i j hb hc pb pc hro he => by
      have lb : b < h'.next := Nat.lt_of_not_le fun hx => pb (r.fresh b hx)
      have lc : c < h'.next := Nat.lt_of_not_le fun hx => pc (r.fresh c hx)
      have pres : ∀ b, h.next ≤ b → h'.get b ≠ none → h1.get (τ b) ≠ none := fun b q hp => by
        cases ho : h'.get b with
        | none => exact absurd ho hp
        | some o => obtain ⟨o1, ho1, _⟩ := r.new b q o ho; rw [ho1]; simp
      have pres0 : ∀ b, b < h.next → h'.get b ≠ none → h1.get b ≠ none := fun b q hp => by rw [r.old1 b q, ← r.old b q]; exact hp
      by_cases qb : h.next ≤ b
      · obtain ⟨b1, _⟩ := newI b i qb lb hb
        by_cases qc : h.next ≤ c
        · obtain ⟨c1, _⟩ := newI c j qc lc hc
          exact r.inj b c qb qc pb pc (g1.inj _ _ i j b1 c1 (pres b qb pb) (pres c qc pc) hro he)
        · have hc0 : ρ c = some j := by rw [outW c fun x => qc x.1] at hc; exact hc
          have := g1.inj _ c i j b1 (s1.ext _ _ hc0) (pres b qb pb) (pres0 c (by omega) pc) hro he
          have := (r.win b qb lb).1
          omega
      · have hb0 : ρ b = some i := by rw [outW b fun x => qb x.1] at hb; exact hb
        by_cases qc : h.next ≤ c
        · obtain ⟨c1, _⟩ := newI c j qc lc hc
          have := g1.inj b _ i j (s1.ext _ _ hb0) c1 (pres0 b (by omega) pb) (pres c qc pc) hro he
          have := (r.win c qc lc).1
          omega
        · have hc0 : ρ c = some j := by rw [outW c fun x => qc x.1] at hc; exact hc
          exact g1.inj b c i j (s1.ext _ _ hb0) (s1.ext _ _ hc0) (pres0 b (by omega) pb) (pres0 c (by omega) pc) hro he
    lt := fun b i hb hro => by
      by_cases q : h.next ≤ b ∧ b < h'.next
      · exact g1.lt _ i (newI b i q.1 q.2 hb).1 hro
      · rw [outW b q] at hb; exact g1.lt b i (s1.ext _ _ hb) hro
    fresh := r.fresh
    ro := fun b i o hb ho hro => by
      by_cases q : h.next ≤ b
      · have q2 : b < h'.next := Nat.lt_of_not_le fun hx => by rw [r.fresh b hx] at ho; cases ho
        obtain ⟨h1', h2⟩ := newI b i q q2 hb
        have := (s1.fromN _ i h2 h1').1
        rw [hro] at this; cases this
      · have hb0 : ρ b = some i := by rw [outW b fun x => q x.1] at hb; exact hb
        exact g.ro b i o hb0 (by rw [← r.old b (by omega)]; exact ho) hro }
  exact ⟨ρ', hv.rel hρ rv, ⟨good, st.known g.known⟩, st⟩
theorem sr_call {P : Program} {E : Env} (ok : EnvOk K P E) {f : FuncId} {fn : Fun} {args : List Value} {h h' : Heap} {v : Value} (hf : E.fn f = some fn)
    (sr0 : SR K P h'.next fn.body (args ++ List.replicate (fn.fn.ntmps - args.length) undef, h) fun x s' => (x = .normal ∨ x = .ret) ∧ ∃ l τ, resultsV E s' fn.fn.results.toList = some l ∧ Ren h s'.2 h' τ ∧ VR τ v (oneOrTuple l))
    {ρ : Map} {w : World} {args' : Array Value} (g : Good K ρ h w) (win : Win ρ h h') (hargs : VRels ρ args args'.toList) : Calls P f args' w (Post K ρ h w v h') := by
  have q := ok.fn _ _ hf
  have sr : SRel K [] ρ (args ++ List.replicate (fn.fn.ntmps - args.length) undef, h) { tmps := args' ++ Array.replicate (fn.fn.ntmps - args'.size) undef, defers := [] } w := by
    have hl : args.length = args'.size := by rw [hargs.1]; simp
    refine ⟨trel_of ?_, rfl, g⟩
    rw [Array.toList_append, hl]
    refine hargs.append (.of_get (by simp) fun j v v' h1 h2 => ?_)
    rw [List.getElem?_replicate] at h1
    rw [Array.toList_replicate, List.getElem?_replicate] at h2
    split at h1
    · rename_i hlt; rw [if_pos hlt] at h2; cases h1; cases h2; exact undef_rel
    · cases h1
  refine (callsIn_W (rd := none) (n := 0)).1 (callsIn_of_wp_marks q.fn q.body trivial ?_)
  refine sr0 w.heap.size [] ρ _ w sr (.nil (Nat.le_refl _)) (fun b q1 q2 => win b q1 q2) fun x s' hx hn D' ρ' a' w' sr' mk' st' => ?_
  obtain ⟨hx, l, τ, hl, ren, hv⟩ := hx
  have hr : ∀ w2, Good K ρ' s'.2 w2 → Stp ρ h w ρ' s'.2 w2 → ∃ v', (results fn.fn a'.tmps).run P w2 = .ok v' w2 ∧ Post K ρ h w v h' (.returned v') w2 := by
    intro w2 g2 st2
    rw [results_eq, Array.mapM_eq_mapM_toList]
    have sr2 : SRel K D' ρ' s' a' w2 := ⟨sr'.t, sr'.d, g2⟩
    obtain ⟨l', rl, run⟩ := results_run (P := P) ok.ty sr2 (f := resF a') (fun t w => rfl)
      (fun x t b v w hb hrun => by simp only [resF, hb, asAddr, Sem.run_bind, Sem.run_pure, Result.andThen_ok, hrun]) _ _ hl
    have rv : VRel ρ' (oneOrTuple l) (if h : l'.toArray.size = 1 then l'.toArray[0] else .tuple l'.toArray) := by
      cases l with
      | nil => have := rl.nil_inv; subst this; exact undef_rel
      | cons v l =>
        obtain ⟨v', r', rfl, hv9, hr⟩ := rl.cons_inv
        cases l with
        | nil => have := hr.nil_inv; subst this; exact hv9
        | cons u l =>
          obtain ⟨u', r2, rfl, hu, hr2⟩ := hr.cons_inv
          simp only [oneOrTuple]
          rw [dif_neg (by simp)]
          exact VRel.tuple' rl
    obtain ⟨ρ3, p1, p2, p3⟩ := ren.told g g2 st2 (fun b q1 q2 => win b q1 q2) hv rv
    refine ⟨_, ?_, ρ3, _, rfl, p1, p2, p3⟩
    have run' := run
    simp only [Sem.run_bind, Sem.run_map]
    rw [run]
    rfl
  obtain ⟨⟨rs, hD, hnd, hall⟩, _⟩ := mk'
  have hlv := leaves_ok (P := P) (fn := fn.fn) (tmps := a'.tmps) g.known hr rs w' hnd hall sr'.g st'
  rw [← hD, ← sr'.d] at hlv
  rcases hx with hx | hx
  · rw [hx]; exact hlv
  · rw [hx]; exact hlv
theorem Good.opened {ρ : Map} {h : Heap} {w : World} (g : Good K ρ h w) {m : Nat} {i : Info} {es : List MapEntry} (hi : ρ m = some i) (hg : h.get m = some (.umap es)) : ∃ es2 c, UPerm es es2 c ∧ Good K ρ (h.set m (.map es2 c)) w := by
  obtain ⟨es2, c, u, es', h1, h2⟩ := g.rel _ _ _ hi hg
  have hne : ∀ {b}, b ≠ m → (h.set m (.map es2 c)).get b = h.get b := fun hb => get_set_ne hb
  have pres : ∀ b, (h.set m (.map es2 c)).get b ≠ none → h.get b ≠ none := fun b hb => by
    by_cases e : b = m
    · rw [e, hg]; simp
    · rw [hne e] at hb; exact hb
  have hlt : m < h.next := Nat.lt_of_not_le fun hx => by rw [g.fresh m hx] at hg; cases hg
  refine ⟨es2, c, u, ⟨{ rel := fun b j o hb ho => ?_, inj := fun b d j k hb hd pb pd => g.inj b d j k hb hd (pres b pb) (pres d pd), lt := g.lt, fresh := fun b hb => ?_, ro := fun b j o hb ho hr => ?_ }, g.known⟩⟩
  · by_cases e : b = m
    · rw [e, get_set_same] at ho
      cases ho
      rw [e, hi] at hb
      cases hb
      exact ⟨es', h1, h2⟩
    · rw [hne e] at ho; exact g.rel b j o hb ho
  · have hb : h.next ≤ b := hb
    rw [hne (by omega)]; exact g.fresh b hb
  · by_cases e : b = m
    · have := g.ro m j (.umap es) (by rw [← e]; exact hb) hg hr
      cases this
    · rw [hne e] at ho; exact g.ro b j o hb ho hr
theorem Post.shut {ρ : Map} {h h' : Heap} {w : World} {v : Value} {m : Nat} {i : Info} {es es2 : List MapEntry} {c : Nat} (hi : ρ m = some i) (hg : h.get m = some (.umap es)) (hg' : h'.get m = some (.umap es)) (u : UPerm es es2 c) {e : Ending} {w' : World}
    (p : Post K ρ (h.set m (.map es2 c)) w v (h'.set m (.map es2 c)) e w') : Post K ρ h w v h' e w' := by
  obtain ⟨ρ', v', rfl, rv, g, s⟩ := p
  have hi' : ρ' m = some i := s.ext _ _ hi
  have hne : ∀ {b}, b ≠ m → (h'.set m (.map es2 c)).get b = h'.get b := fun hb => get_set_ne hb
  have hne0 : ∀ {b}, b ≠ m → (h.set m (.map es2 c)).get b = h.get b := fun hb => get_set_ne hb
  have hm : (h'.set m (.map es2 c)).get m = some (.map es2 c) := get_set_same _ _ _
  have hm0 : (h.set m (.map es2 c)).get m = some (.map es2 c) := get_set_same _ _ _
  have pres : ∀ b, h'.get b ≠ none → (h'.set m (.map es2 c)).get b ≠ none := fun b hb => by
    by_cases e : b = m
    · rw [e, hm]; simp
    · rw [hne e]; exact hb
  have pres0 : ∀ b, (h.set m (.map es2 c)).get b ≠ none → h.get b ≠ none := fun b hb => by
    by_cases e : b = m
    · rw [e, hg]; simp
    · rw [hne0 e] at hb; exact hb
  refine ⟨ρ', v', rfl, rv, ⟨{ rel := fun b j o hb ho => ?_, inj := fun b d j k hb hd pb pd => g.inj b d j k hb hd (pres b pb) (pres d pd), lt := g.lt, fresh := fun b hb => ?_, ro := fun b j o hb ho hr => ?_ }, g.known⟩,
    { ext := s.ext, dom := s.dom, win := s.win, next := s.next, vframe := fun b hb h0 => ?_, dead := fun b hb h0 => ?_, grow := s.grow, rframe := fun r hr hq => s.rframe r hr fun b j hb hp => hq b j hb (pres0 b hp), fromN := fun b j h0 hb => ?_, side := s.side }⟩
  · by_cases e : b = m
    · rw [e, hg'] at ho
      cases ho
      rw [e] at hb
      obtain ⟨es', h1, h2⟩ := g.rel m j (.map es2 c) hb hm
      exact ⟨es2, c, u, es', h1, h2⟩
    · exact g.rel b j o hb (by rw [hne e]; exact ho)
  · have := g.fresh b hb
    by_cases e : b = m
    · rw [e, hm] at this; cases this
    · rw [hne e] at this; exact this
  · by_cases e : b = m
    · have := g.ro m j (.map es2 c) (by rw [← e]; exact hb) hm hr
      cases this
    · exact g.ro b j o hb (by rw [hne e]; exact ho) hr
  · have hb2 : b ≠ m := fun e => by rw [e, hi] at h0; cases h0
    have := s.vframe b hb h0
    rw [hne hb2, hne0 hb2] at this
    exact this
  · have hb2 : b ≠ m := fun e => by rw [e, hg] at h0; cases h0
    have := s.dead b hb (by rw [hne0 hb2]; exact h0)
    rw [hne hb2] at this
    exact this
  · obtain ⟨q1, q2⟩ := s.fromN b j h0 hb
    refine ⟨q1, q2.imp (fun x => x) fun ⟨d, k, c1, c2, c3, c4, c5⟩ => ⟨d, k, c1, pres0 d c2, c3, ?_, c5⟩⟩
    have hd : d ≠ m := fun e => by rw [e, hm] at c4; cases c4
    rw [hne hd] at c4
    exact c4
end Go.Vi
namespace Go.Vi
variable {K : Known} {P : Program} {E : Env}
def HR (K : Known) (P : Program) (N n : Nat) (c : Code) (ρ : Fr) (h : Heap) (S : Qt) : Prop := ∀ t, FB n ρ t → SR K P N c (t, h) fun x s' => ∃ ρ', FB n ρ' s'.1 ∧ S x ρ' s'.2
theorem HR.mono {N n : Nat} {c : Code} {ρ : Fr} {h : Heap} {S S' : Qt} (r : HR K P N n c ρ h S) (q : ∀ x ρ' h', S x ρ' h' → S' x ρ' h') : HR K P N n c ρ h S' :=
  fun t b => (r t b).mono fun x s' ⟨ρ', h1, h2⟩ => ⟨ρ', h1, q x ρ' s'.2 h2⟩
structure CdOk (n : Nat) (pl : Nat → Option Plan) (c : Code) : Prop where
  chk : codeChk n c = true
  ok : codeOk c = true
  plan : planOk pl c = true
theorem hr_det (ok : EnvOk K P E) {N n : Nat} {pl : Nat → Option Plan} {c : Code} {ρ : Fr} {h : Heap} {S : Qt} (k : CdOk n pl c) (r : R E (hc n pl c) ρ h fun x ρ' h' => h'.next ≤ N ∧ S x ρ' h') : HR K P N n c ρ h S := by
  intro t b
  obtain ⟨m, x, ρ', h', hs, hn, q⟩ := r
  obtain ⟨t', hv, b'⟩ := code_H c _ _ _ _ _ _ k.chk b hs
  exact sr_det ok hv k.ok k.plan hn ⟨ρ', b', q⟩
theorem hr_seq {N n : Nat} {a b : Code} {ρ : Fr} {h : Heap} {S : Qt} (r : HR K P N n a ρ h fun x ρ1 h1 => match x with | .normal => HR K P N n b ρ1 h1 S | x => S x ρ1 h1) : HR K P N n (.seq a b) ρ h S := by
  intro t bt
  refine sr_seq ((r t bt).mono ?_)
  rintro x s1 ⟨ρ1, b1, q⟩
  cases x with
  | normal => exact (q : HR K P N n b ρ1 s1.2 S) s1.1 b1
  | exit i => exact ⟨ρ1, b1, q⟩
  | ret => exact ⟨ρ1, b1, q⟩
theorem hr_block {N n id : Nat} {b : Code} {ρ : Fr} {h : Heap} {S : Qt} (r : HR K P N n b ρ h (blockQ id S)) : HR K P N n (.block id b) ρ h S := by
  intro t bt
  refine sr_block ((r t bt).mono ?_)
  rintro x s1 ⟨ρ1, b1, q⟩
  cases x with
  | normal => exact ⟨ρ1, b1, q⟩
  | ret => exact ⟨ρ1, b1, q⟩
  | exit i =>
    show if i = id then _ else _
    unfold blockQ at q
    simp only at q
    by_cases hi : i = id
    · rw [if_pos hi] at q ⊢; exact ⟨ρ1, b1, q⟩
    · rw [if_neg hi] at q ⊢; exact ⟨ρ1, b1, q⟩
theorem hr_loop {N n : Nat} {b : Code} {S : Qt} (I : Nat → Fr → Heap → Prop)
    (hb : ∀ k ρ h, I k ρ h → HR K P N n b ρ h fun x ρ' h' => match x with | .normal => ∃ m, m < k ∧ I m ρ' h' | x => S x ρ' h') {k : Nat} {ρ : Fr} {h : Heap} (hi : I k ρ h) : HR K P N n (.loop b) ρ h S := by
  intro t bt
  refine sr_loop (fun k s => ∃ ρ, FB n ρ s.1 ∧ I k ρ s.2) (fun k s ⟨ρ, b1, q⟩ => ?_) ⟨ρ, bt, hi⟩
  refine (hb k ρ s.2 q s.1 b1).mono ?_
  rintro x s1 ⟨ρ1, b2, q⟩
  cases x with
  | normal => obtain ⟨m, hm, q⟩ := q; exact ⟨m, hm, ρ1, b2, q⟩
  | exit i => exact ⟨ρ1, b2, q⟩
  | ret => exact ⟨ρ1, b2, q⟩
theorem mapL {l : List SOp} {N : Nat} {S : Fr → Heap → Prop} {d : Tmp} {ρ : Fr} : ∀ {Lc : List (Value × Heap)}, (∀ p ∈ Lc, L E l (up ρ d p.1) p.2 fun _ ρ' h' => h'.next ≤ N ∧ S ρ' h') → ∃ m, ∀ p ∈ Lc, ∃ ρ' h', opsH E (callV E m) l (up ρ d p.1) p.2 = some (ρ', h') ∧ h'.next ≤ N ∧ S ρ' h'
  | [], _ => ⟨0, fun _ h => nomatch h⟩
  | p :: r, hall => by
    obtain ⟨m1, ρ1, h1, q1, q2, q3⟩ := hall p List.mem_cons_self
    obtain ⟨m2, hm2⟩ := mapL fun q hq => hall q (List.mem_cons_of_mem _ hq)
    refine ⟨max m1 m2, fun q hq => ?_⟩
    rcases List.mem_cons.1 hq with rfl | hq
    · exact ⟨ρ1, h1, opsH_mono (callV_mono E (Nat.le_max_left _ _)) _ _ _ _ q1, q2, q3⟩
    · obtain ⟨ρ', h', q4, q5, q6⟩ := hm2 q hq
      exact ⟨ρ', h', opsH_mono (callV_mono E (Nat.le_max_right _ _)) _ _ _ _ q4, q5, q6⟩
theorem hr_next (ok : EnvOk K P E) {N n id : Nat} {pl : Nat → Option Plan} {ops : Array Oper} {d : Tmp} {it : Operand} {ty : TypeId} {l : List SOp} {ρ : Fr} {h : Heap} {S : Qt} (hd : hc n pl (.region id ops false) = .list (⟨some d, .next it false, ty, none⟩ :: l)) (k : CdOk n pl (.region id ops false))
    {Lc : List (Value × Heap)} (hL : nextO (evH ρ it) h = some Lc) (hall : ∀ p ∈ Lc, L E l (up ρ d p.1) p.2 fun _ ρ' h' => h'.next ≤ N ∧ S .normal ρ' h') : HR K P N n (.region id ops false) ρ h S := by
  intro t bt
  have hd : HC.list (ops.toList.map (slim ops)) = .list (⟨some d, .next it false, ty, none⟩ :: l) := hd
  have hd := HC.list.inj hd
  obtain ⟨m, hm⟩ := mapL hall
  cases ho : ops.toList with
  | nil => rw [ho] at hd; cases hd
  | cons o r =>
    rw [ho, List.map_cons] at hd
    obtain ⟨h1, h2⟩ := List.cons.inj hd
    have hdst : o.dst = some d := congrArg SOp.d h1
    have hop : o.op = .next it false := congrArg SOp.op h1
    have hg : o.guard = none := by
      have := congrArg SOp.g h1
      simp only [slim] at this
      exact Option.map_eq_none_iff.1 this
    have kc := k.chk
    unfold codeChk at kc
    rw [ho, List.map_cons, List.all_cons, Bool.and_eq_true, h1] at kc
    have hit : operOk n it = true := by
      have h3 := kc.1
      unfold sopOk at h3
      rw [Bool.and_eq_true, Bool.and_eq_true] at h3
      have h4 : (#[it] : Array Operand).toList.all (operOk n) = true := h3.1.1
      simpa using h4
    refine sr_next (n := m) (pl := none) ok ho hop hg k.ok (by rw [← bt.ev hit]; exact hL) fun p hp => ?_
    obtain ⟨ρ', h', q1, q2, q3⟩ := hm p hp
    obtain ⟨t', q4, q5⟩ := ops_H l _ _ _ _ _ (by rw [← h2]; exact kc.2) (bt.put (some d) p.1) q1
    refine ⟨(t', h'), ?_, q2, ρ', q5, q3⟩
    rw [ops_slim, h2, hdst]
    exact q4
theorem hr_cond {N n : Nat} {pl : Nat → Option Plan} {c : Operand} {a b : Code} {ρ : Fr} {h : Heap} {S : Qt} (k : CdOk n pl (.cond c a b)) (r : (evH ρ c = .bool true ∧ HR K P N n a ρ h S) ∨ (evH ρ c = .bool false ∧ HR K P N n b ρ h S)) : HR K P N n (.cond c a b) ρ h S := by
  intro t bt
  have kc := k.chk
  unfold codeChk at kc
  rw [Bool.and_eq_true, Bool.and_eq_true] at kc
  rcases r with ⟨hv, r⟩ | ⟨hv, r⟩
  · exact sr_cond k.ok (.inl ⟨by rw [← bt.ev kc.1.1]; exact hv, r t bt⟩)
  · exact sr_cond k.ok (.inr ⟨by rw [← bt.ev kc.1.1]; exact hv, r t bt⟩)
def mitOf (m c : Nat) (vs : List MapEntry) : Blk := .mit (some m) c (vs.map (·.born)) c
structure Part (es vs : List MapEntry) : Prop where
  sub : ∀ e ∈ vs, e ∈ es
  nodup : (vs.map (·.born)).Nodup
theorem Part.nil (es : List MapEntry) : Part es [] := ⟨(fun _ h => nomatch h), List.nodup_nil⟩
theorem next_part {h : Heap} {r m c : Nat} {es vs : List MapEntry} (hr : h.get r = some (mitOf m c vs)) (hm : h.get m = some (.map es c)) (hb : ∀ e ∈ es, e.born < c) (hp : Part es vs) (hn : (es.map (·.born)).Nodup) :
    ∃ Lc, nextO (.pointer (some ⟨r, 0, none⟩)) h = some Lc ∧ ∀ p ∈ Lc, (∃ e ∈ es, Part es (vs ++ [e]) ∧ p = (.tuple #[.bool true, e.key, e.val], h.set r (mitOf m c (vs ++ [e])))) ∨ (p = (.tuple #[.bool false], h) ∧ ∀ e ∈ es, e ∈ vs) := by
  have hsup : (!(vs.map (·.born)).isEmpty && !es.isEmpty && es.all (fun e => decide (e.born ≥ c))) = false := by
    cases es with
    | nil => simp
    | cons a l =>
      have := hb a List.mem_cons_self
      have h1 : decide (a.born ≥ c) = false := decide_eq_false (by omega)
      simp only [List.all_cons, h1, Bool.false_and, Bool.and_false]
  refine ⟨_, by unfold nextO; simp only [hr, mitOf, hm, hsup]; rfl, fun p hp2 => ?_⟩
  obtain ⟨o, ho, rfl⟩ := List.mem_map.1 hp2
  have hold : oldOf (leftOf es (vs.map (·.born))) c = leftOf es (vs.map (·.born)) := by
    unfold oldOf
    rw [List.filter_eq_self]
    intro e he
    exact decide_eq_true (hb e ((List.mem_filter.1 he).1))
  have hnew : newOf (leftOf es (vs.map (·.born))) c = [] := by
    unfold newOf
    rw [List.filter_eq_nil_iff]
    intro e he hx
    have := hb e ((List.mem_filter.1 he).1)
    have := of_decide_eq_true hx
    omega
  unfold candsOf at ho
  rw [hold, hnew, List.append_nil] at ho
  rcases List.mem_append.1 ho with ho | ho
  · split at ho
    · rename_i hemp
      rw [List.mem_singleton] at ho
      subst ho
      refine .inr ⟨rfl, fun e he => ?_⟩
      rw [List.isEmpty_iff] at hemp
      unfold leftOf at hemp
      rw [List.filter_eq_nil_iff] at hemp
      have := hemp e he
      simp only [Bool.not_eq_true', Bool.not_eq_false, List.contains_iff_mem] at this
      obtain ⟨x, hx, hxe⟩ := List.mem_map.1 (by simpa using this : e.born ∈ vs.map (·.born))
      have hxs := hp.sub x hx
      have : x = e := by
        obtain ⟨i, hi⟩ := List.getElem?_of_mem hxs
        obtain ⟨j, hj⟩ := List.getElem?_of_mem he
        have hi2 : (es.map (·.born))[i]? = some x.born := by rw [List.getElem?_map, hi]; rfl
        have hj2 : (es.map (·.born))[j]? = some e.born := by rw [List.getElem?_map, hj]; rfl
        have hij : i = j := by
          obtain ⟨li, ei⟩ := List.getElem?_eq_some_iff.1 hi2
          obtain ⟨lj, ej⟩ := List.getElem?_eq_some_iff.1 hj2
          have hpw := List.pairwise_iff_getElem.1 hn
          rcases Nat.lt_trichotomy i j with q | q | q
          · exact absurd (by rw [ei, ej, hxe]) (hpw i j li lj q)
          · exact q
          · exact absurd (by rw [ei, ej, hxe]) (hpw j i lj li q)
        rw [hij, hj] at hi
        exact (Option.some.inj hi).symm
      rw [← this]
      exact hx
    · cases ho
  · obtain ⟨e, he, rfl⟩ := List.mem_map.1 ho
    have he2 := List.mem_filter.1 he
    refine .inl ⟨e, he2.1, ⟨fun x hx => ?_, ?_⟩, ?_⟩
    · rcases List.mem_append.1 hx with hx | hx
      · exact hp.sub x hx
      · rw [List.mem_singleton] at hx; rw [hx]; exact he2.1
    · rw [List.map_append, List.nodup_append]
      refine ⟨hp.nodup, by simp, fun a ha b hb => ?_⟩
      simp at hb
      subst hb
      intro hab
      have := he2.2
      simp only [Bool.not_eq_true', List.contains_eq_mem, decide_eq_false_iff_not] at this
      exact this (by rw [← hab]; exact ha)
    · simp only [mitOf, List.map_append, List.map_cons, List.map_nil]
end Go.Vi
namespace Go.Vi
variable {K : Known} {P : Program} {E : Env}
theorem filter_lt {α : Type} {p q : α → Bool} : ∀ {l : List α}, (∀ x ∈ l, q x = true → p x = true) → (∃ x ∈ l, p x = true ∧ q x = false) → (l.filter q).length < (l.filter p).length
  | [], _, ⟨_, h, _⟩ => nomatch h
  | a :: l, hpq, ⟨x, hx, h1, h2⟩ => by
    have le : (l.filter q).length ≤ (l.filter p).length := by
      clear hx h1 h2
      have : ∀ l' : List α, (∀ x ∈ l', q x = true → p x = true) → (l'.filter q).length ≤ (l'.filter p).length := by
        intro l'
        induction l' with
        | nil => intro _; exact Nat.le_refl _
        | cons b l' ih =>
          intro h
          have ih := ih fun x hx => h x (List.mem_cons_of_mem _ hx)
          have hb := h b List.mem_cons_self
          rw [List.filter_cons, List.filter_cons]
          cases hq : q b with
          | true => rw [hb hq]; simp only [if_true, List.length_cons]; omega
          | false =>
            cases p b <;> simp only [if_true, if_false, Bool.false_eq_true, List.length_cons] <;> omega
      exact this l fun x hx => hpq x (List.mem_cons_of_mem _ hx)
    rw [List.filter_cons, List.filter_cons]
    rcases List.mem_cons.1 hx with rfl | hx
    · rw [h1, h2]
      simp only [if_true, Bool.false_eq_true, if_false, List.length_cons]
      omega
    · have ih := filter_lt (fun x hx => hpq x (List.mem_cons_of_mem _ hx)) ⟨x, hx, h1, h2⟩
      have ha := hpq a List.mem_cons_self
      cases hq : q a with
      | true => rw [ha hq]; simp only [if_true, List.length_cons]; omega
      | false => cases p a <;> simp only [if_true, if_false, Bool.false_eq_true, List.length_cons] <;> omega
def leftN (es vs : List MapEntry) : Nat := (es.filter fun x => !(vs.map (·.born)).contains x.born).length
theorem leftN_lt {es vs : List MapEntry} {e : MapEntry} (he : e ∈ es) (hp : Part es (vs ++ [e])) : leftN es (vs ++ [e]) < leftN es vs := by
  refine filter_lt (fun x _ hx => ?_) ⟨e, he, ?_, ?_⟩
  · simp only [List.map_append, List.map_cons, List.map_nil, Bool.not_eq_true', List.contains_eq_mem, decide_eq_false_iff_not, List.mem_append, not_or] at hx ⊢
    exact hx.1
  · simp only [Bool.not_eq_true', List.contains_eq_mem, decide_eq_false_iff_not]
    intro hm
    have := hp.nodup
    rw [List.map_append, List.nodup_append] at this
    exact this.2.2 _ hm e.born (by simp) rfl
  · simp only [Bool.not_eq_false', List.contains_eq_mem, decide_eq_true_eq, List.map_append, List.map_cons, List.map_nil, List.mem_append, List.mem_singleton]
    exact .inr trivial
theorem hr_range (ok : EnvOk K P E) {N n id0 x0 : Nat} {pl : Nat → Option Plan} {ops : Array Oper} {d1 d2 : Tmp} {it : Operand} {ty1 ty2 : TypeId} {body : Code} {ρ : Fr} {h : Heap} {S : Qt}
    (hd : hc n pl (.region id0 ops false) = .list [⟨some d1, .next it false, ty1, none⟩, ⟨some d2, .extract (.tmp d1) 0, ty2, none⟩]) (k1 : CdOk n pl (.region id0 ops false)) (k2 : CdOk n pl (.cond (.tmp d2) .skip (.exit x0)))
    {r m c : Nat} {es : List MapEntry} (hb : ∀ e ∈ es, e.born < c) (hn : (es.map (·.born)).Nodup) (I : List MapEntry → Fr → Heap → Prop)
    (hI : ∀ vs ρ h, I vs ρ h → evH ρ it = .pointer (some ⟨r, 0, none⟩) ∧ h.get r = some (mitOf m c vs) ∧ h.get m = some (.map es c) ∧ h.next ≤ N)
    (step : ∀ vs e ρ h, Part es (vs ++ [e]) → e ∈ es → I vs ρ h → HR K P N n body (up (up ρ d1 (.tuple #[.bool true, e.key, e.val])) d2 (.bool true)) (h.set r (mitOf m c (vs ++ [e]))) fun x ρ' h' => match x with | .normal => I (vs ++ [e]) ρ' h' | x => S x ρ' h')
    (done : ∀ vs ρ h, Part es vs → (∀ e ∈ es, e ∈ vs) → I vs ρ h → S (.exit x0) (up (up ρ d1 (.tuple #[.bool false])) d2 (.bool false)) h) (init : I [] ρ h) :
    HR K P N n (.loop (.seq (.region id0 ops false) (.seq (.cond (.tmp d2) .skip (.exit x0)) body))) ρ h S := by
  refine hr_loop (fun k ρ h => ∃ vs, Part es vs ∧ k = leftN es vs ∧ I vs ρ h) (fun k ρ h ⟨vs, hp, hk, hi⟩ => ?_) ⟨[], Part.nil es, rfl, init⟩
  obtain ⟨q1, q2, q3, q4⟩ := hI vs ρ h hi
  obtain ⟨Lc, hL, hall⟩ := next_part q2 q3 hb hp hn
  refine hr_seq ?_
  have hself : ∀ (σ : Fr) (v : Value), evH (up σ d2 v) (.tmp d2) = v := fun σ v => by
    show up σ d2 v d2 = v
    unfold up
    simp
  have hself1 : ∀ (σ : Fr) (v : Value), evH (up σ d1 v) (.tmp d1) = v := fun σ v => by
    show up σ d1 v d1 = v
    unfold up
    simp
  refine hr_next ok hd k1 (by rw [q1]; exact hL) fun p hp2 => ?_
  rcases hall p hp2 with ⟨e, he, hpe, rfl⟩ | ⟨rfl, hev⟩
  · refine ⟨0, up (up ρ d1 (.tuple #[.bool true, e.key, e.val])) d2 (.bool true), h.set r (mitOf m c (vs ++ [e])), ?_, q4, ?_⟩
    · unfold opsH
      simp only [wantH, if_true]
      rw [se_extract, hself1]
      rfl
    · refine hr_seq ?_
      refine hr_cond k2 (.inl ⟨hself _ _, ?_⟩)
      intro t bt
      refine sr_det ok (n := 0) (pl := pl) (fuel := 0) (x := .normal) (s' := (t, _)) rfl rfl rfl q4 ⟨_, bt, ?_⟩
      refine (step vs e ρ h hpe he hi).mono fun x ρ' h' hx => ?_
      cases x with
      | normal => exact ⟨_, by rw [hk]; exact leftN_lt he hpe, vs ++ [e], hpe, rfl, hx⟩
      | exit i => exact hx
      | ret => exact hx
  · refine ⟨0, up (up ρ d1 (.tuple #[.bool false])) d2 (.bool false), h, ?_, q4, ?_⟩
    · unfold opsH
      simp only [wantH, if_true]
      rw [se_extract, hself1]
      rfl
    · refine hr_seq ?_
      refine hr_cond k2 (.inr ⟨hself _ _, ?_⟩)
      intro t bt
      exact sr_det ok (n := 0) (pl := pl) (fuel := 0) (x := .exit x0) (s' := (t, h)) rfl rfl rfl q4 ⟨_, bt, done vs ρ h hp hev hi⟩
end Go.Vi
namespace Go.Vi
inductive RS where
  | nil
  | empty
  | row (n : Nat) (l : List Value)
def RS.size : RS → Nat
  | .nil => 0
  | .empty => 1
  | .row _ _ => 2
def RS.val (b : Nat) : RS → Value
  | .nil => .slice none 0 0
  | .empty => .slice (some ⟨b, 0, none⟩) 0 0
  | .row n _ => .slice (some ⟨b + 1, 0, none⟩) n n
def RS.blks (z elem : Nat) : RS → List Blk
  | .nil => []
  | .empty => [.cells [] true none]
  | .row _ l => [.cells [] true none, .cells l true (some (z, elem))]
def isInt : Value → Bool
  | .int _ _ => true
  | _ => false
def RS.ok : RS → Bool
  | .row _ l => l.all isInt
  | _ => true
theorem RS.len (z elem : Nat) (s : RS) : (s.blks z elem).length = s.size := by cases s <;> rfl
theorem ints_vr {τ : Nat → Nat} {l : List Value} (h : l.all isInt = true) : VRs τ l l := ⟨rfl, fun j h1 _ => by
  have := List.all_eq_true.1 h l[j] (List.getElem_mem h1)
  cases hv : l[j] <;> rw [hv] at this <;> first | exact .int _ _ | cases this⟩
theorem RS.vr {τ : Nat → Nat} {b c : Nat} : ∀ (s : RS), (∀ j, j < s.size → τ (c + j) = b + j) → VR τ (s.val c) (s.val b)
  | .nil, _ => .slice0
  | .empty, h => by
    have h0 := h 0 (by decide)
    rw [Nat.add_zero, Nat.add_zero] at h0
    unfold RS.val
    rw [← h0]
    exact .slice c 0 0 0
  | .row n l, h => by
    have h1 := h 1 (Nat.lt_succ_self 1)
    unfold RS.val
    rw [← h1]
    exact .slice (c + 1) 0 n n
theorem RS.br {τ : Nat → Nat} {z elem : Nat} (s : RS) (ho : s.ok = true) : ∀ o ∈ s.blks z elem, BR τ o o := fun o hm => by
  have h0 : BR τ (.cells [] true none) (.cells [] true none) := ⟨[], rfl, rfl, fun j h => absurd h (by simp)⟩
  cases s with
  | nil => cases hm
  | empty => simp only [RS.blks, List.mem_singleton] at hm; rw [hm]; exact h0
  | row n l =>
    simp only [RS.blks, List.mem_cons, List.mem_nil_iff, or_false] at hm
    rcases hm with rfl | rfl
    · exact h0
    · exact ⟨l, rfl, ints_vr ho⟩
structure OS where
  b : RS
  m : Option (List MapEntry × Nat)
  x : RS
def OS.mSize (s : OS) : Nat := match s.m with | none => 0 | some _ => 1
def OS.size (s : OS) : Nat := s.b.size + s.mSize + s.x.size + 1
def OS.mVal (s : OS) (b : Nat) : Value := match s.m with | none => .map none | some _ => .map (some b)
def OS.mBlk (s : OS) : List Blk := match s.m with | none => [] | some (es, c) => [.map es c]
def OS.cells (s : OS) (b : Nat) : List Value := [s.b.val b, s.mVal (b + s.b.size), s.x.val (b + s.b.size + s.mSize)]
def OS.blks (tb te : TypeId) (s : OS) (b : Nat) : List Blk := s.b.blks 1 tb ++ s.mBlk ++ s.x.blks 2 te ++ [.cells (s.cells b) true none]
def OS.ptr (s : OS) (b : Nat) : Value := .pointer (some ⟨b + s.b.size + s.mSize + s.x.size, 0, none⟩)
theorem OS.mLen (s : OS) : s.mBlk.length = s.mSize := by unfold OS.mBlk OS.mSize; cases s.m <;> rfl
theorem OS.len (tb te : TypeId) (s : OS) (b : Nat) : (s.blks tb te b).length = s.size := by
  unfold OS.blks OS.size
  simp only [List.length_append, RS.len, OS.mLen, List.length_cons, List.length_nil]
theorem RS.size_le (s : RS) : s.size ≤ 2 := by cases s <;> simp [RS.size]
theorem OS.size_le (s : OS) : s.size ≤ 6 := by
  have h1 := s.b.size_le
  have h2 := s.x.size_le
  have h3 : s.mSize ≤ 1 := by unfold OS.mSize; cases s.m <;> simp
  unfold OS.size
  omega
def oldV (n : Nat) : Value → Bool
  | .string _ => true
  | .int _ _ => true
  | .slice none 0 0 => true
  | .slice (some ⟨0, 0, some 0⟩) 0 0 => true
  | .slice (some ⟨b, _, none⟩) _ _ => decide (b < n)
  | _ => false
theorem oldV_vr {τ : Nat → Nat} {n : Nat} (hτ : ∀ b, b < n → τ b = b) {v : Value} (h : oldV n v = true) : VR τ v v := by
  unfold oldV at h
  split at h
  · exact .string _
  · exact .int _ _
  · exact .slice0
  · exact .sliceE
  · rename_i b o _ _
    have := VR.slice (τ := τ) b o
    rw [hτ b (of_decide_eq_true h)] at this
    exact this _ _
  · cases h
def OS.ok (n : Nat) (s : OS) : Bool := s.b.ok && s.x.ok && (match s.m with | none => true | some (es, _) => es.all fun e => oldV n e.key && oldV n e.val)
theorem OS.vr {τ : Nat → Nat} {b c : Nat} (s : OS) (h : ∀ j, j < s.size → τ (c + j) = b + j) : VR τ (s.ptr c) (s.ptr b) := by
  have h1 := h (s.b.size + s.mSize + s.x.size) (by unfold OS.size; omega)
  have h2 := VR.ptr (τ := τ) (c + s.b.size + s.mSize + s.x.size) 0
  rw [show c + s.b.size + s.mSize + s.x.size = c + (s.b.size + s.mSize + s.x.size) by omega, h1] at h2
  unfold OS.ptr
  rw [show c + s.b.size + s.mSize + s.x.size = c + (s.b.size + s.mSize + s.x.size) by omega, show b + s.b.size + s.mSize + s.x.size = b + (s.b.size + s.mSize + s.x.size) by omega]
  exact h2
theorem OS.br {τ : Nat → Nat} {n b c : Nat} {tb te : TypeId} (s : OS) (ho : s.ok n = true) (h : ∀ j, j < s.size → τ (c + j) = b + j) (hτ : ∀ b, b < n → τ b = b) :
    ∀ (k : Nat) (o : Blk), (s.blks tb te c)[k]? = some o → ∃ o1, (s.blks tb te b)[k]? = some o1 ∧ BR τ o1 o := by
  unfold OS.ok at ho
  simp only [Bool.and_eq_true] at ho
  obtain ⟨⟨o1, o2⟩, o3⟩ := ho
  have hm : ∀ o ∈ s.mBlk, BR τ o o := fun o hm => by
    unfold OS.mBlk at hm
    split at hm
    · cases hm
    · rename_i es k hk
      rw [List.mem_singleton] at hm
      rw [hm]
      rw [hk] at o3
      refine ⟨es, rfl, rfl, fun j a d ha hd => ?_⟩
      rw [ha] at hd
      cases hd
      have := List.all_eq_true.1 o3 a (List.mem_of_getElem? ha)
      rw [Bool.and_eq_true] at this
      exact ⟨oldV_vr hτ this.1, oldV_vr hτ this.2, rfl⟩
  intro k o hk
  unfold OS.blks at hk ⊢
  have hl : (s.b.blks 1 tb ++ s.mBlk ++ s.x.blks 2 te).length = s.b.size + s.mSize + s.x.size := by simp only [List.length_append, RS.len, OS.mLen]
  rcases Nat.lt_or_ge k (s.b.blks 1 tb ++ s.mBlk ++ s.x.blks 2 te).length with q | q
  · rw [List.getElem?_append_left q] at hk ⊢
    refine ⟨o, hk, ?_⟩
    have := List.mem_of_getElem? hk
    rcases List.mem_append.1 this with this | this
    · rcases List.mem_append.1 this with this | this
      · exact s.b.br o1 o this
      · exact hm o this
    · exact s.x.br o2 o this
  · rw [List.getElem?_append_right q] at hk ⊢
    rw [hl] at hk ⊢
    have hk0 : k - (s.b.size + s.mSize + s.x.size) = 0 := by
      cases hx : k - (s.b.size + s.mSize + s.x.size) with
      | zero => rfl
      | succ x => rw [hx] at hk; simp at hk
    rw [hk0] at hk ⊢
    cases hk
    refine ⟨_, rfl, _, rfl, ?_⟩
    have p1 : VR τ (s.b.val c) (s.b.val b) := s.b.vr fun j hj => h j (by unfold OS.size; omega)
    have p2 : VR τ (s.mVal (c + s.b.size)) (s.mVal (b + s.b.size)) := by
      unfold OS.mVal
      cases hmm : s.m with
      | none => exact .map0
      | some p =>
        have := h s.b.size (by unfold OS.size OS.mSize; rw [hmm]; simp only; omega)
        have h2 := VR.map (τ := τ) (c + s.b.size)
        rw [this] at h2
        exact h2
    have p3 : VR τ (s.x.val (c + s.b.size + s.mSize)) (s.x.val (b + s.b.size + s.mSize)) := s.x.vr fun j hj => by
      have := h (s.b.size + s.mSize + j) (by unfold OS.size; omega)
      rw [show c + s.b.size + s.mSize + j = c + (s.b.size + s.mSize + j) by omega, this]
      omega
    refine ⟨rfl, fun j h1 h2 => ?_⟩
    match j, h1 with
    | 0, _ => exact p1
    | 1, _ => exact p2
    | 2, _ => exact p3
end Go.Vi
namespace Go.Vi
def layA : Heap → Nat → List Blk → Heap
  | h, _, [] => h
  | h, b, o :: r => layA (h.set b o) (b + 1) r
theorem layA_get : ∀ (l : List Blk) (h : Heap) (b y : Nat), (layA h b l).get y = if b ≤ y ∧ y < b + l.length then l[y - b]? else h.get y
  | [], h, b, y => by rw [if_neg (by rw [List.length_nil]; omega)]; rfl
  | o :: r, h, b, y => by
    rw [layA, layA_get r]
    simp only [List.length_cons]
    rcases Nat.lt_trichotomy y b with q | q | q
    · rw [if_neg (by omega), if_neg (by omega), get_set_ne (by omega)]
    · subst q
      rw [if_neg (by omega), if_pos (by omega), get_set_same, Nat.sub_self]
      rfl
    · by_cases q2 : y < b + (r.length + 1)
      · rw [if_pos (by omega), if_pos (by omega), show y - b = (y - (b + 1)) + 1 by omega]
        rfl
      · rw [if_neg (by omega), if_neg (by omega), get_set_ne (by omega)]
def canonO (tb te : TypeId) : Heap → Nat → List OS → Heap
  | h, _, [] => h
  | h, c, s :: r => canonO tb te (layA h c (s.blks tb te c)) (c + 6) r
theorem canonO_get (tb te : TypeId) : ∀ (l : List OS) (h : Heap) (c y : Nat), (canonO tb te h c l).get y = if c ≤ y then match l[(y - c) / 6]? with
    | some s => if (y - c) % 6 < s.size then (s.blks tb te (c + 6 * ((y - c) / 6)))[(y - c) % 6]? else h.get y
    | none => h.get y else h.get y
  | [], h, c, y => by simp [canonO]
  | s :: r, h, c, y => by
    have h6 := s.size_le
    rw [canonO, canonO_get tb te r, layA_get, OS.len]
    by_cases q : c ≤ y
    · rw [if_pos q]
      by_cases q2 : c + 6 ≤ y
      · rw [if_pos q2, if_neg (by omega), show (y - c) / 6 = (y - (c + 6)) / 6 + 1 by omega, List.getElem?_cons_succ, show (y - (c + 6)) % 6 = (y - c) % 6 by omega, show c + 6 + 6 * ((y - (c + 6)) / 6) = c + 6 * ((y - (c + 6)) / 6 + 1) by omega]
      · rw [if_neg q2, show (y - c) / 6 = 0 by omega, show (y - c) % 6 = y - c by omega]
        simp only [List.getElem?_cons_zero, Nat.mul_zero, Nat.add_zero]
        by_cases q3 : y - c < s.size
        · rw [if_pos (by omega), if_pos q3]
        · rw [if_neg (by omega), if_neg q3]
    · rw [if_neg q, if_neg (by omega), if_neg (by omega)]
def tauC (n0 n : Nat) (bOf : Nat → Nat) (y : Nat) : Nat := if n0 ≤ y ∧ y < n0 + 6 * n then bOf ((y - n0) / 6) + (y - n0) % 6 else y
def canonC (tb te : TypeId) (h : Heap) (pre : List Blk) (l : List OS) : Heap :=
  { next := h.next + pre.length + 1 + 6 * l.length + 6, tr := (canonO tb te (layA h h.next pre) (h.next + pre.length + 1) l).tr }
theorem canonC_get (tb te : TypeId) (h : Heap) (pre : List Blk) (l : List OS) (y : Nat) : (canonC tb te h pre l).get y = (canonO tb te (layA h h.next pre) (h.next + pre.length + 1) l).get y := rfl
theorem ren_objs {h h1 : Heap} {tb te : TypeId} {pre : List Blk} {l : List OS} {n0 : Nat} {bOf : Nat → Nat} (hn0 : n0 = h.next + pre.length + 1) (hf : ∀ b, h.next ≤ b → h.get b = none)
    (hpre : ∀ k o, pre[k]? = some o → ∃ o1, h1.get (h.next + k) = some o1 ∧ BR (tauC n0 l.length bOf) o1 o) (old1 : ∀ b, b < h.next → h1.get b = h.get b) (q1 : h.next ≤ h1.next) (q2 : h1.next ≤ n0 + 6 * l.length)
    (ok : ∀ s ∈ l, s.ok h.next = true) (placed : ∀ i s, l[i]? = some s → n0 ≤ bOf i ∧ bOf i + s.size ≤ h1.next ∧ ∀ k o, (s.blks tb te (bOf i))[k]? = some o → h1.get (bOf i + k) = some o)
    (disj : ∀ i i' s s', l[i]? = some s → l[i']? = some s' → i ≠ i' → bOf i + s.size ≤ bOf i' ∨ bOf i' + s'.size ≤ bOf i) : Ren h h1 (canonC tb te h pre l) (tauC n0 l.length bOf) := by
  have hin : ∀ y, n0 ≤ y → y < n0 + 6 * l.length → (y - n0) / 6 < l.length := fun y a b => by omega
  have hτ : ∀ y, n0 ≤ y → y < n0 + 6 * l.length → tauC n0 l.length bOf y = bOf ((y - n0) / 6) + (y - n0) % 6 := fun y a b => if_pos ⟨a, b⟩
  have hτn : ∀ y, ¬ (n0 ≤ y ∧ y < n0 + 6 * l.length) → tauC n0 l.length bOf y = y := fun y a => if_neg a
  have hget : ∀ y, (canonC tb te h pre l).get y = if n0 ≤ y then match l[(y - n0) / 6]? with
      | some s => if (y - n0) % 6 < s.size then (s.blks tb te (n0 + 6 * ((y - n0) / 6)))[(y - n0) % 6]? else (layA h h.next pre).get y
      | none => (layA h h.next pre).get y else (layA h h.next pre).get y := fun y => by rw [canonC_get, canonO_get, ← hn0]
  have hlay : ∀ y, n0 ≤ y → (layA h h.next pre).get y = none := fun y a => by rw [layA_get, if_neg (by omega)]; exact hf y (by omega)
  have hobj : ∀ y, n0 ≤ y → (canonC tb te h pre l).get y ≠ none → y < n0 + 6 * l.length ∧ ∃ s, l[(y - n0) / 6]? = some s ∧ (y - n0) % 6 < s.size ∧ (canonC tb te h pre l).get y = (s.blks tb te (n0 + 6 * ((y - n0) / 6)))[(y - n0) % 6]? := fun y a hne => by
    have hg := hget y
    rw [if_pos a] at hg
    cases hs : l[(y - n0) / 6]? with
    | none => rw [hs] at hg; simp only at hg; rw [hlay y a] at hg; exact absurd hg hne
    | some s =>
      rw [hs] at hg
      simp only at hg
      have hlt := (List.getElem?_eq_some_iff.1 hs).1
      by_cases q : (y - n0) % 6 < s.size
      · rw [if_pos q] at hg
        exact ⟨by omega, s, rfl, q, hg⟩
      · rw [if_neg q, hlay y a] at hg; exact absurd hg hne
  exact {
    next := by show h1.next ≤ h.next + pre.length + 1 + 6 * l.length + 6; omega
    next0 := q1
    old := fun b hb => by rw [hget, if_neg (by omega), layA_get, if_neg (by omega)]
    old1 := old1
    same := fun b hb => hτn b (by
      rcases hb with hb | hb
      · omega
      · have hb : h.next + pre.length + 1 + 6 * l.length + 6 ≤ b := hb
        omega)
    win := fun b b1 b2 => by
      have b2 : b < h.next + pre.length + 1 + 6 * l.length + 6 := b2
      show h.next ≤ tauC n0 l.length bOf b ∧ tauC n0 l.length bOf b < h.next + pre.length + 1 + 6 * l.length + 6
      by_cases q : n0 ≤ b ∧ b < n0 + 6 * l.length
      · rw [hτ b q.1 q.2]
        have hlt := hin b q.1 q.2
        obtain ⟨p1, p2, _⟩ := placed _ _ (List.getElem?_eq_getElem hlt)
        omega
      · rw [hτn b q]; omega
    new := fun b b1 o ho => by
      by_cases q : n0 ≤ b
      · obtain ⟨b2, s, hs, hj, hg⟩ := hobj b q (by rw [ho]; simp)
        rw [ho] at hg
        obtain ⟨p1, p2, p3⟩ := placed _ s hs
        have hbr := s.br (tb := tb) (te := te) (n := h.next) (τ := tauC n0 l.length bOf) (b := bOf ((b - n0) / 6)) (c := n0 + 6 * ((b - n0) / 6)) (ok s (List.mem_of_getElem? hs)) (fun j hj2 => by
          have h6 := s.size_le
          have hlt := (List.getElem?_eq_some_iff.1 hs).1
          rw [hτ _ (by omega) (by omega), show (n0 + 6 * ((b - n0) / 6) + j - n0) / 6 = (b - n0) / 6 by omega, show (n0 + 6 * ((b - n0) / 6) + j - n0) % 6 = j by omega]) (fun y hy => hτn y (by omega)) _ o hg.symm
        obtain ⟨o1, h3, h4⟩ := hbr
        exact ⟨o1, by rw [hτ b q b2]; exact p3 _ o1 h3, h4⟩
      · rw [hget, if_neg q, layA_get] at ho
        by_cases q3 : h.next ≤ b ∧ b < h.next + pre.length
        · rw [if_pos q3] at ho
          obtain ⟨o1, h3, h4⟩ := hpre _ o ho
          exact ⟨o1, by rw [hτn b (by omega), show b = h.next + (b - h.next) by omega]; exact h3, h4⟩
        · rw [if_neg q3, hf b b1] at ho; cases ho
    inj := fun b c b1 c1 hb hc he => by
      by_cases q : n0 ≤ b
      · obtain ⟨b2, s, hs, hj, _⟩ := hobj b q hb
        obtain ⟨p1, p2, _⟩ := placed _ s hs
        rw [hτ b q b2] at he
        by_cases r : n0 ≤ c
        · obtain ⟨c2, s', hs', hj', _⟩ := hobj c r hc
          rw [hτ c r c2] at he
          by_cases hii : (b - n0) / 6 = (c - n0) / 6
          · rw [hii] at he
            omega
          · have := disj _ _ s s' hs hs' hii
            omega
        · rw [hτn c (by omega)] at he
          omega
      · rw [hτn b (by omega)] at he
        by_cases r : n0 ≤ c
        · obtain ⟨c2, s', hs', hj', _⟩ := hobj c r hc
          obtain ⟨p1, p2, _⟩ := placed _ s' hs'
          rw [hτ c r c2] at he
          omega
        · rw [hτn c (by omega)] at he
          exact he
    fresh := fun b hb => by
      have hb : h.next + pre.length + 1 + 6 * l.length + 6 ≤ b := hb
      rw [hget, if_pos (by omega), List.getElem?_eq_none (by omega)]
      exact hlay b (by omega) }
end Go.Vi
namespace Go.Vi
def readRS (z : Nat) (h : Heap) : Value → Option RS
  | .slice none 0 0 => some .nil
  | .slice (some ⟨0, 0, some 0⟩) 0 0 => some .empty
  | .slice (some ⟨b, o, none⟩) n _ => if n = 0 then some .empty else if n ≤ 100000000 then match rdN h ⟨b, o, none⟩ (n * z) with
    | some l => if l.all isInt then some (.row n l) else none
    | none => none
    else none
  | _ => none
def readM (n : Nat) (h : Heap) : Value → Option (Option (List MapEntry × Nat))
  | .map none => some none
  | .map (some m) => match h.get m with
    | some (.map es c) => if es.all (fun e => oldV n e.key && oldV n e.val) then some (some (es, c)) else none
    | _ => none
  | _ => none
def readOS (h : Heap) : Value → Option OS
  | .pointer (some ⟨p, 0, none⟩) => match h.get p with
    | some (.cells [bs, am, ex] _ _) => match readRS 1 h bs, readM h.next h am, readRS 2 h ex with
      | some b, some m, some x => some ⟨b, m, x⟩
      | _, _, _ => none
    | _ => none
  | _ => none
def isStr : Value → Bool
  | .string _ => true
  | _ => false
def readAll (h : Heap) : List MapEntry → Option (List OS)
  | [] => some []
  | e :: r => if isStr e.key then match readOS h e.val, readAll h r with
    | some s, some l => some (s :: l)
    | _, _ => none
    else none
def distB : List MapEntry → Bool
  | [] => true
  | e :: r => r.all (fun x => keyEq e.key x.key == some false && !(e.born == x.born)) && distB r
def uniqB (es : List MapEntry) (c : Nat) : Bool := distB es && es.all fun e => decide (e.born < c)
theorem distB_ok : ∀ {es : List MapEntry}, distB es = true → Dist es ∧ (es.map (·.born)).Nodup
  | [], _ => ⟨List.Pairwise.nil, List.nodup_nil⟩
  | e :: r, h => by
    rw [distB, Bool.and_eq_true] at h
    obtain ⟨h1, h2⟩ := distB_ok h.2
    have ha : ∀ x ∈ r, keyEq e.key x.key = some false ∧ e.born ≠ x.born := fun x hx => by
      have := List.all_eq_true.1 h.1 x hx
      rw [Bool.and_eq_true, beq_iff_eq] at this
      exact ⟨this.1, fun q => by have := this.2; rw [q] at this; simp at this⟩
    unfold Dist
    rw [List.map_cons, List.map_cons, List.pairwise_cons, List.nodup_cons]
    refine ⟨⟨fun k hk => ?_, h1⟩, fun hm => ?_, h2⟩
    · obtain ⟨x, hx, rfl⟩ := List.mem_map.1 hk
      exact (ha x hx).1
    · obtain ⟨x, hx, he⟩ := List.mem_map.1 hm
      exact (ha x hx).2 he.symm
theorem uniqB_ok {es : List MapEntry} {c : Nat} (h : uniqB es c = true) : UPerm es es c := by
  unfold uniqB at h
  rw [Bool.and_eq_true] at h
  obtain ⟨h1, h2⟩ := distB_ok h.1
  exact ⟨.refl _, h1, h2, fun e he => of_decide_eq_true (List.all_eq_true.1 h.2 e he)⟩
def entsU (h : Heap) (m : Nat) : Option (List MapEntry) := match h.get m with
  | some (.map es c) => if uniqB es c then some es else none
  | some (.umap es) => some es
  | _ => none
def isBool : Value → Bool
  | .bool _ => true
  | _ => false
def newEnts : List MapEntry → List OS → Nat → List MapEntry
  | e :: r, s :: l, b => { key := e.key, val := s.ptr b, born := 0 } :: newEnts r l (b + 6)
  | _, _, _ => []
def preC (te : TypeId) (N : Nat) (rs : RS) (size : Value) (bl : List Value) (es : List MapEntry) (l : List OS) : List Blk :=
  rs.blks 2 te ++ [.cells [size, rs.val N] true none, .umap (newEnts es l (N + rs.size + 4)), .cells (.pointer (some ⟨N + rs.size, 0, none⟩) :: bl ++ [.map (some (N + rs.size + 1))]) true none]
def copyX (tb te : TypeId) (args : List Value) (h : Heap) : Option (Value × Heap) := match args with
  | [.pointer (some ⟨s, 0, none⟩)] => match h.get s with
    | some (.cells [.pointer (some ⟨sp, 0, none⟩), b0, b1, b2, b3, b4, b5, b6, b7, .map (some mo)] _ _) => match h.get sp with
      | some (.cells [size, ho] _ _) => if [b0, b1, b2, b3, b4, b5, b6, b7].all isBool && isInt size then match readRS 2 h ho, entsU h mo with
          | some rs, some es => match readAll h es with
            | some l => some (.pointer (some ⟨h.next + rs.size + 2, 0, none⟩), canonC tb te h (preC te h.next rs size [b0, b1, b2, b3, b4, b5, b6, b7] es l) l)
            | none => none
          | _, _ => none
        else none
      | _ => none
    | _ => none
  | _ => none
theorem preC_len (te : TypeId) (N : Nat) (rs : RS) (size : Value) (bl : List Value) (es : List MapEntry) (l : List OS) : (preC te N rs size bl es l).length = rs.size + 3 := by
  unfold preC
  rw [List.length_append, RS.len]
  rfl
theorem readAll_get {h : Heap} : ∀ {es : List MapEntry} {l : List OS}, readAll h es = some l → es.length = l.length ∧ ∀ (i : Nat) (e : MapEntry), es[i]? = some e → ∃ s, l[i]? = some s ∧ readOS h e.val = some s ∧ isStr e.key = true
  | [], l, hr => by cases hr; exact ⟨rfl, fun i e h => by simp at h⟩
  | a :: r, l, hr => by
    unfold readAll at hr
    split at hr
    · rename_i hk
      split at hr
      · rename_i s l' hs hl
        cases hr
        obtain ⟨h1, h2⟩ := readAll_get hl
        refine ⟨by simp [h1], fun i e hi => ?_⟩
        cases i with
        | zero => simp at hi; subst hi; exact ⟨s, rfl, hs, hk⟩
        | succ i => obtain ⟨s', h3, h4⟩ := h2 i e (by simpa using hi); exact ⟨s', by simpa using h3, h4⟩
      · cases hr
    · cases hr
theorem readRS_inv {z : Nat} {h : Heap} {v : Value} {s : RS} (hr : readRS z h v = some s) : (v = .slice none 0 0 ∧ s = .nil) ∨ (v = .slice (some ⟨0, 0, some 0⟩) 0 0 ∧ s = .empty) ∨ (∃ b o c, v = .slice (some ⟨b, o, none⟩) 0 c ∧ s = .empty) ∨
    ∃ b o n c l, v = .slice (some ⟨b, o, none⟩) n c ∧ s = .row n l ∧ 0 < n ∧ n ≤ 100000000 ∧ rdN h ⟨b, o, none⟩ (n * z) = some l ∧ l.all isInt = true := by
  unfold readRS at hr
  split at hr
  · cases hr; exact .inl ⟨rfl, rfl⟩
  · cases hr; exact .inr (.inl ⟨rfl, rfl⟩)
  · rename_i _ b o n c
    split at hr
    · rename_i hn
      cases hr
      subst hn
      exact .inr (.inr (.inl ⟨b, o, c, rfl, rfl⟩))
    · rename_i hn
      split at hr
      · rename_i hn2
        split at hr
        · rename_i l hl
          split at hr
          · rename_i hall
            cases hr
            exact .inr (.inr (.inr ⟨b, o, n, c, l, rfl, rfl, Nat.pos_of_ne_zero hn, hn2, hl, hall⟩))
          · cases hr
        · cases hr
      · cases hr
  · cases hr
theorem readRS_ok {z : Nat} {h : Heap} {v : Value} {s : RS} (hr : readRS z h v = some s) : s.ok = true := by
  rcases readRS_inv hr with ⟨_, rfl⟩ | ⟨_, rfl⟩ | ⟨_, _, _, _, rfl⟩ | ⟨_, _, _, _, _, _, rfl, _, _, _, h⟩
  · rfl
  · rfl
  · rfl
  · exact h
theorem readOS_ok {h : Heap} {v : Value} {s : OS} (hr : readOS h v = some s) : s.ok h.next = true := by
  unfold readOS at hr
  split at hr
  · split at hr
    · split at hr
      · rename_i b m x h1 h2 h3
        cases hr
        unfold OS.ok
        simp only [Bool.and_eq_true]
        refine ⟨⟨readRS_ok h1, readRS_ok h3⟩, ?_⟩
        unfold readM at h2
        split at h2
        · cases h2; rfl
        · split at h2
          · split at h2
            · rename_i hall
              cases h2
              exact hall
            · cases h2
          · cases h2
        · cases h2
      · cases hr
    · cases hr
  · cases hr
theorem newEnts_get : ∀ {es : List MapEntry} {l : List OS} {b : Nat}, es.length = l.length → (newEnts es l b).length = es.length ∧ ∀ (i : Nat) (e : MapEntry) (s : OS), es[i]? = some e → l[i]? = some s → (newEnts es l b)[i]? = some { key := e.key, val := s.ptr (b + 6 * i), born := 0 }
  | [], [], b, _ => ⟨rfl, fun i e s h => by simp at h⟩
  | e :: r, s :: l, b, hl => by
    obtain ⟨h1, h2⟩ := newEnts_get (es := r) (l := l) (b := b + 6) (by simpa using hl)
    refine ⟨by simp [newEnts, h1], fun i e' s' hi hs => ?_⟩
    cases i with
    | zero => simp at hi hs; subst hi hs; rfl
    | succ i =>
      have := h2 i e' s' (by simpa using hi) (by simpa using hs)
      rw [newEnts, List.getElem?_cons_succ, this, show b + 6 + 6 * i = b + 6 * (i + 1) by omega]
  | [], _ :: _, _, h => by simp at h
  | _ :: _, [], _, h => by simp at h
end Go.Vi
namespace Go.Vi
structure Laid (h h1 : Heap) (l : List Blk) : Prop where
  next : h1.next = h.next + l.length
  old : ∀ b, b < h.next → h1.get b = h.get b
  new : ∀ k o, l[k]? = some o → h1.get (h.next + k) = some o
  none : (∀ b, h.next ≤ b → h.get b = .none) → ∀ b, h1.next ≤ b → h1.get b = .none
theorem Laid.refl (h : Heap) : Laid h h [] := ⟨rfl, fun _ _ => rfl, (fun k o e => by simp at e), fun h => h⟩
theorem Laid.snoc {h h1 : Heap} {l : List Blk} (x : Laid h h1 l) (o : Blk) : Laid h (h1.new o) (l ++ [o]) := by
  have hn := x.next
  refine ⟨?_, fun b hb => ?_, fun k o' e => ?_, fun hf b hb => ?_⟩
  · show h1.next + 1 = _
    rw [List.length_append, List.length_singleton, hn]; omega
  · rw [get_new_ne (by omega)]; exact x.old b hb
  · rcases Nat.lt_or_ge k l.length with q | q
    · rw [List.getElem?_append_left q] at e
      rw [get_new_ne (by omega)]
      exact x.new k o' e
    · rw [List.getElem?_append_right q] at e
      have : k = l.length := by
        cases hx : k - l.length with
        | zero => omega
        | succ y => rw [hx] at e; simp at e
      subst this
      simp at e
      subst e
      rw [← hn]
      exact get_new_same _ _
  · have hb : h1.next + 1 ≤ b := hb
    rw [get_new_ne (by omega)]
    exact x.none hf b (by omega)
theorem Laid.trans {h h1 h2 : Heap} {l m : List Blk} (x : Laid h h1 l) (y : Laid h1 h2 m) : Laid h h2 (l ++ m) := by
  have hn := x.next
  have hm := y.next
  refine ⟨by rw [List.length_append]; omega, fun b hb => (y.old b (by omega)).trans (x.old b hb), fun k o e => ?_, fun hf => y.none (x.none hf)⟩
  rcases Nat.lt_or_ge k l.length with q | q
  · rw [List.getElem?_append_left q] at e
    rw [y.old _ (by omega)]
    exact x.new k o e
  · rw [List.getElem?_append_right q] at e
    have := y.new _ o e
    rw [hn] at this
    rw [← this]
    congr 1
    omega
section
variable {E : Env} {t elem z bytes : Nat}
theorem rd_cells {h : Heap} {b o n : Nat} : rdN h ⟨b, o, none⟩ n = cellsAt (h.get b) o n := by
  unfold rdN cellsAt
  cases h.get b with
  | none => rfl
  | some x => cases x <;> rfl
theorem app_read (k : SlIs E t elem z bytes) {xt : TypeId} (hx : okSrc E (some xt) = some true) {h : Heap} {b b2 o n c : Nat} {wr : Bool} {l : List Value} (hl : rdN h ⟨b2, o, none⟩ (n * z) = some l) (hp : 0 < n) (ho : l.all oneCell = true) (hg : h.get b = some (.cells [] wr none))
    (hb : n * bytes ≤ 68719476736) (hn : n ≤ 68719476736) :
    appendV E t (some xt) (.slice (some ⟨b, 0, none⟩) 0 0) (.slice (some ⟨b2, o, none⟩) n c) h = some (.slice (some ⟨h.next, 0, none⟩) n n, h.new (.cells l true (some (z, elem)))) := by
  have hlen : l.length = n * z := by
    unfold rdN at hl
    split at hl
    · split at hl
      · rename_i hle; cases hl; simp only [List.length_take, List.length_drop] at hle ⊢; omega
      · cases hl
    · cases hl
  rw [rd_cells] at hl
  rw [app_row k hx, if_neg (by omega), hl, okB_some hlen ho, hg, appK_lit hp (by simp) (by rw [Nat.zero_add]; exact hb) (by omega)]
  simp
end
end Go.Vi
namespace Go.Vi
theorem oldV_mono {n m : Nat} (hn : n ≤ m) {v : Value} (h : oldV n v = true) : oldV m v = true := by
  unfold oldV at h ⊢
  split at h <;> first | rfl | (exact decide_eq_true (by have := of_decide_eq_true h; omega)) | cases h
theorem rs_old {h h1 : Heap} (hf : ∀ b, h.next ≤ b → h.get b = none) (old : ∀ b, b < h.next → (∃ cs w o, h.get b = some (.cells cs w o)) → h1.get b = h.get b) {z : Nat} {v : Value} {s : RS} (hr : readRS z h v = some s) : readRS z h1 v = some s := by
  rcases readRS_inv hr with ⟨rfl, rfl⟩ | ⟨rfl, rfl⟩ | ⟨b, o, c, rfl, rfl⟩ | ⟨b, o, n, c, k, rfl, rfl, hp, hn, hl, hall⟩
  · rfl
  · rfl
  · unfold readRS; simp
  · have hb : b < h.next := by
      rw [rd_cells] at hl
      refine Nat.lt_of_not_le fun hx => ?_
      rw [hf b hx] at hl
      cases hl
    have hc : ∃ cs w o, h.get b = some (.cells cs w o) := by
      unfold rdN at hl
      split at hl
      · rename_i hg; exact ⟨_, _, _, hg⟩
      · cases hl
    have hl2 : rdN h1 ⟨b, o, none⟩ (n * z) = some k := by
      rw [rd_cells] at hl ⊢
      rw [old b hb hc]
      exact hl
    unfold readRS
    simp only [if_neg (show ¬ n = 0 by omega), if_pos hn, hl2, hall, if_true]
theorem os_old {h h1 : Heap} (hf : ∀ b, h.next ≤ b → h.get b = none) (hn : h.next ≤ h1.next) (old : ∀ b, b < h.next → (∀ es, h.get b ≠ some (.umap es)) → h1.get b = h.get b) {v : Value} {s : OS} (hr : readOS h v = some s) : readOS h1 v = some s := by
  have old1 : ∀ b, b < h.next → (∃ cs w o, h.get b = some (.cells cs w o)) → h1.get b = h.get b := fun b hb ⟨cs, w, o, e⟩ => old b hb fun es q => by rw [e] at q; cases q
  unfold readOS at hr
  split at hr
  · rename_i p
    split at hr
    · rename_i bs am ex wr opn hg
      have hp : p < h.next := Nat.lt_of_not_le fun hx => by rw [hf p hx] at hg; cases hg
      split at hr
      · rename_i b m x hb hm hx
        cases hr
        have h1b := rs_old hf old1 hb
        have h1x := rs_old hf old1 hx
        have h1m : readM h1.next h1 am = some m := by
          unfold readM at hm ⊢
          split at hm
          · exact hm
          · rename_i mo
            split at hm
            · rename_i es c hgm
              have hmo : mo < h.next := Nat.lt_of_not_le fun hx => by rw [hf mo hx] at hgm; cases hgm
              split at hm
              · rename_i hall
                cases hm
                simp only [(old mo hmo fun es q => by rw [hgm] at q; cases q).trans hgm]
                rw [if_pos]
                refine List.all_eq_true.2 fun e he => ?_
                have := List.all_eq_true.1 hall e he
                rw [Bool.and_eq_true] at this ⊢
                exact ⟨oldV_mono hn this.1, oldV_mono hn this.2⟩
              · cases hm
            · cases hm
          · cases hm
        unfold readOS
        simp only [(old1 p hp ⟨_, _, _, hg⟩).trans hg, h1b, h1m, h1x]
      · cases hr
    · cases hr
  · cases hr
theorem UPerm.dist1 {es es2 : List MapEntry} {c : Nat} (u : UPerm es es2 c) : Dist es := by
  have hp : (es.map (·.key)).Perm (es2.map (·.key)) := by
    have := u.perm.map Prod.fst
    rw [List.map_map, List.map_map] at this
    exact this
  exact (hp.pairwise_iff (fun {a b} h => keyEq_symm h)).2 u.dist
theorem Dist.get {es : List MapEntry} (d : Dist es) {i j : Nat} {a b : MapEntry} (hi : es[i]? = some a) (hj : es[j]? = some b) (hk : a.key = b.key) (hs : isStr a.key = true) : i = j := by
  have hself : keyEq a.key a.key = some true := by
    cases hx : a.key <;> rw [hx] at hs <;> first | (unfold keyEq; simp; done) | cases hs
  obtain ⟨li, ei⟩ := List.getElem?_eq_some_iff.1 hi
  obtain ⟨lj, ej⟩ := List.getElem?_eq_some_iff.1 hj
  have hpw := List.pairwise_iff_getElem.1 d
  rcases Nat.lt_trichotomy i j with q | q | q
  · have := hpw i j (by simpa using li) (by simpa using lj) q
    rw [List.getElem_map, List.getElem_map, ei, ej, ← hk, hself] at this
    cases this
  · exact q
  · have := hpw j i (by simpa using lj) (by simpa using li) q
    rw [List.getElem_map, List.getElem_map, ei, ej, ← hk, hself] at this
    cases this
theorem entry_at {h : Heap} {r m c : Nat} {es vs : List MapEntry} {e : MapEntry} (hr : h.get r = some (mitOf m c (vs ++ [e]))) (hm : h.get m = some (.map es c)) (he : e ∈ es) (hn : (es.map (·.born)).Nodup) : entryV (.pointer (some ⟨r, 0, none⟩)) h = some (.tuple #[e.key, e.val], h) := by
  have hl : ((vs ++ [e]).map (·.born)).getLast? = some e.born := by rw [List.map_append]; simp
  have hfind : es.find? (fun x => x.born == e.born) = some e := by
    clear hm hr hl
    induction es with
    | nil => cases he
    | cons a l ih =>
      rw [List.map_cons, List.nodup_cons] at hn
      rcases List.mem_cons.1 he with rfl | he
      · rw [List.find?_cons_of_pos]; simp
      · have hne : a.born ≠ e.born := fun q => hn.1 (by rw [q]; exact List.mem_map_of_mem he)
        rw [List.find?_cons_of_neg (by simpa using hne)]
        exact ih he hn.2
  unfold entryV
  simp only [hr, mitOf, hl, hm]
  rw [if_neg (by simp), hfind]
  rfl
def visE (es : List MapEntry) (l : List OS) (bOf : Nat → Nat) (S : List Nat) (k : Nat) : List MapEntry := match S with
  | [] => []
  | i :: r => { key := (es[i]?.map (·.key)).getD undef, val := (l[i]?.map fun s => s.ptr (bOf i)).getD undef, born := k } :: visE es l bOf r (k + 1)
theorem visE_len (es : List MapEntry) (l : List OS) (bOf : Nat → Nat) : ∀ (S : List Nat) (k : Nat), (visE es l bOf S k).length = S.length
  | [], _ => rfl
  | i :: r, k => by rw [visE, List.length_cons, List.length_cons, visE_len es l bOf r]
theorem visE_snoc (es : List MapEntry) (l : List OS) (bOf : Nat → Nat) (i : Nat) : ∀ (S : List Nat) (k : Nat), visE es l bOf (S ++ [i]) k = visE es l bOf S k ++ [{ key := (es[i]?.map (·.key)).getD undef, val := (l[i]?.map fun s => s.ptr (bOf i)).getD undef, born := k + S.length }]
  | [], k => rfl
  | j :: r, k => by
    rw [List.cons_append, visE, visE_snoc es l bOf i r, visE, List.cons_append, List.length_cons, show k + 1 + r.length = k + (r.length + 1) by omega]
theorem visE_congr (es : List MapEntry) (l : List OS) {f g : Nat → Nat} : ∀ {S : List Nat} (k : Nat), (∀ i ∈ S, f i = g i) → visE es l f S k = visE es l g S k
  | [], _, _ => rfl
  | i :: r, k, h => by rw [visE, visE, h i List.mem_cons_self, visE_congr es l (k + 1) fun j hj => h j (List.mem_cons_of_mem _ hj)]
theorem visE_get (es : List MapEntry) (l : List OS) (bOf : Nat → Nat) : ∀ (S : List Nat) (k j : Nat), (visE es l bOf S k)[j]? = S[j]?.map fun i => { key := (es[i]?.map (·.key)).getD undef, val := (l[i]?.map fun s => s.ptr (bOf i)).getD undef, born := k + j }
  | [], _, _ => by simp [visE]
  | i :: r, k, 0 => by simp [visE]
  | i :: r, k, j + 1 => by
    rw [visE, List.getElem?_cons_succ, visE_get es l bOf r, List.getElem?_cons_succ, show k + 1 + j = k + (j + 1) by omega]
theorem visE_borns (es : List MapEntry) (l : List OS) (bOf : Nat → Nat) : ∀ (S : List Nat) (k : Nat), (visE es l bOf S k).map (·.born) = List.range' k S.length
  | [], _ => rfl
  | i :: r, k => by rw [visE, List.map_cons, visE_borns es l bOf r, List.length_cons, List.range'_succ]
theorem visE_kv (es : List MapEntry) (l : List OS) (bOf : Nat → Nat) : ∀ (S : List Nat) (k : Nat), (visE es l bOf S k).map kv = S.map fun i => ((es[i]?.map (·.key)).getD undef, (l[i]?.map fun s => s.ptr (bOf i)).getD undef)
  | [], _ => rfl
  | i :: r, k => by rw [visE, List.map_cons, visE_kv es l bOf r, List.map_cons]; rfl
theorem visE_keys (es : List MapEntry) (l : List OS) (bOf : Nat → Nat) : ∀ (S : List Nat) (k : Nat), (visE es l bOf S k).map (·.key) = S.map fun i => (es[i]?.map (·.key)).getD undef
  | [], _ => rfl
  | i :: r, k => by rw [visE, List.map_cons, visE_keys es l bOf r, List.map_cons]
end Go.Vi
namespace Go.Vi
theorem perm_range {S : List Nat} {n : Nat} (hn : S.Nodup) (hall : ∀ i, i < n ↔ i ∈ S) : (List.range n).Perm S :=
  (List.perm_ext_iff_of_nodup List.nodup_range hn).2 fun i => by rw [List.mem_range]; exact hall i
theorem newEnts_kv {es : List MapEntry} {l : List OS} {b : Nat} (hl : es.length = l.length) : (newEnts es l b).map kv = (List.range l.length).map fun i => ((es[i]?.map (·.key)).getD undef, (l[i]?.map fun s => s.ptr (b + 6 * i)).getD undef) := by
  obtain ⟨h1, h2⟩ := newEnts_get (b := b) hl
  apply List.ext_getElem?
  intro i
  rw [List.getElem?_map, List.getElem?_map]
  rcases Nat.lt_or_ge i l.length with q | q
  · have e1 := List.getElem?_eq_getElem (l := es) (i := i) (by omega)
    have e2 := List.getElem?_eq_getElem q
    rw [h2 i _ _ e1 e2, List.getElem?_range q]
    simp only [Option.map_some]
    rw [e1, e2]
    rfl
  · rw [List.getElem?_eq_none (by omega), List.getElem?_eq_none (by rw [List.length_range]; exact q)]
    rfl
theorem copy_ren {ho h1 : Heap} {tb te : TypeId} {rs : RS} {size : Value} {bl : List Value} {es es2 : List MapEntry} {l : List OS} {c : Nat} {S : List Nat} {bOf : Nat → Nat} (hf : ∀ b, ho.next ≤ b → ho.get b = none) (u : UPerm es es2 c) (hl : readAll ho es = some l)
    (hrs : rs.ok = true) (hsz : isInt size = true) (hbl : bl.all isBool = true) (hS : S.Nodup) (hall : ∀ i, i < l.length ↔ i ∈ S) (old1 : ∀ b, b < ho.next → h1.get b = ho.get b) (q1 : ho.next ≤ h1.next) (q2 : h1.next ≤ ho.next + rs.size + 4 + 6 * l.length)
    (hr : ∀ k o, (rs.blks 2 te)[k]? = some o → h1.get (ho.next + k) = some o) (hsp : h1.get (ho.next + rs.size) = some (.cells [size, rs.val ho.next] true none))
    (hM : h1.get (ho.next + rs.size + 1) = some (.map (visE es l bOf S 0) S.length)) (hq : h1.get (ho.next + rs.size + 2) = some (.cells (.pointer (some ⟨ho.next + rs.size, 0, none⟩) :: bl ++ [.map (some (ho.next + rs.size + 1))]) true none))
    (placed : ∀ i s, l[i]? = some s → ho.next + rs.size + 4 ≤ bOf i ∧ bOf i + s.size ≤ h1.next ∧ ∀ k o, (s.blks tb te (bOf i))[k]? = some o → h1.get (bOf i + k) = some o)
    (disj : ∀ i i' s s', l[i]? = some s → l[i']? = some s' → i ≠ i' → bOf i + s.size ≤ bOf i' ∨ bOf i' + s'.size ≤ bOf i) :
    Ren ho h1 (canonC tb te ho (preC te ho.next rs size bl es l) l) (tauC (ho.next + rs.size + 4) l.length bOf) := by
  obtain ⟨hle, hget⟩ := readAll_get hl
  have hpl := preC_len te ho.next rs size bl es l
  refine ren_objs (by rw [hpl]; omega) hf (fun k o hk => ?_) old1 q1 q2 (fun s hs => ?_) placed disj
  · have hτ : ∀ y, y < ho.next + rs.size + 4 → tauC (ho.next + rs.size + 4) l.length bOf y = y := fun y hy => if_neg (by omega)
    unfold preC at hk
    rcases Nat.lt_or_ge k (rs.blks 2 te).length with q | q
    · rw [List.getElem?_append_left q] at hk
      exact ⟨o, hr k o hk, rs.br hrs o (List.mem_of_getElem? hk)⟩
    · rw [List.getElem?_append_right q, RS.len] at hk
      rw [RS.len] at q
      have hk3 : k - rs.size < 3 := by
        refine Nat.lt_of_not_le fun hx => ?_
        rw [List.getElem?_eq_none (by simpa using hx)] at hk
        cases hk
      rcases (show k - rs.size = 0 ∨ k - rs.size = 1 ∨ k - rs.size = 2 by omega) with e | e | e
      · rw [e] at hk
        cases hk
        rw [show k = rs.size by omega]
        refine ⟨_, hsp, _, rfl, rfl, fun j h1 h2 => ?_⟩
        match j, h1 with
        | 0, _ => cases size <;> first | exact .int _ _ | cases hsz
        | 1, _ => exact rs.vr fun j hj => hτ _ (by omega)
      · rw [e] at hk
        cases hk
        rw [show ho.next + k = ho.next + rs.size + 1 by omega]
        refine ⟨_, hM, _, visE es l (fun i => ho.next + rs.size + 4 + 6 * i) S 0, _, rfl, ⟨?_, ?_, ?_, ?_⟩, by rw [visE_len, visE_len], fun j a b ha hb => ?_⟩
        · rw [newEnts_kv hle, visE_kv]
          exact (perm_range hS hall).map _
        · unfold Dist
          rw [visE_keys, List.pairwise_map]
          refine hS.imp_of_mem fun {i j} hi hj hne => ?_
          have li := (hall i).2 hi
          have lj := (hall j).2 hj
          have e1 := List.getElem?_eq_getElem (l := es) (i := i) (by omega)
          have e2 := List.getElem?_eq_getElem (l := es) (i := j) (by omega)
          rw [e1, e2]
          have hpw := List.pairwise_iff_getElem.1 u.dist1
          rcases Nat.lt_or_gt_of_ne hne with q | q
          · have := hpw i j (by rw [List.length_map]; omega) (by rw [List.length_map]; omega) q
            rw [List.getElem_map, List.getElem_map] at this
            exact this
          · have := hpw j i (by rw [List.length_map]; omega) (by rw [List.length_map]; omega) q
            rw [List.getElem_map, List.getElem_map] at this
            exact keyEq_symm this
        · rw [visE_borns]; exact List.nodup_range' (step := 1)
        · intro e he
          have : e.born ∈ (visE es l (fun i => ho.next + rs.size + 4 + 6 * i) S 0).map (·.born) := List.mem_map_of_mem he
          rw [visE_borns, List.mem_range'] at this
          obtain ⟨i, hi, e⟩ := this
          omega
        · rw [visE_get] at ha hb
          obtain ⟨i, hi, rfl⟩ := Option.map_eq_some_iff.1 ha
          rw [hi] at hb
          cases hb
          have li := (hall i).2 (List.mem_of_getElem? hi)
          have e1 := List.getElem?_eq_getElem (l := es) (i := i) (by omega)
          have e2 := List.getElem?_eq_getElem li
          obtain ⟨s, hs, _, hk⟩ := hget i _ e1
          rw [e2] at hs
          cases hs
          refine ⟨?_, ?_, rfl⟩
          · simp only [e1, Option.map_some, Option.getD_some]
            obtain ⟨b, hb⟩ : ∃ b, es[i].key = .string b := by cases hx : es[i].key <;> rw [hx] at hk <;> first | exact ⟨_, rfl⟩ | cases hk
            rw [hb]
            exact .string _
          · simp only [e2, Option.map_some, Option.getD_some]
            refine OS.vr _ fun j hj => ?_
            have := OS.size_le l[i]
            unfold tauC
            rw [if_pos (by omega), show (ho.next + rs.size + 4 + 6 * i + j - (ho.next + rs.size + 4)) / 6 = i by omega, show (ho.next + rs.size + 4 + 6 * i + j - (ho.next + rs.size + 4)) % 6 = j by omega]
      · rw [e] at hk
        cases hk
        rw [show ho.next + k = ho.next + rs.size + 2 by omega]
        refine ⟨_, hq, _, rfl, rfl, fun j h1 h2 => ?_⟩
        have p0 := VR.ptr (τ := tauC (ho.next + rs.size + 4) l.length bOf) (ho.next + rs.size) 0
        rw [hτ _ (by omega)] at p0
        have pm := VR.map (τ := tauC (ho.next + rs.size + 4) l.length bOf) (ho.next + rs.size + 1)
        rw [hτ _ (by omega)] at pm
        have hm : (.pointer (some ⟨ho.next + rs.size, 0, none⟩) :: bl ++ [.map (some (ho.next + rs.size + 1))] : List Value)[j] ∈ (.pointer (some ⟨ho.next + rs.size, 0, none⟩) :: bl ++ [.map (some (ho.next + rs.size + 1))] : List Value) := List.getElem_mem h1
        generalize (.pointer (some ⟨ho.next + rs.size, 0, none⟩) :: bl ++ [.map (some (ho.next + rs.size + 1))] : List Value)[j] = x at hm ⊢
        rcases List.mem_append.1 hm with hm | hm
        · rcases List.mem_cons.1 hm with rfl | hm
          · exact p0
          · have := List.all_eq_true.1 hbl x hm
            cases x <;> first | exact .bool _ | cases this
        · rw [List.mem_singleton] at hm
          rw [hm]
          exact pm
  · obtain ⟨i, hi⟩ := List.getElem?_of_mem hs
    have li := (List.getElem?_eq_some_iff.1 hi).1
    obtain ⟨s', h3, h4, _⟩ := hget i _ (List.getElem?_eq_getElem (l := es) (i := i) (by omega))
    rw [hi] at h3
    cases h3
    exact readOS_ok h4
theorem canon_set {h : Heap} {tb te : TypeId} {pre : List Blk} {l : List OS} {m : Nat} {o : Blk} (hm : m < h.next) (y : Nat) : ((canonC tb te h pre l).set m o).get y = (canonC tb te (h.set m o) pre l).get y := by
  by_cases e : y = m
  · subst e
    rw [get_set_same, canonC_get, canonO_get, if_neg (by show ¬ (h.next + pre.length + 1 ≤ y); omega), layA_get, if_neg (by show ¬ (h.next ≤ y ∧ _); omega), get_set_same]
  · rw [get_set_ne e, canonC_get, canonC_get, canonO_get, canonO_get]
    have hlay : (layA h h.next pre).get y = (layA (h.set m o) (h.set m o).next pre).get y := by
      rw [layA_get, layA_get]
      show _ = if h.next ≤ y ∧ y < h.next + pre.length then pre[y - h.next]? else (h.set m o).get y
      rw [get_set_ne e]
    rw [← hlay]
    rfl
theorem Ren.congr {h h1 h' h2 : Heap} {τ : Nat → Nat} (r : Ren h h1 h' τ) (hn : h2.next = h'.next) (hg : ∀ y, h2.get y = h'.get y) : Ren h h1 h2 τ where
  next := by rw [hn]; exact r.next
  next0 := r.next0
  old := fun b hb => by rw [hg]; exact r.old b hb
  old1 := r.old1
  same := fun b hb => r.same b (by rw [← hn]; exact hb)
  win := fun b q1 q2 => by rw [hn] at q2 ⊢; exact r.win b q1 q2
  new := fun b q1 o ho => r.new b q1 o (by rw [← hg]; exact ho)
  inj := fun b c q1 q2 hb hc he => r.inj b c q1 q2 (by rw [← hg]; exact hb) (by rw [← hg]; exact hc) he
  fresh := fun b hb => by rw [hg]; exact r.fresh b (by rw [← hn]; exact hb)
end Go.Vi
namespace Go.Vi
variable {K : Known} {P : Program} {E : Env}
theorem hc_seq {n : Nat} {pl : Nat → Option Plan} {c : Code} {x y : HC} (h : hc n pl c = .seq x y) : ∃ a b, c = .seq a b ∧ hc n pl a = x ∧ hc n pl b = y := by
  cases c <;> simp only [hc] at h
  case seq a b => cases h; exact ⟨a, b, rfl, rfl, rfl⟩
  case region => split at h <;> cases h
  all_goals cases h
theorem hc_list {n : Nat} {pl : Nat → Option Plan} {c : Code} {l : List SOp} (h : hc n pl c = .list l) : ∃ id ops, c = .region id ops false := by
  cases c <;> simp only [hc] at h
  case region id ops draw =>
    cases draw with
    | false => exact ⟨id, ops, rfl⟩
    | true => cases h
  all_goals cases h
theorem hc_cond {n : Nat} {pl : Nat → Option Plan} {c : Code} {o : Operand} {x y : HC} (h : hc n pl c = .cond o x y) : ∃ a b, c = .cond o a b ∧ hc n pl a = x ∧ hc n pl b = y := by
  cases c <;> simp only [hc] at h
  case cond o a b => cases h; exact ⟨a, b, rfl, rfl, rfl⟩
  case region => split at h <;> cases h
  all_goals cases h
theorem hc_block {n : Nat} {pl : Nat → Option Plan} {c : Code} {id : Nat} {x : HC} (h : hc n pl c = .block id x) : ∃ b, c = .block id b ∧ hc n pl b = x := by
  cases c <;> simp only [hc] at h
  case block id b => cases h; exact ⟨b, rfl, rfl⟩
  case region => split at h <;> cases h
  all_goals cases h
theorem hc_loop {n : Nat} {pl : Nat → Option Plan} {c : Code} {x : HC} (h : hc n pl c = .loop x) : ∃ b, c = .loop b ∧ hc n pl b = x := by
  cases c <;> simp only [hc] at h
  case loop b => cases h; exact ⟨b, rfl, rfl⟩
  case region => split at h <;> cases h
  all_goals cases h
theorem hc_skip {n : Nat} {pl : Nat → Option Plan} {c : Code} (h : hc n pl c = .skip) : c = .skip := by
  cases c <;> simp only [hc] at h
  case skip => rfl
  case region => split at h <;> cases h
  all_goals cases h
theorem hc_exit {n : Nat} {pl : Nat → Option Plan} {c : Code} {i : Nat} (h : hc n pl c = .exit i) : c = .exit i := by
  cases c <;> simp only [hc] at h
  case exit => cases h; rfl
  case region => split at h <;> cases h
  all_goals cases h
theorem CdOk.seq {n : Nat} {pl : Nat → Option Plan} {a b : Code} (k : CdOk n pl (.seq a b)) : CdOk n pl a ∧ CdOk n pl b := by
  obtain ⟨h1, h2, h3⟩ := k
  unfold codeChk at h1
  simp only [codeOk, planOk, Bool.and_eq_true] at h1 h2 h3
  exact ⟨⟨h1.1, h2.1, h3.1⟩, ⟨h1.2, h2.2, h3.2⟩⟩
theorem CdOk.block {n id : Nat} {pl : Nat → Option Plan} {b : Code} (k : CdOk n pl (.block id b)) : CdOk n pl b := by
  obtain ⟨h1, h2, h3⟩ := k
  unfold codeChk at h1
  exact ⟨h1, h2, h3⟩
theorem CdOk.loop {n : Nat} {pl : Nat → Option Plan} {b : Code} (k : CdOk n pl (.loop b)) : CdOk n pl b := by
  obtain ⟨h1, h2, h3⟩ := k
  unfold codeChk at h1
  exact ⟨h1, h2, h3⟩
def HG (K : Known) (P : Program) (N n : Nat) (pl : Nat → Option Plan) (g : HC) (ρ : Fr) (h : Heap) (S : Qt) : Prop := ∀ c, hc n pl c = g → CdOk n pl c → HR K P N n c ρ h S
theorem hg_det (ok : EnvOk K P E) {N n : Nat} {pl : Nat → Option Plan} {g : HC} {ρ : Fr} {h : Heap} {S : Qt} (r : R E g ρ h fun x ρ' h' => h'.next ≤ N ∧ S x ρ' h') : HG K P N n pl g ρ h S :=
  fun c hc k => hr_det ok k (by rw [hc]; exact r)
theorem hg_seq {N n : Nat} {pl : Nat → Option Plan} {x y : HC} {ρ : Fr} {h : Heap} {S : Qt} (r : HG K P N n pl x ρ h fun e ρ1 h1 => match e with | .normal => HG K P N n pl y ρ1 h1 S | e => S e ρ1 h1) : HG K P N n pl (.seq x y) ρ h S := by
  intro c hk k
  obtain ⟨a, b, rfl, ha, hb⟩ := hc_seq hk
  obtain ⟨ka, kb⟩ := k.seq
  refine hr_seq ((r a ha ka).mono ?_)
  intro e ρ1 h1 q
  cases e with
  | normal => exact (q : HG K P N n pl y ρ1 h1 S) b hb kb
  | exit i => exact q
  | ret => exact q
theorem hg_block {N n id : Nat} {pl : Nat → Option Plan} {x : HC} {ρ : Fr} {h : Heap} {S : Qt} (r : HG K P N n pl x ρ h (blockQ id S)) : HG K P N n pl (.block id x) ρ h S := by
  intro c hk k
  obtain ⟨b, rfl, hb⟩ := hc_block hk
  exact hr_block (r b hb k.block)
theorem hg_range (ok : EnvOk K P E) {N n x0 : Nat} {pl : Nat → Option Plan} {d1 d2 : Tmp} {it : Operand} {ty1 ty2 : TypeId} {body : HC} {ρ : Fr} {h : Heap} {S : Qt}
    {r m c : Nat} {es : List MapEntry} (hb : ∀ e ∈ es, e.born < c) (hn : (es.map (·.born)).Nodup) (I : List MapEntry → Fr → Heap → Prop)
    (hI : ∀ vs ρ h, I vs ρ h → evH ρ it = .pointer (some ⟨r, 0, none⟩) ∧ h.get r = some (mitOf m c vs) ∧ h.get m = some (.map es c) ∧ h.next ≤ N)
    (step : ∀ vs e ρ h, Part es (vs ++ [e]) → e ∈ es → I vs ρ h → HG K P N n pl body (up (up ρ d1 (.tuple #[.bool true, e.key, e.val])) d2 (.bool true)) (h.set r (mitOf m c (vs ++ [e]))) fun x ρ' h' => match x with | .normal => I (vs ++ [e]) ρ' h' | x => S x ρ' h')
    (done : ∀ vs ρ h, Part es vs → (∀ e ∈ es, e ∈ vs) → I vs ρ h → S (.exit x0) (up (up ρ d1 (.tuple #[.bool false])) d2 (.bool false)) h) (init : I [] ρ h) :
    HG K P N n pl (.loop (.seq (.list [⟨some d1, .next it false, ty1, none⟩, ⟨some d2, .extract (.tmp d1) 0, ty2, none⟩]) (.seq (.cond (.tmp d2) .skip (.exit x0)) body))) ρ h S := by
  intro c0 hk k
  obtain ⟨b0, rfl, hb1⟩ := hc_loop hk
  obtain ⟨c1, c2, rfl, ha, hb2⟩ := hc_seq hb1
  obtain ⟨k1, k2⟩ := k.loop.seq
  obtain ⟨id, ops, rfl⟩ := hc_list ha
  obtain ⟨c3, c4, rfl, hd, hb3⟩ := hc_seq hb2
  obtain ⟨k3, k4⟩ := k2.seq
  obtain ⟨y, z, rfl, hy, hz⟩ := hc_cond hd
  cases hc_skip hy
  cases hc_exit hz
  exact hr_range ok ha k1 k3 hb hn I hI (fun vs e ρ h p he hi => step vs e ρ h p he hi c4 hb3 k4) done init
theorem hg_sr (ok : EnvOk K P E) {f : FuncId} {g : HC} {rs : List ResultVar} {n : Nat} (k : FunIs E f g rs n) {args : List Value} (hl : args.length ≤ n) {h : Heap} {N : Nat} {S : Ex → St → Prop} (body : ∀ pl, HG K P N n pl g (frA args) h fun x ρ' h' => ∀ t, FB n ρ' t → S x (t, h')) :
    ∃ fn, E.fn f = some fn ∧ fn.fn.ntmps = n ∧ fn.fn.results.toList = rs ∧ SR K P N fn.body (args ++ List.replicate (fn.fn.ntmps - args.length) undef, h) S := by
  obtain ⟨hr, hx, fn, hf, hg, hn, hres, hk, hrk⟩ := k
  have q := ok.fn _ _ hf
  have b0 : FB n (frA args) (args ++ List.replicate (n - args.length) undef) := by
    refine ⟨by simp; omega, fun i hi => ?_⟩
    unfold frA
    rw [List.getD_eq_getElem?_getD, List.getD_eq_getElem?_getD, List.getElem?_append]
    split
    · rfl
    · rename_i hlt
      rw [List.getElem?_eq_none (l := args) (by omega), List.getElem?_replicate]
      split <;> rfl
  refine ⟨fn, hf, hn, hres, ?_⟩
  rw [hn]
  exact (body fn.plan fn.body hg ⟨hk, q.code, q.plan⟩ _ b0).mono fun x s' ⟨ρ', b', h'⟩ => h' s'.1 b'
end Go.Vi
namespace Go.Vi
theorem HG.mono {K : Known} {P : Program} {N n : Nat} {pl : Nat → Option Plan} {g : HC} {ρ : Fr} {h : Heap} {S S' : Qt} (r : HG K P N n pl g ρ h S) (q : ∀ x ρ' h', S x ρ' h' → S' x ρ' h') : HG K P N n pl g ρ h S' := fun c hk k => (r c hk k).mono q
def hasPre (p k : List UInt8) : Bool := k.take p.length == p
def mtc (p : ByteArray) (e : MapEntry) : Bool := match e.key with
  | .string b => hasPre (strL p) (strL b)
  | _ => false
def namesX (ts : TypeId) (args : List Value) (h : Heap) : Option (Value × Heap) := match args with
  | [.pointer (some ⟨s, 0, none⟩), .string p] => match h.get s with
    | some (.cells [_, _, _, _, _, _, _, _, _, .map (some mo)] _ _) => match entsU h mo with
      | some es => if es.all (fun e => isStr e.key) then match es.filter (mtc p) with
          | [] => some (.slice none 0 0, { h with next := h.next + 4 })
          | [e] => some (.slice (some ⟨h.next, 0, none⟩) 1 1, { next := h.next + 4, tr := (h.set h.next (.cells [e.key] true (some (1, ts)))).tr })
          | _ => none
        else none
      | none => none
    | _ => none
  | _ => none
theorem filter_one {α : Type} {f : α → Bool} {l : List α} (hl : (l.filter f).length ≤ 1) {i j : Nat} {a b : α} (hi : l[i]? = some a) (hj : l[j]? = some b) (ha : f a = true) (hb : f b = true) : i = j := by
  induction l generalizing i j with
  | nil => simp at hi
  | cons x l ih =>
    have none_rest : f x = true → ∀ (k : Nat) (y : α), l[k]? = some y → f y = true → False := fun hx k y hk hy => by
      rw [List.filter_cons, if_pos hx, List.length_cons] at hl
      have : y ∈ l.filter f := List.mem_filter.2 ⟨List.mem_of_getElem? hk, hy⟩
      have := List.length_pos_of_mem this
      omega
    cases i with
    | zero =>
      simp at hi
      subst hi
      cases j with
      | zero => rfl
      | succ j => exact (none_rest ha j b (by simpa using hj) hb).elim
    | succ i =>
      cases j with
      | zero =>
        simp at hj
        subst hj
        exact (none_rest hb i a (by simpa using hi) ha).elim
      | succ j =>
        have hl2 : (l.filter f).length ≤ 1 := by
          rw [List.filter_cons] at hl
          split at hl
          · rw [List.length_cons] at hl; omega
          · exact hl
        have := ih hl2 (i := i) (j := j) (by simpa using hi) (by simpa using hj)
        omega
theorem ren_none {h h1 : Heap} (hf : ∀ b, h.next ≤ b → h.get b = none) (n1 : h.next ≤ h1.next) (n2 : h1.next ≤ h.next + 4) (old : ∀ b, b < h.next → h1.get b = h.get b) : Ren h h1 { h with next := h.next + 4 } (fun y => y) where
  next := n2
  next0 := n1
  old := fun _ _ => rfl
  old1 := old
  same := fun _ _ => rfl
  win := fun b q1 q2 => ⟨q1, q2⟩
  new := fun b q o ho => by rw [show ({ h with next := h.next + 4 } : Heap).get b = h.get b from rfl, hf b q] at ho; cases ho
  inj := fun _ _ _ _ _ _ e => e
  fresh := fun b hb => hf b (by have hb : h.next + 4 ≤ b := hb; omega)
def swapT (a b y : Nat) : Nat := if y = a then b else if y = b then a else y
theorem ren_one {h h1 : Heap} (hf : ∀ b, h.next ≤ b → h.get b = none) (n1 : h.next ≤ h1.next) (n2 : h1.next ≤ h.next + 4) (old : ∀ b, b < h.next → h1.get b = h.get b) {b : Nat} {x : Value} {ts : TypeId} (hb : h.next ≤ b ∧ b < h1.next) (hx : isStr x = true) (hg : h1.get b = some (.cells [x] true (some (1, ts)))) :
    Ren h h1 { next := h.next + 4, tr := (h.set h.next (.cells [x] true (some (1, ts)))).tr } (swapT h.next b) := by
  have hget : ∀ y, ({ next := h.next + 4, tr := (h.set h.next (.cells [x] true (some (1, ts)))).tr } : Heap).get y = (h.set h.next (.cells [x] true (some (1, ts)))).get y := fun y => rfl
  have pres : ∀ y, h.next ≤ y → (h.set h.next (.cells [x] true (some (1, ts)))).get y ≠ none → y = h.next := fun y q hp => by
    by_cases e : y = h.next
    · exact e
    · rw [get_set_ne e, hf y q] at hp; exact absurd rfl hp
  have hsw : swapT h.next b h.next = b := by unfold swapT; rw [if_pos rfl]
  exact {
    next := n2
    next0 := n1
    old := fun y hy => by rw [hget, get_set_ne (by omega)]
    old1 := old
    same := fun y hy => by
      have hy : y < h.next ∨ h.next + 4 ≤ y := hy
      unfold swapT
      rw [if_neg (by omega), if_neg (by omega)]
    win := fun y q1 q2 => by
      have q2 : y < h.next + 4 := q2
      show h.next ≤ swapT h.next b y ∧ swapT h.next b y < h.next + 4
      unfold swapT
      split
      · omega
      · split <;> omega
    new := fun y q o ho => by
      rw [hget] at ho
      have e := pres y q (by rw [ho]; simp)
      subst e
      rw [get_set_same] at ho
      cases ho
      refine ⟨_, by rw [hsw]; exact hg, [x], rfl, rfl, fun j h1 h2 => ?_⟩
      match j, h1 with
      | 0, _ => cases x <;> first | exact .string _ | cases hx
    inj := fun y z q1 q2 hy hz e => by rw [hget] at hy hz; rw [pres y q1 hy, pres z q2 hz]
    fresh := fun y hy => by
      have hy : h.next + 4 ≤ y := hy
      rw [hget, get_set_ne (by omega)]
      exact hf y (by omega) }
end Go.Vi
