/- Vi2: the relation between the abstract heap and a world; values. -/
import Derived.Test.YtdbicjhpgofpiaaGreatDoorVi1
import Derived.Laws.Sem
import Derived.Laws.World
import Derived.Laws.Cells
import Derived.Laws.Tables
namespace Go.Vi

structure Info where
  blk : Nat
  base : Nat
  opn : Option (Nat × Nat)
  tot : Nat
abbrev Map := Nat → Option Info

inductive VRel (ρ : Map) : Value → Value → Prop where
  | bool (b : Bool) : VRel ρ (.bool b) (.bool b)
  | int (k : IntKind) (n : Int) : VRel ρ (.int k n) (.int k n)
  | string (s : ByteArray) : VRel ρ (.string s) (.string s)
  | ptr0 : VRel ρ (.pointer none) (.pointer none)
  | ptr (b o : Nat) (i : Info) (h : ρ b = some i) : VRel ρ (.pointer (some ⟨b, o, none⟩)) (.pointer (some ⟨i.blk, i.base + o, none⟩))
  | slice0 : VRel ρ (.slice none 0 0) (.slice none 0 0)
  | slice (b o len cap : Nat) (i : Info) (o' cap' : Nat) (h : ρ b = some i) (hl : len ≤ cap) (ho : o' = i.base + o ∨ (len = 0 ∧ cap = 0 ∧ i.opn ≠ none ∧ i.base ≤ o'))
      (hc : cap ≤ cap') (hn : i.opn = none → cap' = cap) (hr : ∀ z, i.opn = some z → o' + cap' * z.1 ≤ i.tot) :
      VRel ρ (.slice (some ⟨b, o, none⟩) len cap) (.slice (some ⟨i.blk, o', none⟩) len cap')
  | map0 : VRel ρ (.map none) (.map none)
  | map (b : Nat) (i : Info) (h : ρ b = some i) : VRel ρ (.map (some b)) (.map (some i.blk))
  | chan0 : VRel ρ (.chan none) (.chan none)
  | chan (b : Nat) (i : Info) (h : ρ b = some i) : VRel ρ (.chan (some b)) (.chan (some i.blk))
  | nilFunc : VRel ρ .nilFunc .nilFunc
  | func (g : FuncId) (l l' c c' : Array Value) (hl : l.toList.length = l'.toList.length) (h : ∀ j (h : j < l.toList.length) (h' : j < l'.toList.length), VRel ρ l.toList[j] l'.toList[j])
      (kl : c.toList.length = c'.toList.length) (k : ∀ j (h : j < c.toList.length) (h' : j < c'.toList.length), VRel ρ c.toList[j] c'.toList[j]) :
      VRel ρ (.func (.func g) l c) (.func (.func g) l' c')
  | yield (b : Nat) (i : Info) (h : ρ b = some i) (hb : i.base = 0) : VRel ρ (.func (.yield b) #[] #[]) (.func (.yield i.blk) #[] #[])
  | nilIface : VRel ρ .nilIface .nilIface
  | iface (t : TypeId) (v v' : Value) (h : VRel ρ v v') : VRel ρ (.iface t v) (.iface t v')
  | agg (l l' : Array Value) (hl : l.toList.length = l'.toList.length) (h : ∀ j (h : j < l.toList.length) (h' : j < l'.toList.length), VRel ρ l.toList[j] l'.toList[j]) : VRel ρ (.agg l) (.agg l')
  | tuple (l l' : Array Value) (hl : l.toList.length = l'.toList.length) (h : ∀ j (h : j < l.toList.length) (h' : j < l'.toList.length), VRel ρ l.toList[j] l'.toList[j]) : VRel ρ (.tuple l) (.tuple l')

def VRels (ρ : Map) (l l' : List Value) : Prop := l.length = l'.length ∧ ∀ j (h : j < l.length) (h' : j < l'.length), VRel ρ l[j] l'[j]

theorem VRel.agg' {ρ : Map} {l l' : List Value} (h : VRels ρ l l') : VRel ρ (.agg ⟨l⟩) (.agg ⟨l'⟩) := .agg _ _ h.1 h.2
theorem VRel.tuple' {ρ : Map} {l l' : List Value} (h : VRels ρ l l') : VRel ρ (.tuple ⟨l⟩) (.tuple ⟨l'⟩) := .tuple _ _ h.1 h.2

theorem VRels.nil {ρ : Map} : VRels ρ [] [] := ⟨rfl, fun _ h => absurd h (by simp)⟩
theorem VRels.cons {ρ : Map} {v v' : Value} {l l' : List Value} (hv : VRel ρ v v') (h : VRels ρ l l') : VRels ρ (v :: l) (v' :: l') := by
  refine ⟨by simp [h.1], fun j hj hj' => ?_⟩
  cases j with
  | zero => exact hv
  | succ j => exact h.2 j (by simpa using hj) (by simpa using hj')
theorem VRels.head {ρ : Map} {v v' : Value} {l l' : List Value} (h : VRels ρ (v :: l) (v' :: l')) : VRel ρ v v' := h.2 0 (by simp) (by simp)
theorem VRels.tail {ρ : Map} {v v' : Value} {l l' : List Value} (h : VRels ρ (v :: l) (v' :: l')) : VRels ρ l l' :=
  ⟨by simpa using h.1, fun j hj hj' => h.2 (j + 1) (by simpa using hj) (by simpa using hj')⟩
theorem VRels.nil_inv {ρ : Map} {l' : List Value} (h : VRels ρ [] l') : l' = [] := by
  have := h.1; cases l' <;> simp_all
theorem VRels.cons_inv {ρ : Map} {v : Value} {l l' : List Value} (h : VRels ρ (v :: l) l') : ∃ v' r', l' = v' :: r' ∧ VRel ρ v v' ∧ VRels ρ l r' := by
  cases l' with
  | nil => have := h.1; simp at this
  | cons v' r' => exact ⟨v', r', rfl, h.head, h.tail⟩
theorem VRels.append {ρ : Map} {l l' m m' : List Value} (h : VRels ρ l l') (k : VRels ρ m m') : VRels ρ (l ++ m) (l' ++ m') := by
  induction l generalizing l' with
  | nil => cases h.nil_inv; exact k
  | cons v l ih => obtain ⟨v', r', rfl, hv, hr⟩ := h.cons_inv; exact VRels.cons hv (ih hr)
theorem VRels.get {ρ : Map} {l l' : List Value} (h : VRels ρ l l') {j : Nat} {v : Value} (hj : l[j]? = some v) : ∃ v', l'[j]? = some v' ∧ VRel ρ v v' := by
  obtain ⟨hj', rfl⟩ := List.getElem?_eq_some_iff.1 hj
  exact ⟨l'[j]'(h.1 ▸ hj'), List.getElem?_eq_getElem _, h.2 j _ _⟩
theorem VRels.of_get {ρ : Map} {l l' : List Value} (hl : l.length = l'.length) (h : ∀ (j : Nat) (v v' : Value), l[j]? = some v → l'[j]? = some v' → VRel ρ v v') : VRels ρ l l' :=
  ⟨hl, fun j hj hj' => h j _ _ (List.getElem?_eq_getElem hj) (List.getElem?_eq_getElem hj')⟩
theorem VRels.take {ρ : Map} {l l' : List Value} (n : Nat) (h : VRels ρ l l') : VRels ρ (l.take n) (l'.take n) := by
  refine .of_get (by simp [h.1]) fun j v v' hj hj' => ?_
  rw [List.getElem?_take] at hj hj'
  split at hj
  · rename_i hn
    rw [if_pos hn] at hj'
    obtain ⟨u, hu, hr⟩ := h.get hj
    rw [hu] at hj'; cases hj'; exact hr
  · cases hj
theorem VRels.drop {ρ : Map} {l l' : List Value} (n : Nat) (h : VRels ρ l l') : VRels ρ (l.drop n) (l'.drop n) := by
  refine .of_get (by simp [h.1]) fun j v v' hj hj' => ?_
  rw [List.getElem?_drop] at hj hj'
  obtain ⟨u, hu, hr⟩ := h.get hj
  rw [hu] at hj'; cases hj'; exact hr
theorem VRels.splice {ρ : Map} {l l' m m' : List Value} (n : Nat) (h : VRels ρ l l') (k : VRels ρ m m') : VRels ρ (splice l n m) (splice l' n m') := by
  unfold Vi.splice
  rw [k.1]
  exact ((h.take n).append k).append (h.drop _)
theorem VRels.flatten_replicate {ρ : Map} {l l' : List Value} (n : Nat) (h : VRels ρ l l') : VRels ρ (rep n l) (rep n l') := by
  unfold rep
  induction n with
  | zero => exact .nil
  | succ n ih => rw [List.replicate_succ, List.replicate_succ, List.flatten_cons, List.flatten_cons]; exact h.append ih

theorem VRel.agg_inv {ρ : Map} {l : Array Value} {v' : Value} (h : VRel ρ (.agg l) v') : ∃ l', v' = .agg l' ∧ VRels ρ l.toList l'.toList := by
  cases h with
  | agg l l' hl h => exact ⟨l', rfl, hl, h⟩
theorem VRel.tuple_inv {ρ : Map} {l : Array Value} {v' : Value} (h : VRel ρ (.tuple l) v') : ∃ l', v' = .tuple l' ∧ VRels ρ l.toList l'.toList := by
  cases h with
  | tuple l l' hl h => exact ⟨l', rfl, hl, h⟩
theorem VRel.cells {ρ : Map} {v v' : Value} (h : VRel ρ v v') : VRels ρ (cellsOf v) v'.cells.toList ∧ (cellsOf v').length = v'.cells.size := by
  cases h with
  | agg l l' hl h => exact ⟨⟨hl, h⟩, by simp [cellsOf, Value.cells]⟩
  | _ => exact ⟨VRels.cons (by constructor <;> assumption) VRels.nil, rfl⟩
theorem cellsOf_eq (v : Value) : cellsOf v = v.cells.toList := by cases v <;> rfl

theorem plain_rels {ρ : Map} {n : Nat} (ih : ∀ v, plainB n v = true → VRel ρ v v) (l : List Value) (h : l.all (plainB n) = true) : VRels ρ l l := by
  refine ⟨rfl, fun j hj _ => ih _ ?_⟩
  exact List.all_eq_true.1 h _ (List.getElem_mem hj)
theorem plain_rel {ρ : Map} : ∀ (n : Nat) (v : Value), plainB n v = true → VRel ρ v v := by
  intro n
  induction n with
  | zero => intro v h; simp [plainB] at h
  | succ n ih =>
    intro v h
    cases v with
    | bool b => exact .bool b
    | int k n => exact .int k n
    | string s => exact .string s
    | pointer a => cases a <;> simp [plainB] at h; exact .ptr0
    | slice a l c =>
      cases a with
      | some a => simp [plainB] at h
      | none => cases l <;> cases c <;> simp [plainB] at h; exact .slice0
    | map r => cases r <;> simp [plainB] at h; exact .map0
    | nilFunc => exact .nilFunc
    | nilIface => exact .nilIface
    | iface t v => exact .iface t v v (ih v (by simpa [plainB] using h))
    | agg l => exact .agg l l rfl (plain_rels ih l.toList (by simpa [plainB] using h)).2
    | tuple l => exact .tuple l l rfl (plain_rels ih l.toList (by simpa [plainB] using h)).2
    | func f l c =>
      cases f <;> simp [plainB] at h
      obtain ⟨rfl, rfl⟩ := h
      exact .func _ _ _ _ _ rfl (fun _ h => absurd h (by simp)) rfl (fun _ h => absurd h (by simp))
    | float _ _ => simp [plainB] at h
    | complex _ _ _ => simp [plainB] at h
    | chan r => cases r <;> simp [plainB] at h; exact .chan0
theorem undef_rel {ρ : Map} : VRel ρ undef undef := plain_rel 2 _ rfl

def Ext (ρ ρ' : Map) : Prop := ∀ b i, ρ b = some i → ρ' b = some i
theorem VRel.ext {ρ ρ' : Map} (e : Ext ρ ρ') {v v' : Value} (h : VRel ρ v v') : VRel ρ' v v' := by
  induction h with
  | bool b => exact .bool b
  | int k n => exact .int k n
  | string s => exact .string s
  | ptr0 => exact .ptr0
  | ptr b o i h => exact .ptr b o i (e _ _ h)
  | slice0 => exact .slice0
  | slice b o len cap i o' cap' h hl ho hc hn hr => exact .slice b o len cap i o' cap' (e _ _ h) hl ho hc hn hr
  | map0 => exact .map0
  | map b i h => exact .map b i (e _ _ h)
  | chan0 => exact .chan0
  | chan b i h => exact .chan b i (e _ _ h)
  | nilFunc => exact .nilFunc
  | func g l l' c c' hl _ kl _ ih ik => exact .func g l l' c c' hl ih kl ik
  | yield b i h hb => exact .yield b i (e _ _ h) hb
  | nilIface => exact .nilIface
  | iface t v v' _ ih => exact .iface t v v' ih
  | agg l l' hl _ ih => exact .agg l l' hl ih
  | tuple l l' hl _ ih => exact .tuple l l' hl ih
theorem VRels.ext {ρ ρ' : Map} (e : Ext ρ ρ') {l l' : List Value} (h : VRels ρ l l') : VRels ρ' l l' := ⟨h.1, fun j a b => (h.2 j a b).ext e⟩
theorem Ext.refl (ρ : Map) : Ext ρ ρ := fun _ _ h => h
theorem Ext.trans {a b c : Map} (h : Ext a b) (k : Ext b c) : Ext a c := fun _ _ e => k _ _ (h _ _ e)

theorem VRel.oneCell {ρ : Map} {v v' : Value} (h : VRel ρ v v') : oneCell v = v'.oneCell' := by cases h <;> rfl

/-! ## Blocks -/
structure MERel (ρ : Map) (e e' : MapEntry) : Prop where
  key : VRel ρ e.key e'.key
  val : VRel ρ e.val e'.val
  born : e.born = e'.born
def MRel (ρ : Map) (l l' : List MapEntry) : Prop := l.length = l'.length ∧ ∀ (j : Nat) (e e' : MapEntry), l[j]? = some e → l'[j]? = some e' → MERel ρ e e'

def ORel (ρ : Map) (o : Blk) (i : Info) (w : World) : Prop :=
  match o with
  | .cells cs wr opn => opn = i.opn ∧ ∃ c elem fr, w.heap[i.blk]? = some (.cells c elem fr) ∧ c.size = i.tot ∧ i.base + cs.length ≤ i.tot ∧
      VRels ρ cs ((c.toList.drop i.base).take cs.length) ∧ (wr = true → ∀ j, i.base ≤ j → j < i.tot → ¬ (fr.1 ≤ j ∧ j < fr.2)) ∧ (∀ z, opn = some z → elem = z.2 ∧ (z.1 = 0 → i.base = 0 ∧ i.tot = cs.length))
  | .map es clk => ∃ es' : Array MapEntry, w.heap[i.blk]? = some (.map es' clk) ∧ MRel ρ es es'.toList
  | .loop r => i.base = 0 ∧ codeOk r.assign = true ∧ codeOk r.body = true ∧ planOk r.plan r.assign = true ∧ planOk r.plan r.body = true ∧ flat r.assign = true ∧ flat r.body = true ∧
      ∃ L : Loop, w.heap[i.blk]? = some (.loop L) ∧ L.state = r.st ∧ L.pending = r.pending ∧ L.params = r.params ∧ L.assign = r.assign ∧ L.body = r.body ∧ VRels ρ r.tmps L.tmps.toList
  | .sit s pos => i.base = 0 ∧ w.heap[i.blk]? = some (.stringIter s pos)
  | .mit m since seen last => i.base = 0 ∧ ∃ m' : Option Nat, w.heap[i.blk]? = some (.mapIter m' since ⟨seen⟩ last) ∧
      (match m with | none => m' = none | some b => ∃ j, ρ b = some j ∧ m' = some j.blk)
  | .chan cap buf => ∃ (buf' : Array Value) (s r : Nat), w.heap[i.blk]? = some (.chan cap buf' false s r false) ∧ VRels ρ buf buf'.toList

structure Good (ρ : Map) (h : Heap) (w : World) : Prop where
  rel : ∀ b i o, ρ b = some i → h.get b = some o → ORel ρ o i w
  inj : ∀ b c i j, ρ b = some i → ρ c = some j → h.get b ≠ none → h.get c ≠ none → i.blk = j.blk → b = c
  lt : ∀ b i, ρ b = some i → i.blk < w.heap.size
  fresh : ∀ b, h.next ≤ b → h.get b = none

/-- from a state to one behind it. -/
structure Stp (ρ : Map) (h : Heap) (w : World) (ρ' : Map) (h' : Heap) (w' : World) : Prop where
  ext : Ext ρ ρ'
  dom : ∀ b, ρ b = none → ρ' b ≠ none → h.next ≤ b ∧ b < h'.next
  win : ∀ b, h.next ≤ b → b < h'.next → ρ b = none
  next : h.next ≤ h'.next
  vframe : ∀ b, b < h.next → ρ b = none → h'.get b = h.get b
  dead : ∀ b, b < h.next → h.get b = none → h'.get b = none
  grow : w.heap.size ≤ w'.heap.size
  rframe : ∀ r, r < w.heap.size → (∀ b i, ρ b = some i → h.get b ≠ none → i.blk ≠ r) → w'.heap[r]? = w.heap[r]?
  fromN : ∀ b i, ρ b = none → ρ' b = some i → w.heap.size ≤ i.blk ∨ ∃ c j, ρ c = some j ∧ h.get c ≠ none ∧ h'.get c = none ∧ j.blk = i.blk
  side : w'.os = w.os ∧ w'.output = w.output

theorem Stp.refl (ρ : Map) (h : Heap) (w : World) : Stp ρ h w ρ h w :=
  ⟨.refl _, fun _ a b => absurd a b, fun _ a b => by omega, Nat.le_refl _, fun _ _ _ => rfl, fun _ _ h => h, Nat.le_refl _, fun _ _ _ => rfl, fun _ _ a b => (by rw [a] at b; cases b), ⟨rfl, rfl⟩⟩
theorem Ext.back {ρ ρ' : Map} (e : Ext ρ ρ') {b : Nat} (h : ρ' b = none) : ρ b = none := by
  cases hq : ρ b with
  | none => rfl
  | some i => rw [e _ _ hq] at h; cases h
/-- what is there behind a step, and was mapped, was there. -/
theorem Stp.was {ρ ρ' : Map} {h h' : Heap} {w w' : World} (s : Stp ρ h w ρ' h' w') (f : ∀ b, h'.next ≤ b → h'.get b = none) {b : Nat} {i : Info} (hb : ρ b = some i) (hp : h'.get b ≠ none) :
    b < h.next ∧ h.get b ≠ none := by
  have h1 : b < h'.next := Nat.lt_of_not_le fun hx => hp (f b hx)
  have h2 : b < h.next := Nat.lt_of_not_le fun hx => by have := s.win b hx h1; rw [hb] at this; cases this
  exact ⟨h2, fun hx => hp (s.dead b h2 hx)⟩
theorem Stp.trans {ρ ρ' ρ'' : Map} {h h' h'' : Heap} {w w' w'' : World} (f0 : ∀ b, h.next ≤ b → h.get b = none) (f : ∀ b, h'.next ≤ b → h'.get b = none) (s : Stp ρ h w ρ' h' w') (t : Stp ρ' h' w' ρ'' h'' w'') : Stp ρ h w ρ'' h'' w'' where
  ext := s.ext.trans t.ext
  dom := fun b hb hb'' => by
    by_cases h1 : ρ' b = none
    · have := t.dom b h1 hb''; have := s.next; omega
    · have := s.dom b hb h1; have := t.next; omega
  win := fun b h1 h2 => by
    by_cases hq : b < h'.next
    · exact s.win b h1 hq
    · exact s.ext.back (t.win b (by omega) h2)
  next := Nat.le_trans s.next t.next
  vframe := fun b hb hn => by
    have h1 : ρ' b = none := by
      cases hq : ρ' b with
      | none => rfl
      | some i => have := (s.dom b hn (by rw [hq]; simp)).1; omega
    rw [t.vframe b (Nat.lt_of_lt_of_le hb s.next) h1, s.vframe b hb hn]
  dead := fun b hb hn => t.dead b (Nat.lt_of_lt_of_le hb s.next) (s.dead b hb hn)
  grow := Nat.le_trans s.grow t.grow
  side := ⟨t.side.1.trans s.side.1, t.side.2.trans s.side.2⟩
  rframe := fun r hr hq => by
    rw [t.rframe r (Nat.lt_of_lt_of_le hr s.grow) ?_, s.rframe r hr hq]
    intro b i hb hp
    cases h1 : ρ b with
    | none =>
      rcases s.fromN b i h1 hb with h2 | ⟨c, j, hc, hp', _, he⟩
      · omega
      · rw [← he]; exact hq c j hc hp'
    | some i0 =>
      have := s.ext _ _ h1
      rw [hb] at this; cases this
      exact hq b i h1 (s.was f h1 hp).2
  fromN := fun b i hb hb'' => by
    cases h1 : ρ' b with
    | some i' =>
      have := t.ext _ _ h1
      rw [hb''] at this; cases this
      rcases s.fromN b i hb h1 with h2 | ⟨c, j, hc, hp, hd, he⟩
      · exact .inl h2
      · refine .inr ⟨c, j, hc, hp, ?_, he⟩
        have hl : c < h.next := Nat.lt_of_not_le fun hx => hp (f0 c hx)
        exact t.dead c (Nat.lt_of_lt_of_le hl s.next) hd
    | none =>
      rcases t.fromN b i h1 hb'' with h2 | ⟨c, j, hc, hp, hd, he⟩
      · exact .inl (Nat.le_trans s.grow h2)
      · cases h3 : ρ c with
        | some j0 =>
          have := s.ext _ _ h3
          rw [hc] at this; cases this
          exact .inr ⟨c, j, h3, (s.was f h3 hp).2, hd, he⟩
        | none =>
          rcases s.fromN c j h3 hc with h4 | ⟨c0, j0, hc0, hp0, hd0, he0⟩
          · exact .inl (by omega)
          · refine .inr ⟨c0, j0, hc0, hp0, ?_, by omega⟩
            have hl : c0 < h.next := Nat.lt_of_not_le fun hx => hp0 (f0 c0 hx)
            exact t.dead c0 (Nat.lt_of_lt_of_le hl s.next) hd0
end Go.Vi
