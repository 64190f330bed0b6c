/- Vi14d: what holds while a region is carried out in some order. -/
import Derived.Test.YtdbicjhpgofpiaaGreatDoorVi14c
namespace Go.Vi
section
variable {P : Program} {E : Env} {call : CallV} {ops : Array Oper} {T : Nat → Tmps} {H : Nat → Heap} {V : Nat → Value} {D : List Deferred} {rd : Option Nat}

def nx (ops : Array Oper) (k : Nat) : Nat := ((hidx ops)[k]?).getD ops.size
theorem hidx_mem {m c : Nat} (h : (hidx ops)[m]? = some c) : c < ops.size ∧ heavyAt ops c = true := by
  have := List.mem_of_getElem? h
  unfold hidx at this
  rw [List.mem_filter, List.mem_range] at this
  exact this
theorem hidx_has {j : Nat} (hj : j < ops.size) (h : heavyAt ops j = true) : ∃ m : Nat, (hidx ops)[m]? = some j := by
  have : j ∈ hidx ops := by unfold hidx; rw [List.mem_filter, List.mem_range]; exact ⟨hj, h⟩
  exact List.mem_iff_getElem?.1 this
theorem hidx_lt {m m' c c' : Nat} (h : (hidx ops)[m]? = some c) (h' : (hidx ops)[m']? = some c') (hm : m < m') : c < c' := by
  have hp : (hidx ops).Pairwise (· < ·) := List.Pairwise.filter _ List.pairwise_lt_range
  obtain ⟨h1, rfl⟩ := List.getElem?_eq_some_iff.1 h
  obtain ⟨h2, rfl⟩ := List.getElem?_eq_some_iff.1 h'
  exact List.pairwise_iff_getElem.1 hp m m' h1 h2 hm
theorem hidx_inj {m m' c : Nat} (h : (hidx ops)[m]? = some c) (h' : (hidx ops)[m']? = some c) : m = m' := by
  rcases Nat.lt_trichotomy m m' with h1 | h1 | h1
  · have := hidx_lt h h' h1; omega
  · exact h1
  · have := hidx_lt h' h h1; omega
theorem nx_le (k : Nat) : nx ops k ≤ ops.size := by
  unfold nx
  cases h : (hidx ops)[k]? with
  | none => exact Nat.le_refl _
  | some c => exact Nat.le_of_lt (hidx_mem h).1
theorem nx_some {k c : Nat} (h : (hidx ops)[k]? = some c) : nx ops k = c := by unfold nx; rw [h]; rfl
theorem nx_light {k c m : Nat} (h : (hidx ops)[k]? = some c) (h1 : c < m) (h2 : m < nx ops (k + 1)) : heavyAt ops m = false := by
  cases hh : heavyAt ops m with
  | false => rfl
  | true =>
    exfalso
    obtain ⟨i, hi⟩ := hidx_has (by have := nx_le (ops := ops) (k + 1); omega) hh
    have hki : k < i := by
      rcases Nat.lt_trichotomy k i with h3 | h3 | h3
      · exact h3
      · subst h3; rw [h] at hi; cases hi; omega
      · have := hidx_lt hi h h3; omega
    by_cases h4 : i = k + 1
    · subst h4; rw [nx_some hi] at h2; omega
    · have hlen := (List.getElem?_eq_some_iff.1 hi).1
      have h5 : (hidx ops)[k + 1]? = some ((hidx ops)[k + 1]'(by omega)) := List.getElem?_eq_getElem (by omega)
      have := hidx_lt h5 hi (by omega)
      rw [nx_some h5] at h2; omega
theorem nx0_light {m : Nat} (h2 : m < nx ops 0) : heavyAt ops m = false := by
  cases hh : heavyAt ops m with
  | false => rfl
  | true =>
    exfalso
    obtain ⟨i, hi⟩ := hidx_has (by have := nx_le (ops := ops) 0; omega) hh
    have hlen := (List.getElem?_eq_some_iff.1 hi).1
    have h5 : (hidx ops)[0]? = some ((hidx ops)[0]'(by omega)) := List.getElem?_eq_getElem (by omega)
    rw [nx_some h5] at h2
    by_cases h0 : i = 0
    · subst h0; rw [h5] at hi; simp only [Option.some.injEq] at hi; omega
    · have := hidx_lt h5 hi (by omega); omega
theorem nx_next {k c : Nat} (h : (hidx ops)[k]? = some c) : c < nx ops (k + 1) := by
  unfold nx
  cases h' : (hidx ops)[k + 1]? with
  | none => exact (hidx_mem h).1
  | some c' => exact hidx_lt h h' (by omega)
theorem chain_get {bef : List Nat} : ∀ (l : List Nat), chainOk bef l = true → ∀ (m a b : Nat), l[m]? = some a → l[m + 1]? = some b → (bef.getD b 0).testBit a = true := by
  intro l
  induction l with
  | nil => intro _ m a b h; simp at h
  | cons x l ih =>
    intro hc m a b h h'
    cases l with
    | nil => simp at h'
    | cons y r =>
      simp only [chainOk, Bool.and_eq_true] at hc
      cases m with
      | zero => simp at h h'; subst h; subst h'; exact hc.1
      | succ m => exact ih hc.2 m a b (by simpa using h) (by simpa using h')

/-- more blocks, of ids that are new. -/
theorem good_more {ρ : Map} {h h' : Heap} {w : World} (g : Good ρ h w) (hold : ∀ b, b < h.next → h'.get b = h.get b) (hf : ∀ b, h'.next ≤ b → h'.get b = none)
    (hrel : ∀ b i o, h.next ≤ b → ρ b = some i → h'.get b = some o → ORel ρ o i w)
    (hinj1 : ∀ b c i j, h.next ≤ b → ρ b = some i → h'.get b ≠ none → ρ c = some j → h.get c ≠ none → i.blk ≠ j.blk)
    (hinj2 : ∀ b c i j, h.next ≤ b → h.next ≤ c → ρ b = some i → ρ c = some j → h'.get b ≠ none → h'.get c ≠ none → i.blk = j.blk → b = c) : Good ρ h' w := by
  refine ⟨fun b i o hb ho => ?_, fun b c i j hb hc pb pc he => ?_, g.lt, hf⟩
  · by_cases hlt : b < h.next
    · rw [hold b hlt] at ho; exact g.rel _ _ _ hb ho
    · exact hrel b i o (by omega) hb ho
  · by_cases h1 : b < h.next
    · by_cases h2 : c < h.next
      · rw [hold b h1] at pb; rw [hold c h2] at pc; exact g.inj _ _ _ _ hb hc pb pc he
      · rw [hold b h1] at pb; exact absurd he.symm (hinj1 c b j i (by omega) hc pc hb pb)
    · by_cases h2 : c < h.next
      · rw [hold c h2] at pc; exact absurd he (hinj1 b c i j (by omega) hb pb hc pc)
      · exact hinj2 b c i j (by omega) (by omega) hb hc pb pc he
/-- a block that is made ahead of, or behind, its place in the text. -/
theorem good_add {ρ : Map} {h : Heap} {w w' : World} {b : Nat} {i : Info} (g : Good ρ h w) (hn : ρ b = none) (hb : i.blk = w.heap.size) (hsz : w'.heap.size = w.heap.size + 1)
    (hold : ∀ r, r < w.heap.size → w'.heap[r]? = w.heap[r]?) (ho : ∀ o, h.get b = some o → ORel (upd ρ b i) o i w') : Good (upd ρ b i) h w' := by
  have e := upd_ext (ρ := ρ) i hn
  refine ⟨fun c j o hc hp => ?_, fun c d j k hj hk pc pd he => ?_, fun c j hj => ?_, g.fresh⟩
  · unfold upd at hc
    split at hc
    · rename_i hx; cases hc; rw [hx] at hp; exact ho o hp
    · exact ORel.move e (hold _ (g.lt _ _ hc)) (g.rel _ _ _ hc hp)
  · unfold upd at hj hk
    by_cases h1 : c = b
    · rw [if_pos h1] at hj; cases hj
      by_cases h2 : d = b
      · omega
      · rw [if_neg h2] at hk; have := g.lt _ _ hk; omega
    · rw [if_neg h1] at hj
      by_cases h2 : d = b
      · rw [if_pos h2] at hk; cases hk; have := g.lt _ _ hj; omega
      · rw [if_neg h2] at hk; exact g.inj _ _ _ _ hj hk pc pd he
  · unfold upd at hj
    split at hj
    · cases hj; omega
    · have := g.lt _ _ hj; omega

structure Inv (E : Env) (ops : Array Oper) (T : Nat → Tmps) (H : Nat → Heap) (V : Nat → Value) (D : List Deferred) (ρ0 : Map) (w0 : World) (L : Nat → Prop) (k : Nat) (ρ : Map) (TL : Tmps) (a : Act) (w : World) : Prop where
  kle : k ≤ (hidx ops).length
  cnt : ∀ m c, (hidx ops)[m]? = some c → (L c ↔ m < k)
  tl : List.length TL = (T 0).length
  slot : ∀ d, d < (T 0).length → SlotIs ops T V L d (TL.getD d undef)
  trel : TRel ρ TL a
  d : a.defers = D
  good : Good ρ (H (nx ops k)) w
  dom : ∀ b, ρ0 b = none → ρ b ≠ none → ∃ j, L j ∧ j < ops.size ∧ (H j).next ≤ b ∧ b < (H (j + 1)).next
  notyet : ∀ j b, Al E ops T H j b → ¬ L j → j < nx ops k → (H (nx ops k)).get (H j).next = some b
  side : ∀ j b, Al E ops T H j b → L j → nx ops k < j → ∃ i, ρ (H j).next = some i ∧ ORel ρ b i w ∧ ∀ b' i', ρ b' = some i' → (H (nx ops k)).get b' ≠ none → i'.blk ≠ i.blk
  sinj : ∀ j1 j2 b1 b2 i1 i2, Al E ops T H j1 b1 → Al E ops T H j2 b2 → L j1 → L j2 → nx ops k < j1 → nx ops k < j2 → ρ (H j1).next = some i1 → ρ (H j2).next = some i2 → i1.blk = i2.blk → j1 = j2
  ext : Ext ρ0 ρ
  vframe : ∀ b, b < (H 0).next → ρ0 b = none → (H (nx ops k)).get b = (H 0).get b
  dead : ∀ b, b < (H 0).next → (H 0).get b = none → (H (nx ops k)).get b = none
  grow : w0.heap.size ≤ w.heap.size
  rframe : ∀ r, r < w0.heap.size → (∀ b i, ρ0 b = some i → (H 0).get b ≠ none → i.blk ≠ r) → w.heap[r]? = w0.heap[r]?
  fromN : ∀ b i, ρ0 b = none → ρ b = some i → w0.heap.size ≤ i.blk ∨ ∃ c j, ρ0 c = some j ∧ (H 0).get c ≠ none ∧ (H (nx ops k)).get c = none ∧ j.blk = i.blk
  same : w.os = w0.os ∧ w.output = w0.output

variable {ρ0 : Map} {w0 : World} {L : Nat → Prop} {k : Nat} {ρ : Map} {TL : Tmps} {a : Act} {w : World}

theorem inv_start (rk : RowOk P E) (ck : CallOk P call) (tr : Tr E call ops 0 T H V) (g : Good ρ0 (H 0) w0) (win : Win ρ0 (H 0) (H ops.size)) {a : Act} (ht : TRel ρ0 (T 0) a) (hd : a.defers = D) :
    Inv E ops T H V D ρ0 w0 (fun _ => False) 0 ρ0 (T 0) a w0 := by
  obtain ⟨q1, q2, q3, q4⟩ := light_seg rk ck tr (i := 0) g.fresh (nx ops 0) (by have := nx_le (ops := ops) 0; omega) (fun m _ h => nx0_light (by omega))
  rw [Nat.zero_add] at q1 q2 q3 q4
  have hle := next_le' rk ck tr (Nat.zero_le _) (nx_le (ops := ops) 0)
  have hle2 := next_le' rk ck tr (nx_le (ops := ops) 0) (Nat.le_refl _)
  have nomap : ∀ b i, (H 0).next ≤ b → ρ0 b = some i → (H (nx ops 0)).get b ≠ none → False := by
    intro b i h1 h2 h3
    have : b < (H (nx ops 0)).next := Nat.lt_of_not_le fun hx => h3 (q2 b hx)
    rw [win b h1 (by omega)] at h2; cases h2
  refine ⟨Nat.zero_le _, fun m c _ => ⟨fun h => h.elim, fun h => by omega⟩, rfl, fun d _ => .inr ⟨fun j o h => h.elim, rfl⟩, ht, hd, ?_, fun b h1 h2 => absurd h1 h2, fun j b hal _ hlt => q3 j b (Nat.zero_le _) hlt hal, fun j b _ h => h.elim,
    fun j1 j2 b1 b2 i1 i2 _ _ h => h.elim, .refl _, fun b h1 _ => q1 b h1, fun b h1 h2 => by rw [q1 b h1]; exact h2, Nat.le_refl _, fun _ _ _ => rfl, fun b i h1 h2 => (by rw [h1] at h2; cases h2), ⟨rfl, rfl⟩⟩
  exact good_more g q1 q2 (fun b i o h1 h2 h3 => (nomap b i h1 h2 (by rw [h3]; simp)).elim) (fun b c i j h1 h2 h3 => (nomap b i h1 h2 h3).elim) (fun b c i j h1 _ h2 _ h3 => (nomap b i h1 h2 h3).elim)

theorem cnt_light {j : Nat} (hl : heavyAt ops j = false) (cnt : ∀ m c, (hidx ops)[m]? = some c → (L c ↔ m < k)) : ∀ m c, (hidx ops)[m]? = some c → ((L c ∨ c = j) ↔ m < k) := by
  intro m c h
  have hc := (hidx_mem h).2
  constructor
  · rintro (h1 | h1)
    · exact (cnt m c h).1 h1
    · subst h1; rw [hl] at hc; cases hc
  · intro h1; exact .inl ((cnt m c h).2 h1)
theorem slot_light (iv : Inv E ops T H V D ρ0 w0 L k ρ TL a w) {j : Nat} {o : Oper} (ho : ops[j]? = some o) (hj : ¬ L j) (hlast : ∀ j' o', L j' → ops[j']? = some o' → ∀ d, o'.dst = some d → o.dst = some d → j' ≤ j) :
    ∀ d, d < (T 0).length → SlotIs ops T V (fun i => L i ∨ i = j) d ((putV TL o.dst (V j)).getD d undef) := by
  intro d hd
  refine slot_put ho hj (by rw [iv.tl]; exact hd) (fun j' o' h1 h2 h3 h4 => hlast j' o' h1 h2 d (by rw [h3, h4]) h4) (iv.slot d hd)
theorem tl_put (iv : Inv E ops T H V D ρ0 w0 L k ρ TL a w) (d : Option Tmp) (v : Value) : List.length (putV TL d v) = (T 0).length := by
  unfold putV
  split
  · rw [List.length_set]; exact iv.tl
  · exact iv.tl

/-- an operation that makes no block, and writes none. -/
theorem inv_value (iv : Inv E ops T H V D ρ0 w0 L k ρ TL a w) {j : Nat} {o : Oper} (ho : ops[j]? = some o) (hj : ¬ L j) (hl : heavyAt ops j = false) (hna : ∀ b, ¬ Al E ops T H j b)
    (hlast : ∀ j' o', L j' → ops[j']? = some o' → ∀ d, o'.dst = some d → o.dst = some d → j' ≤ j) {v' : Value} (hv : VRel ρ (V j) v') :
    Inv E ops T H V D ρ0 w0 (fun i => L i ∨ i = j) k ρ (putV TL o.dst (V j)) (a.put o.dst v') w := by
  refine ⟨iv.kle, cnt_light hl iv.cnt, tl_put iv _ _, slot_light iv ho hj hlast, iv.trel.put hv o.dst, by rw [put_defers]; exact iv.d, iv.good, fun b h1 h2 => ?_, fun i b hal hni => ?_, fun i b hal hi => ?_,
    fun j1 j2 b1 b2 i1 i2 h1 h2 h3 h4 => ?_, iv.ext, iv.vframe, iv.dead, iv.grow, iv.rframe, iv.fromN, iv.same⟩
  · obtain ⟨i, h3, h4⟩ := iv.dom b h1 h2
    exact ⟨i, .inl h3, h4⟩
  · exact iv.notyet i b hal (fun h => hni (.inl h))
  · rcases hi with hi | hi
    · exact iv.side i b hal hi
    · subst hi; exact absurd hal (hna b)
  · rcases h3 with h3 | h3
    · rcases h4 with h4 | h4
      · exact iv.sinj j1 j2 b1 b2 i1 i2 h1 h2 h3 h4
      · subst h4; exact absurd h2 (hna b2)
    · subst h3; exact absurd h1 (hna b1)

/-- an operation that makes a block. -/
theorem inv_new (rk : RowOk P E) (ck : CallOk P call) (tr : Tr E call ops 0 T H V) (win : Win ρ0 (H 0) (H ops.size)) (iv : Inv E ops T H V D ρ0 w0 L k ρ TL a w) {j : Nat} {o : Oper} {b : Blk} (ho : ops[j]? = some o) (hj : ¬ L j) (hl : heavyAt ops j = false)
    (hal : Al E ops T H j b) (hjn : j ≠ nx ops k) (hlast : ∀ j' o', L j' → ops[j']? = some o' → ∀ d, o'.dst = some d → o.dst = some d → j' ≤ j) {v' : Value} {w' : World} {i : Info}
    (hi : i.blk = w.heap.size) (hsz2 : w'.heap.size = w.heap.size + 1 ∧ w'.os = w.os ∧ w'.output = w.output) (hold : ∀ r, r < w.heap.size → w'.heap[r]? = w.heap[r]?) (hor : ORel ρ b i w') (hv : ∀ (ρ' : Map), ρ' (H j).next = some i → VRel ρ' (V j) v') :
    Inv E ops T H V D ρ0 w0 (fun m => L m ∨ m = j) k (upd ρ (H j).next i) (putV TL o.dst (V j)) (a.put o.dst v') w' := by
  obtain ⟨hsz, hside⟩ := hsz2
  have hjlt : j < ops.size := by
    obtain ⟨h1, _⟩ := Array.getElem?_eq_some_iff.1 ho; exact h1
  have hstep := (al_step tr hal).1
  have hnew : (H j).next < (H (j + 1)).next := by rw [hstep]; exact Nat.lt_succ_self _
  have h0j := next_le' rk ck tr (Nat.zero_le j) (Nat.le_of_lt hjlt)
  have hjn1 := next_le' rk ck tr (show j + 1 ≤ ops.size by omega) (Nat.le_refl _)
  have h0n : ρ0 (H j).next = none := win _ h0j (by omega)
  -- ids of other operations are others
  have apart : ∀ m c, Al E ops T H m c → m ≠ j → (H m).next ≠ (H j).next := by
    intro m c hm hne
    have hms := (al_step tr hm).1
    have hmn : (H m).next < (H (m + 1)).next := by rw [hms]; exact Nat.lt_succ_self _
    obtain ⟨_, _, hmo, _⟩ := hm
    have hmlt : m < ops.size := (Array.getElem?_eq_some_iff.1 hmo).1
    rcases Nat.lt_trichotomy m j with h | h | h
    · have := next_le' rk ck tr (show m + 1 ≤ j by omega) (Nat.le_of_lt hjlt); omega
    · exact absurd h hne
    · have := next_le' rk ck tr (show j + 1 ≤ m by omega) (Nat.le_of_lt hmlt); omega
  have hρn : ρ (H j).next = none := by
    cases hq : ρ (H j).next with
    | none => rfl
    | some x =>
      obtain ⟨m, hm, hmlt, q1, q2⟩ := iv.dom _ h0n (by rw [hq]; simp)
      exfalso
      rcases Nat.lt_trichotomy m j with h | h | h
      · have := next_le' rk ck tr (show m + 1 ≤ j by omega) (Nat.le_of_lt hjlt); omega
      · subst h; exact hj hm
      · have := next_le' rk ck tr (show j + 1 ≤ m by omega) (Nat.le_of_lt hmlt); omega
  have e := upd_ext (ρ := ρ) i hρn
  have hlt := iv.good.lt
  refine ⟨iv.kle, cnt_light hl iv.cnt, tl_put iv _ _, slot_light iv ho hj hlast, (iv.trel.ext e).put (hv _ upd_self) o.dst, by rw [put_defers]; exact iv.d, ?_, fun c h1 h2 => ?_, fun m c hm hni hmk => ?_, fun m c hm hml hmk => ?_, ?_,
    iv.ext.trans e, iv.vframe, iv.dead, by have := iv.grow; omega, fun r h1 h2 => ?_, fun c x h1 h2 => ?_, ⟨hside.1.trans iv.same.1, hside.2.trans iv.same.2⟩⟩
  · refine good_add iv.good hρn hi hsz hold fun x hx => ?_
    by_cases hjk : j < nx ops k
    · rw [iv.notyet j b hal hj hjk] at hx; cases hx
      exact ORel.move e rfl hor
    · have : (H (nx ops k)).next ≤ (H j).next := next_le' rk ck tr (by omega) (Nat.le_of_lt hjlt)
      rw [iv.good.fresh _ this] at hx; cases hx
  · unfold upd at h2
    split at h2
    · rename_i hx; exact ⟨j, .inr rfl, hjlt, by omega, by omega⟩
    · obtain ⟨m, h3, h4⟩ := iv.dom c h1 h2; exact ⟨m, .inl h3, h4⟩
  · exact iv.notyet m c hm (fun h => hni (.inl h)) hmk
  · rcases hml with hml | hml
    · obtain ⟨x, h1, h2, h3⟩ := iv.side m c hm hml hmk
      refine ⟨x, e _ _ h1, ORel.move e (hold _ (hlt _ _ h1)) h2, fun b' i' h4 h5 => ?_⟩
      unfold upd at h4
      split at h4
      · cases h4; have := hlt _ _ h1; omega
      · exact h3 b' i' h4 h5
    · subst hml
      have := hm.uniq hal; subst this
      refine ⟨i, upd_self, ORel.move e rfl hor, fun b' i' h4 h5 => ?_⟩
      unfold upd at h4
      split at h4
      · rename_i hx
        subst hx
        have : (H (nx ops k)).next ≤ (H m).next := next_le' rk ck tr (by omega) (Nat.le_of_lt hjlt)
        exact absurd (iv.good.fresh _ this) h5
      · have := hlt _ _ h4; omega
  · intro j1 j2 b1 b2 i1 i2 h1 h2 h3 h4 h5 h6 h7 h8 h9
    by_cases c1 : j1 = j
    · by_cases c2 : j2 = j
      · omega
      · rcases h4 with h4 | h4
        · subst c1
          have : upd ρ (H j1).next i (H j1).next = some i := upd_self
          rw [this] at h7; cases h7
          unfold upd at h8
          rw [if_neg (apart j2 b2 h2 c2)] at h8
          have := hlt _ _ h8; omega
        · exact absurd h4 c2
    · rcases h3 with h3 | h3
      · unfold upd at h7
        rw [if_neg (apart j1 b1 h1 c1)] at h7
        by_cases c2 : j2 = j
        · subst c2
          have : upd ρ (H j2).next i (H j2).next = some i := upd_self
          rw [this] at h8; cases h8
          have := hlt _ _ h7; omega
        · rcases h4 with h4 | h4
          · unfold upd at h8
            rw [if_neg (apart j2 b2 h2 c2)] at h8
            exact iv.sinj j1 j2 b1 b2 i1 i2 h1 h2 h3 h4 h5 h6 h7 h8 h9
          · exact absurd h4 c2
      · exact absurd h3 c1
  · rw [hold r (by have := iv.grow; omega)]; exact iv.rframe r h1 h2
  · unfold upd at h2
    split at h2
    · cases h2; left; have := iv.grow; omega
    · exact iv.fromN c x h1 h2

/-- an operation that writes, or calls. -/
theorem inv_heavy (rk : RowOk P E) (ck : CallOk P call) (tr : Tr E call ops 0 T H V) (win : Win ρ0 (H 0) (H ops.size)) (f0 : ∀ b, (H 0).next ≤ b → (H 0).get b = none) (iv : Inv E ops T H V D ρ0 w0 L k ρ TL a w) {j : Nat} {o : Oper} (ho : ops[j]? = some o) (hj : ¬ L j)
    (hk : (hidx ops)[k]? = some j) (hlast : ∀ j' o', L j' → ops[j']? = some o' → ∀ d, o'.dst = some d → o.dst = some d → j' ≤ j) {v' : Value} {w' : World} {ρ' : Map}
    (hv : VRel ρ' (V j) v') (g' : Good ρ' (H (j + 1)) w') (s : Stp ρ (H j) w ρ' (H (j + 1)) w') :
    Inv E ops T H V D ρ0 w0 (fun m => L m ∨ m = j) (k + 1) ρ' (putV TL o.dst (V j)) (a.put o.dst v') w' := by
  have hnx := nx_some hk
  have good := iv.good
  have dead0 := iv.dead
  have vframe0 := iv.vframe
  have side0 := iv.side
  have sinj0 := iv.sinj
  have notyet0 := iv.notyet
  have fromN0 := iv.fromN
  rw [hnx] at good dead0 vframe0 side0 sinj0 notyet0 fromN0
  have hjlt : j < ops.size := (hidx_mem hk).1
  have hnk := nx_next hk
  have hnkle := nx_le (ops := ops) (k + 1)
  obtain ⟨q1, q2, q3, q4⟩ := light_seg rk ck tr (i := j + 1) g'.fresh (nx ops (k + 1) - (j + 1)) (by omega) (fun m h1 h2 => nx_light hk (by omega) (by omega))
  rw [show j + 1 + (nx ops (k + 1) - (j + 1)) = nx ops (k + 1) by omega] at q1 q2 q3 q4
  have n0j := next_le' rk ck tr (Nat.zero_le j) (Nat.le_of_lt hjlt)
  have njj := s.next
  have njk := next_le' rk ck tr (show j + 1 ≤ nx ops (k + 1) by omega) hnkle
  have nkn := next_le' rk ck tr hnkle (Nat.le_refl _)
  -- what is there ahead of the operation, and was mapped at the start, was there at the start
  have was0 : ∀ b i, ρ0 b = some i → (H j).get b ≠ none → b < (H 0).next ∧ (H 0).get b ≠ none := by
    intro b i h1 h2
    have h3 : b < (H j).next := Nat.lt_of_not_le fun hx => h2 (good.fresh b hx)
    have h4 : b < (H 0).next := Nat.lt_of_not_le fun hx => by rw [win b hx (by omega)] at h1; cases h1
    exact ⟨h4, fun hx => h2 (dead0 b h4 hx)⟩
  have domlo : ∀ b, ρ0 b = none → ρ b ≠ none → (H 0).next ≤ b := by
    intro b h1 h2
    obtain ⟨m, _, hm, h3, _⟩ := iv.dom b h1 h2
    have := next_le' rk ck tr (Nat.zero_le m) (Nat.le_of_lt hm); omega
  -- a block that was made ahead of its place
  have early : ∀ b i, (H (j + 1)).next ≤ b → b < (H ops.size).next → ρ' b = some i → ∀ m c, Al E ops T H m c → b = (H m).next → L m ∧ ρ b = some i ∧ j < m := by
    intro b i h1 h2 h3 m c hm hb
    have hmn : (H m).next < (H (m + 1)).next := by rw [(al_step tr hm).1]; exact Nat.lt_succ_self _
    have hmo : m < ops.size := by obtain ⟨_, _, hmo, _⟩ := hm; exact (Array.getElem?_eq_some_iff.1 hmo).1
    have h4 : ρ b = some i := by
      cases hq : ρ b with
      | none => have := (s.dom b hq (by rw [h3]; simp)).2; omega
      | some x => have := s.ext _ _ hq; rw [h3] at this; rw [this]
    have h5 : ρ0 b = none := win b (by omega) h2
    obtain ⟨m', hm', hm'lt, h6, h7⟩ := iv.dom b h5 (by rw [h4]; simp)
    have : m' = m := by
      rcases Nat.lt_trichotomy m' m with h | h | h
      · have := next_le' rk ck tr (show m' + 1 ≤ m by omega) (Nat.le_of_lt hmo); omega
      · exact h
      · have := next_le' rk ck tr (show m + 1 ≤ m' by omega) (Nat.le_of_lt hm'lt); omega
    subst this
    refine ⟨hm', h4, ?_⟩
    rcases Nat.lt_trichotomy m' j with h | h | h
    · have := next_le' rk ck tr (show m' + 1 ≤ j by omega) (Nat.le_of_lt hjlt); omega
    · subst h; exact absurd hm' hj
    · exact h
  -- what a block made ahead of its place is kept apart from
  have apart1 : ∀ m c i, Al E ops T H m c → L m → j < m → ρ (H m).next = some i → w'.heap[i.blk]? = w.heap[i.blk]? ∧ ORel ρ c i w ∧ ∀ b' i', b' < (H (j + 1)).next → ρ' b' = some i' → (H (j + 1)).get b' ≠ none → i'.blk ≠ i.blk := by
    intro m c i hm hml hmj hi
    obtain ⟨x, h1, h2, h3⟩ := side0 m c hm hml hmj
    rw [hi] at h1; cases h1
    refine ⟨s.rframe _ (good.lt _ _ hi) (fun b' i' h4 h5 => h3 b' i' h4 h5), h2, fun b' i' h4 h5 h6 => ?_⟩
    cases hq : ρ b' with
    | some y =>
      have := s.ext _ _ hq
      rw [h5] at this; cases this
      exact h3 b' i' hq (s.was g'.fresh hq h6).2
    | none =>
      rcases s.fromN b' i' hq h5 with h7 | ⟨c0, j0, h7, h8, h9, h10⟩
      · have := good.lt _ _ hi; omega
      · rw [← h10]; exact h3 c0 j0 h7 h8
  have good' : Good ρ' (H (nx ops (k + 1))) w' := by
    refine good_more g' q1 q2 (fun b i x h1 h2 h3 => ?_) (fun b c i i2 h1 h2 h3 h4 h5 => ?_) (fun b c i i2 h1 h2 h3 h4 h5 h6 h7 => ?_)
    · obtain ⟨m, y, h4, h5, h6, h7⟩ := q4 b h1 (by rw [h3]; simp)
      have hb : b < (H (nx ops (k + 1))).next := Nat.lt_of_not_le fun hx => by rw [q2 b hx] at h3; cases h3
      obtain ⟨hml, hmρ, hmj⟩ := early b i h1 (by omega) h2 m y h6 h7
      subst h7
      rw [q3 m y h4 h5 h6] at h3; cases h3
      obtain ⟨h8, h9, _⟩ := apart1 m _ i h6 hml hmj hmρ
      exact ORel.move s.ext h8 h9
    · obtain ⟨m, y, h6, h7, h8, h9⟩ := q4 b h1 h3
      have hb : b < (H (nx ops (k + 1))).next := Nat.lt_of_not_le fun hx => h3 (q2 b hx)
      obtain ⟨hml, hmρ, hmj⟩ := early b i h1 (by omega) h2 m y h8 h9
      subst h9
      have hc : c < (H (j + 1)).next := Nat.lt_of_not_le fun hx => h5 (g'.fresh c hx)
      exact fun he => (apart1 m _ i h8 hml hmj hmρ).2.2 c i2 hc h4 h5 he.symm
    · obtain ⟨m, y, h8, h9, h10, h11⟩ := q4 b h1 h5
      obtain ⟨m2, y2, k8, k9, k10, k11⟩ := q4 c h2 h6
      have hb : b < (H (nx ops (k + 1))).next := Nat.lt_of_not_le fun hx => h5 (q2 b hx)
      have hc : c < (H (nx ops (k + 1))).next := Nat.lt_of_not_le fun hx => h6 (q2 c hx)
      obtain ⟨hml, hmρ, hmj⟩ := early b i h1 (by omega) h3 m y h10 h11
      obtain ⟨kml, kmρ, kmj⟩ := early c i2 h2 (by omega) h4 m2 y2 k10 k11
      subst h11; subst k11
      rw [sinj0 m m2 _ _ i i2 h10 k10 hml kml hmj kmj hmρ kmρ h7]
  have hbig : ∀ m c, Al E ops T H m c → nx ops (k + 1) < m → (H (j + 1)).next ≤ (H m).next ∧ (H m).next < (H ops.size).next := by
    intro m c hm hlt
    have hmo : m < ops.size := by obtain ⟨_, _, hmo, _⟩ := hm; exact (Array.getElem?_eq_some_iff.1 hmo).1
    have hmn : (H m).next < (H (m + 1)).next := by rw [(al_step tr hm).1]; exact Nat.lt_succ_self _
    have h1 := next_le' rk ck tr (show j + 1 ≤ m by omega) (Nat.le_of_lt hmo)
    have h2 := next_le' rk ck tr (show m + 1 ≤ ops.size by omega) (Nat.le_refl _)
    omega
  refine ⟨?_, ?_, tl_put iv _ _, slot_light iv ho hj hlast, (iv.trel.ext s.ext).put hv o.dst, by rw [put_defers]; exact iv.d, good', fun b h1 h2 => ?_, fun m b hm hni hmk => ?_, fun m b hm hml hmk => ?_, ?_, iv.ext.trans s.ext, fun b h1 h2 => ?_,
    fun b h1 h2 => ?_, Nat.le_trans iv.grow s.grow, fun r h1 h2 => ?_, fun b i h1 h2 => ?_, ⟨s.side.1.trans iv.same.1, s.side.2.trans iv.same.2⟩⟩
  · have := (List.getElem?_eq_some_iff.1 hk).1; omega
  · intro m c hc
    constructor
    · rintro (h | h)
      · have := (iv.cnt m c hc).1 h; omega
      · subst h; have := hidx_inj hc hk; omega
    · intro h
      by_cases hmk : m = k
      · subst hmk; rw [hk] at hc; cases hc; exact .inr rfl
      · exact .inl ((iv.cnt m c hc).2 (by omega))
  · cases hq : ρ b with
    | some x => obtain ⟨m, h3, h4⟩ := iv.dom b h1 (by rw [hq]; simp); exact ⟨m, .inl h3, h4⟩
    | none => have := s.dom b hq h2; exact ⟨j, .inr rfl, hjlt, this⟩
  · -- blocks whose operation has not been carried out stay as they were made
    have hmo : m < ops.size := by obtain ⟨_, _, hmo, _⟩ := hm; exact (Array.getElem?_eq_some_iff.1 hmo).1
    have hmn : (H m).next < (H (m + 1)).next := by rw [(al_step tr hm).1]; exact Nat.lt_succ_self _
    by_cases hmj : m < j
    · have h1 := notyet0 m b hm (fun h => hni (.inl h)) hmj
      have h2 := next_le' rk ck tr (show m + 1 ≤ j by omega) (Nat.le_of_lt hjlt)
      have h3 : ρ (H m).next = none := by
        cases hq : ρ (H m).next with
        | none => rfl
        | some x =>
          have h5 := next_le' rk ck tr (Nat.zero_le m) (Nat.le_of_lt hmo)
          have h4 : ρ0 (H m).next = none := win _ h5 (by have := next_le' rk ck tr (show m + 1 ≤ ops.size by omega) (Nat.le_refl _); omega)
          obtain ⟨m', hm', hm'lt, h6, h7⟩ := iv.dom _ h4 (by rw [hq]; simp)
          have : m' = m := by
            rcases Nat.lt_trichotomy m' m with h | h | h
            · have := next_le' rk ck tr (show m' + 1 ≤ m by omega) (Nat.le_of_lt hmo); omega
            · exact h
            · have := next_le' rk ck tr (show m + 1 ≤ m' by omega) (Nat.le_of_lt hm'lt); omega
          subst this
          exact absurd (.inl hm') hni
      rw [q1 _ (by omega), s.vframe _ (by omega) h3]
      exact h1
    · by_cases hmj2 : m = j
      · exact absurd (.inr hmj2) hni
      · exact q3 m b (by omega) hmk hm
  · -- what is still ahead of its place
    obtain ⟨h1, h2⟩ := hbig m b hm hmk
    rcases hml with hml | hml
    · obtain ⟨x, h3, h4, h5⟩ := side0 m b hm hml (by omega)
      obtain ⟨h6, h7, h8⟩ := apart1 m b x hm hml (by omega) h3
      refine ⟨x, s.ext _ _ h3, ORel.move s.ext h6 h7, fun b' i' h9 h10 => ?_⟩
      by_cases hb' : b' < (H (j + 1)).next
      · rw [q1 b' hb'] at h10; exact h8 b' i' hb' h9 h10
      · obtain ⟨m2, y2, k4, k5, k6, k7⟩ := q4 b' (by omega) h10
        have hb2 : b' < (H (nx ops (k + 1))).next := Nat.lt_of_not_le fun hx => h10 (q2 b' hx)
        obtain ⟨kml, kmρ, kmj⟩ := early b' i' (by omega) (by omega) h9 m2 y2 k6 k7
        subst k7
        intro he
        have := sinj0 m2 m y2 b i' x k6 hm kml hml kmj (by omega) kmρ h3 he
        omega
    · omega
  · intro j1 j2 b1 b2 i1 i2 h1 h2 h3 h4 h5 h6 h7 h8 h9
    obtain ⟨e1, e2⟩ := hbig j1 b1 h1 h5
    obtain ⟨e3, e4⟩ := hbig j2 b2 h2 h6
    obtain ⟨r1, r2, r3⟩ := early _ i1 e1 e2 h7 j1 b1 h1 rfl
    obtain ⟨t1, t2, t3⟩ := early _ i2 e3 e4 h8 j2 b2 h2 rfl
    exact sinj0 j1 j2 b1 b2 i1 i2 h1 h2 r1 t1 r3 t3 r2 t2 h9
  · have h3 : ρ b = none := by
      cases hq : ρ b with
      | none => rfl
      | some x => have := domlo b h2 (by rw [hq]; simp); omega
    rw [q1 b (by omega), s.vframe b (by omega) h3]; exact vframe0 b h1 h2
  · rw [q1 b (by omega)]; exact s.dead b (by omega) (dead0 b h1 h2)
  · rw [s.rframe r (by have := iv.grow; omega) (fun b i h3 h4 => ?_)]
    · exact iv.rframe r h1 h2
    · cases hq : ρ0 b with
      | some x =>
        have := iv.ext _ _ hq
        rw [h3] at this; cases this
        exact h2 b i hq (was0 b i hq h4).2
      | none =>
        rcases fromN0 b i hq h3 with h5 | ⟨c, x, h5, h6, h7, h8⟩
        · omega
        · rw [← h8]; exact h2 c x h5 h6
  · cases hq : ρ b with
    | some x =>
      have := s.ext _ _ hq
      rw [h2] at this; cases this
      rcases fromN0 b i h1 hq with h3 | ⟨c, x, h3, h4, h5, h6⟩
      · exact .inl h3
      · have hc : c < (H 0).next := Nat.lt_of_not_le fun hx => h4 (f0 c hx)
        exact .inr ⟨c, x, h3, h4, by rw [q1 c (by omega)]; exact s.dead c (by omega) h5, h6⟩
    | none =>
      rcases s.fromN b i hq h2 with h3 | ⟨c, x, h3, h4, h5, h6⟩
      · left; have := iv.grow; omega
      · have hc : c < (H j).next := Nat.lt_of_not_le fun hx => h4 (good.fresh c hx)
        cases hq0 : ρ0 c with
        | some y =>
          have := iv.ext _ _ hq0
          rw [h3] at this; cases this
          exact .inr ⟨c, x, hq0, (was0 c x hq0 h4).2, by rw [q1 c (by omega)]; exact h5, h6⟩
        | none =>
          rcases fromN0 c x hq0 h3 with h7 | ⟨c0, x0, h7, h8, h9, h10⟩
          · left; omega
          · have hc0 : c0 < (H 0).next := Nat.lt_of_not_le fun hx => h8 (f0 c0 hx)
            exact .inr ⟨c0, x0, h7, h8, by rw [q1 c0 (by omega)]; exact s.dead c0 (by omega) h9, by omega⟩
end
end Go.Vi
