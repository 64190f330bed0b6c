/- Vi8: the heap's laws; steps that make, change and drop a block. -/
import Derived.Test.YtdbicjhpgofpiaaGreatDoorVi7
namespace Go.Vi

def valB : List Bool → Nat
  | [] => 0
  | b :: p => (if b then 1 else 0) + 2 * valB p
theorem valB_bitsAt : ∀ (f n : Nat), n ≤ f → valB (bitsAt f n) = n := by
  intro f
  induction f with
  | zero => intro n h; have : n = 0 := by omega
            subst this; rfl
  | succ f ih =>
    intro n h
    unfold bitsAt
    by_cases hn : n = 0
    · rw [if_pos hn, hn]; rfl
    · rw [if_neg hn]
      simp only [valB]
      rw [ih (n / 2) (by omega)]
      by_cases h2 : n % 2 = 1
      · simp [h2]; omega
      · simp [h2]; omega
theorem bits_inj {n m : Nat} (h : bits n = bits m) : n = m := by
  rw [← valB_bitsAt n n (Nat.le_refl _), ← valB_bitsAt m m (Nat.le_refl _)]
  unfold bits at h; rw [h]
theorem Trie.get_leaf {α : Type} (p : List Bool) : (Trie.leaf : Trie α).get p = none := by cases p <;> rfl
theorem Trie.get_put {α : Type} (x : Option α) : ∀ (p : List Bool) (t : Trie α) (q : List Bool), (Trie.put x p t).get q = if q = p then x else t.get q := by
  intro p
  induction p with
  | nil =>
    intro t q
    cases t with
    | leaf => cases q with
      | nil => rfl
      | cons b q => cases b <;> simp [Trie.put, Trie.get]
    | node l v r => cases q with
      | nil => rfl
      | cons b q => cases b <;> simp [Trie.put, Trie.get]
  | cons b p ih =>
    intro t q
    cases t with
    | leaf =>
      cases b
      · cases q with
        | nil => simp [Trie.put, Trie.get]
        | cons c q => cases c
                      · simp [Trie.put, Trie.get, ih]
                      · simp [Trie.put, Trie.get]
      · cases q with
        | nil => simp [Trie.put, Trie.get]
        | cons c q => cases c
                      · simp [Trie.put, Trie.get]
                      · simp [Trie.put, Trie.get, ih]
    | node l v r =>
      cases b
      · cases q with
        | nil => simp [Trie.put, Trie.get]
        | cons c q => cases c <;> simp [Trie.put, Trie.get, ih]
      · cases q with
        | nil => simp [Trie.put, Trie.get]
        | cons c q => cases c <;> simp [Trie.put, Trie.get, ih]
theorem bits_eq {n m : Nat} : (bits n = bits m) = (n = m) := propext ⟨bits_inj, fun h => by rw [h]⟩
theorem get_set (h : Heap) (b : Nat) (o : Blk) (c : Nat) : (h.set b o).get c = if c = b then some o else h.get c := by
  simp only [Heap.get, Heap.set, Trie.get_put, bits_eq]
theorem get_kill (h : Heap) (b : Nat) (c : Nat) : (h.kill b).get c = if c = b then none else h.get c := by
  simp only [Heap.get, Heap.kill, Trie.get_put, bits_eq]
theorem get_new (h : Heap) (o : Blk) (c : Nat) : (h.new o).get c = if c = h.next then some o else h.get c := by
  simp only [Heap.get, Heap.new, Trie.get_put, bits_eq]

section
variable {ρ : Map}
theorem MRel.ext {ρ ρ' : Map} (e : Ext ρ ρ') {l l' : List MapEntry} (h : MRel ρ l l') : MRel ρ' l l' :=
  ⟨h.1, fun j a b ha hb => let m := h.2 j a b ha hb; ⟨m.key.ext e, m.val.ext e, m.born⟩⟩
theorem ORel.move {ρ ρ' : Map} (e : Ext ρ ρ') {o : Blk} {i : Info} {w w' : World} (hw : w'.heap[i.blk]? = w.heap[i.blk]?) (h : ORel ρ o i w) : ORel ρ' o i w' := by
  cases o with
  | cells cs wr opn =>
    obtain ⟨h1, c, el, fr, h2, h3, h4, h5, h6⟩ := h
    exact ⟨h1, c, el, fr, by rw [hw]; exact h2, h3, h4, h5.ext e, h6⟩
  | map es c =>
    obtain ⟨es', h1, h2⟩ := h
    exact ⟨es', by rw [hw]; exact h1, h2.ext e⟩
  | loop r =>
    obtain ⟨h0, c1, c2, c3, c4, c5, c6, L, h1, e1, e2, e3, e4, e5, h2⟩ := h
    exact ⟨h0, c1, c2, c3, c4, c5, c6, L, by rw [hw]; exact h1, e1, e2, e3, e4, e5, h2.ext e⟩
  | sit s pos => exact ⟨h.1, by rw [hw]; exact h.2⟩
  | mit m since seen last =>
    obtain ⟨h0, m', h1, h2⟩ := h
    refine ⟨h0, m', by rw [hw]; exact h1, ?_⟩
    cases m with
    | none => exact h2
    | some b => obtain ⟨j, hj, e2⟩ := h2; exact ⟨j, e _ _ hj, e2⟩
  | chan cap buf =>
    obtain ⟨buf', s, r, h1, h2⟩ := h
    exact ⟨buf', s, r, by rw [hw]; exact h1, h2.ext e⟩
def upd (ρ : Map) (n : Nat) (i : Info) : Map := fun b => if b = n then some i else ρ b
theorem upd_ext {n : Nat} (i : Info) (h : ρ n = none) : Ext ρ (upd ρ n i) := by
  intro b j hb
  unfold upd
  rw [if_neg (fun e => by rw [e, h] at hb; cases hb)]
  exact hb
theorem upd_self {n : Nat} {i : Info} : upd ρ n i n = some i := by simp [upd]

/-- what a state comes to: a value, a heap, a world. -/
structure Gets (ρ : Map) (h : Heap) (w : World) (h' : Heap) (v v' : Value) (w' : World) : Prop where
  out : ∃ ρ', VRel ρ' v v' ∧ Good ρ' h' w' ∧ Stp ρ h w ρ' h' w'

theorem step_new {h : Heap} {w w' : World} {o : Blk} {i : Info} (g : Good ρ h w) (hn : ρ h.next = none) (hb : i.blk = w.heap.size) (hsz2 : w'.heap.size = w.heap.size + 1 ∧ w'.os = w.os ∧ w'.output = w.output)
    (hold : ∀ r, r < w.heap.size → w'.heap[r]? = w.heap[r]?) (ho : ORel (upd ρ h.next i) o i w') :
    Good (upd ρ h.next i) (h.new o) w' ∧ Stp ρ h w (upd ρ h.next i) (h.new o) w' := by
  obtain ⟨hsz, hside⟩ := hsz2
  have e := upd_ext (ρ := ρ) i hn
  refine ⟨⟨?_, ?_, ?_, ?_⟩, ⟨e, ?_, ?_, ?_, ?_, ?_, ?_, ?_, ?_, hside⟩⟩
  · intro b j p hj hp
    rw [get_new] at hp
    unfold upd at hj
    split at hp
    · rename_i hbn; rw [if_pos hbn] at hj; cases hj; cases hp; exact ho
    · rename_i hbn; rw [if_neg hbn] at hj
      exact ORel.move e (hold _ (g.lt _ _ hj)) (g.rel _ _ _ hj hp)
  · intro b c j k hj hk pb pc he
    unfold upd at hj hk
    rw [get_new] at pb pc
    by_cases h1 : b = h.next
    · rw [if_pos h1] at hj; cases hj
      by_cases h2 : c = h.next
      · omega
      · rw [if_neg h2] at hk; have := g.lt _ _ hk; omega
    · rw [if_neg h1] at hj pb
      by_cases h2 : c = h.next
      · rw [if_pos h2] at hk; cases hk; have := g.lt _ _ hj; omega
      · rw [if_neg h2] at hk pc; exact g.inj _ _ _ _ hj hk pb pc he
  · intro b j hj
    unfold upd at hj
    split at hj
    · cases hj; omega
    · have := g.lt _ _ hj; omega
  · intro b hb'
    have hb'' : h.next + 1 ≤ b := hb'
    rw [get_new, if_neg (by omega)]; exact g.fresh b (by omega)
  · intro b hb' hb''
    unfold upd at hb''
    split at hb''
    · rename_i hx; exact ⟨by omega, by show b < h.next + 1; omega⟩
    · exact absurd hb' hb''
  · intro b h1 h2
    have h2' : b < h.next + 1 := h2
    have : b = h.next := by omega
    rw [this]; exact hn
  · show h.next ≤ h.next + 1; omega
  · intro b hb' _; rw [get_new, if_neg (by omega)]
  · intro b hb' hx; rw [get_new, if_neg (by omega)]; exact hx
  · omega
  · intro r hr _; exact hold r hr
  · intro b j hb' hj
    unfold upd at hj
    split at hj
    · cases hj; left; omega
    · rw [hb'] at hj; cases hj

theorem step_set {h : Heap} {w w' : World} {o : Blk} {b : Nat} {i : Info} (g : Good ρ h w) (hi : ρ b = some i) (hp : h.get b ≠ none) (hsz2 : w'.heap.size = w.heap.size ∧ w'.os = w.os ∧ w'.output = w.output)
    (hold : ∀ r, r ≠ i.blk → w'.heap[r]? = w.heap[r]?) (ho : ORel ρ o i w') :
    Good ρ (h.set b o) w' ∧ Stp ρ h w ρ (h.set b o) w' := by
  have hlt : b < h.next := Nat.lt_of_not_le fun hx => hp (g.fresh b hx)
  obtain ⟨hsz, hside⟩ := hsz2
  refine ⟨⟨?_, ?_, ?_, ?_⟩, ⟨.refl _, fun _ a b => absurd a b, fun c h1 h2 => ?_, Nat.le_refl _, ?_, ?_, by omega, ?_, fun _ _ a b => (by rw [a] at b; cases b), hside⟩⟩
  · intro c j p hj hp'
    rw [get_set] at hp'
    split at hp'
    · rename_i hc; subst hc; rw [hi] at hj; cases hj; cases hp'; exact ho
    · rename_i hc
      have hne : j.blk ≠ i.blk := fun he => hc (g.inj _ _ _ _ hj hi (by rw [hp']; simp) hp he)
      exact ORel.move (.refl _) (hold _ hne) (g.rel _ _ _ hj hp')
  · intro c d j k hj hk pc pd he
    rw [get_set] at pc pd
    refine g.inj _ _ _ _ hj hk ?_ ?_ he
    · split at pc
      · rename_i hx; rw [hx]; exact hp
      · exact pc
    · split at pd
      · rename_i hx; rw [hx]; exact hp
      · exact pd
  · intro c j hj; have := g.lt _ _ hj; omega
  · intro c hc
    have hc' : h.next ≤ c := hc
    rw [get_set, if_neg (by omega)]; exact g.fresh c hc'
  · have h2' : c < h.next := h2
    omega
  · intro c hc hn; rw [get_set, if_neg (fun e => by rw [e, hi] at hn; cases hn)]
  · intro c hc hx; rw [get_set, if_neg (fun e => hp (by rw [← e]; exact hx))]; exact hx
  · intro r hr hq; exact hold r (fun e => hq b i hi hp e.symm)

/-- the world alone has grown. -/
theorem step_grow {h : Heap} {w w' : World} (g : Good ρ h w) (hsz : w.heap.size ≤ w'.heap.size ∧ w'.os = w.os ∧ w'.output = w.output) (hold : ∀ r, r < w.heap.size → w'.heap[r]? = w.heap[r]?) :
    Good ρ h w' ∧ Stp ρ h w ρ h w' :=
  ⟨⟨fun b i o hb ho => ORel.move (.refl _) (hold _ (g.lt b i hb)) (g.rel b i o hb ho), g.inj, fun b i hb => Nat.lt_of_lt_of_le (g.lt b i hb) hsz.1, g.fresh⟩,
   ⟨.refl _, fun _ a b => absurd a b, fun _ a b => by omega, Nat.le_refl _, fun _ _ _ => rfl, fun _ _ h => h, hsz.1, fun r hr _ => hold r hr, fun _ _ a b => (by rw [a] at b; cases b), hsz.2⟩⟩
/-- a block turns that no block of the heap stands for. -/
theorem good_apart {h : Heap} {w w' : World} (g : Good ρ h w) {r : Nat} (hr : ∀ b i, ρ b = some i → i.blk ≠ r) (hsz : w'.heap.size = w.heap.size) (hold : ∀ k, k ≠ r → w'.heap[k]? = w.heap[k]?) : Good ρ h w' :=
  ⟨fun b i o hb ho => ORel.move (.refl _) (hold _ (hr b i hb)) (g.rel b i o hb ho), g.inj, fun b i hb => by rw [hsz]; exact g.lt b i hb, g.fresh⟩
theorem step_kill {h : Heap} {w : World} {b : Nat} {i : Info} (g : Good ρ h w) (hi : ρ b = some i) (_hlt : b < h.next) : Good ρ (h.kill b) w ∧ Stp ρ h w ρ (h.kill b) w := by
  refine ⟨⟨?_, ?_, g.lt, ?_⟩, ⟨.refl _, fun _ a b => absurd a b, fun c h1 h2 => ?_, Nat.le_refl _, ?_, ?_, Nat.le_refl _, fun _ _ _ => rfl, fun _ _ a b => (by rw [a] at b; cases b), ⟨rfl, rfl⟩⟩⟩
  · intro c j p hj hp'
    rw [get_kill] at hp'
    split at hp'
    · cases hp'
    · exact g.rel _ _ _ hj hp'
  · intro c d j k hj hk pc pd he
    rw [get_kill] at pc pd
    refine g.inj _ _ _ _ hj hk ?_ ?_ he
    · split at pc
      · exact absurd rfl pc
      · exact pc
    · split at pd
      · exact absurd rfl pd
      · exact pd
  · intro c hc
    have hc' : h.next ≤ c := hc
    rw [get_kill]; split
    · rfl
    · exact g.fresh c hc'
  · have h2' : c < h.next := h2
    omega
  · intro c hc hn; rw [get_kill, if_neg (fun e => by rw [e, hi] at hn; cases hn)]
  · intro c hc hx; rw [get_kill]; split
    · rfl
    · exact hx

/-- a block is taken over under a new name, in place. -/
theorem step_over {h : Heap} {w w' : World} {o : Blk} {b : Nat} {i j : Info} (g : Good ρ h w) (hi : ρ b = some i) (hp : h.get b ≠ none) (hn : ρ h.next = none) (hj : j.blk = i.blk) (hsz2 : w'.heap.size = w.heap.size ∧ w'.os = w.os ∧ w'.output = w.output)
    (hold : ∀ r, r ≠ i.blk → w'.heap[r]? = w.heap[r]?) (ho : ORel (upd ρ h.next j) o j w') :
    Good (upd ρ h.next j) ((h.new o).kill b) w' ∧ Stp ρ h w (upd ρ h.next j) ((h.new o).kill b) w' := by
  have hlt : b < h.next := Nat.lt_of_not_le fun hx => hp (g.fresh b hx)
  have e := upd_ext (ρ := ρ) j hn
  have hget : ∀ c, ((h.new o).kill b).get c = if c = b then none else if c = h.next then some o else h.get c := fun c => by rw [get_kill, get_new]
  obtain ⟨hsz, hside⟩ := hsz2
  refine ⟨⟨?_, ?_, ?_, ?_⟩, ⟨e, ?_, ?_, ?_, ?_, ?_, ?_, ?_, ?_, hside⟩⟩
  · intro c k p hk hp'
    rw [hget] at hp'
    split at hp'
    · cases hp'
    · rename_i hcb
      unfold upd at hk
      split at hp'
      · rename_i hc; rw [if_pos hc] at hk; cases hk; cases hp'; exact ho
      · rename_i hc; rw [if_neg hc] at hk
        have hne : k.blk ≠ i.blk := fun he => hcb (g.inj _ _ _ _ hk hi (by rw [hp']; simp) hp he)
        exact ORel.move e (hold _ hne) (g.rel _ _ _ hk hp')
  · intro c d k l hk hl pc pd he
    rw [hget] at pc pd
    unfold upd at hk hl
    by_cases c1 : c = b
    · rw [if_pos c1] at pc; exact absurd rfl pc
    by_cases d1 : d = b
    · rw [if_pos d1] at pd; exact absurd rfl pd
    rw [if_neg c1] at pc; rw [if_neg d1] at pd
    by_cases c2 : c = h.next
    · rw [if_pos c2] at hk; cases hk
      by_cases d2 : d = h.next
      · omega
      · rw [if_neg d2] at hl pd; exact absurd (g.inj _ _ _ _ hl hi pd hp (by omega)) d1
    · rw [if_neg c2] at hk pc
      by_cases d2 : d = h.next
      · rw [if_pos d2] at hl; cases hl; exact absurd (g.inj _ _ _ _ hk hi pc hp (by omega)) c1
      · rw [if_neg d2] at hl pd; exact g.inj _ _ _ _ hk hl pc pd he
  · intro c k hk
    unfold upd at hk
    split at hk
    · cases hk; have := g.lt _ _ hi; omega
    · have := g.lt _ _ hk; omega
  · intro c hc
    have hc' : h.next + 1 ≤ c := hc
    rw [hget]; split
    · rfl
    · rw [if_neg (by omega)]; exact g.fresh c (by omega)
  · intro c hc hc2
    unfold upd at hc2
    split at hc2
    · rename_i hx; exact ⟨by omega, by show c < h.next + 1; omega⟩
    · exact absurd hc hc2
  · intro c h1 h2
    have h2' : c < h.next + 1 := h2
    have : c = h.next := by omega
    rw [this]; exact hn
  · show h.next ≤ h.next + 1; omega
  · intro c hc hx; rw [hget, if_neg (fun e => by rw [e, hi] at hx; cases hx), if_neg (by omega)]
  · intro c hc hx; rw [hget]; split
    · rfl
    · rw [if_neg (by omega)]; exact hx
  · omega
  · intro r hr hq; exact hold r (fun e => hq b i hi hp e.symm)
  · intro c k hc hk
    unfold upd at hk
    split at hk
    · cases hk
      right
      refine ⟨b, i, hi, hp, ?_, hj.symm⟩
      rw [hget, if_pos rfl]
    · rw [hc] at hk; cases hk
end
end Go.Vi
