/- Vi5: operations that touch no memory: addresses, parts, all of them. -/
import Derived.Test.YtdbicjhpgofpiaaGreatDoorVi4
namespace Go.Vi
section
variable {P : Program} {E : Env} {ρ : Map}

theorem add_rel {b o n : Nat} {i : Info} (h : ρ b = some i) (o' : Nat) (ho : o' = i.base + o) :
    VRel ρ (.pointer (some (Addr.add ⟨b, o, none⟩ n))) (.pointer (some (Addr.add ⟨i.blk, o', none⟩ n))) := by
  subst ho
  unfold Addr.add
  by_cases hn : n = 0
  · simp only [hn, if_true]; exact .ptr b o i h
  · simp only [hn, if_false]
    rw [Nat.add_assoc]
    exact .ptr b (o + n) i h
theorem ptr_inv {a : Addr} {v' : Value} (h : VRel ρ (.pointer (some a)) v') : ∃ i, ρ a.block = some i ∧ a.spot = none ∧ v' = .pointer (some ⟨i.blk, i.base + a.off, none⟩) := by
  cases h with
  | ptr b o i h => exact ⟨i, h, rfl, rfl⟩

theorem fieldAddr_run (ko : TysOk P E) {s : TypeId} {x x' v : Value} {f : Nat} (hx : VRel ρ x x') (h : fieldAddrV E s x f = some v) : RunsV P ρ (Instr.fieldAt s x' f) v := by
  unfold fieldAddrV at h
  replace h := bind_some.1 h; obtain ⟨i, hi, h⟩ := h
  split at h
  · rename_i fs a hu
    replace h := bind_some.1 h; obtain ⟨fd, hf, h⟩ := h
    replace h := bind_some.1 h; obtain ⟨e, he, h⟩ := h
    split at h
    · cases h
    · rename_i hs
      cases h
      obtain ⟨j, hj, hsp, rfl⟩ := ptr_inv hx
      obtain ⟨b, o, sp⟩ := a
      simp only at hsp hj; subst hsp
      refine ⟨_, add_rel (n := fd.offset) hj _ rfl, fun w => ?_⟩
      simp [Instr.fieldAt, run_und (ko _ _ hi), hu, hf, Instr.sureAddr, fieldPlace, run_size (ko _ _ he), hs]
  · cases h
theorem indexAddr_run (ko : TysOk P E) {t : TypeId} {x x' ix ix' v : Value} (hx : VRel ρ x x') (hix : VRel ρ ix ix') (h : indexAddrV E t x ix = some v) : RunsV P ρ (Instr.indexAt t x' ix') v := by
  unfold indexAddrV at h
  replace h := bind_some.1 h; obtain ⟨i, hi, h⟩ := h
  replace h := bind_some.1 h; obtain ⟨n, hn, h⟩ := h
  obtain ⟨k, rfl, rfl⟩ := intOf_inv hix hn
  split at h
  · rename_i len elem a hu
    replace h := bind_some.1 h; obtain ⟨e, he, h⟩ := h
    split at h
    · rename_i hb
      cases h
      obtain ⟨j, hj, hsp, rfl⟩ := ptr_inv hx
      obtain ⟨b, o, sp⟩ := a
      simp only at hsp hj; subst hsp
      refine ⟨_, add_rel (n := n.toNat * e.size) hj _ rfl, fun w => ?_⟩
      have : 0 ≤ n ∧ n < (len : Int) := ⟨hb.1, hb.2.1⟩
      simp [Instr.indexAt, asIntOf, run_und (ko _ _ hi), hu, Instr.sureAddr, run_size (ko _ _ he), this]
    · cases h
  · rename_i elem a len cap hu
    replace h := bind_some.1 h; obtain ⟨e, he, h⟩ := h
    split at h
    · rename_i hb
      cases h
      cases hx with
      | slice b o _ _ j o' cap' hj hl ho hc hn' hr =>
        have ho : o' = j.base + o := by
          rcases ho with ho | ho
          · exact ho
          · have := hb.2.1; omega
        refine ⟨_, add_rel (n := n.toNat * e.size) hj o' ho, fun w => ?_⟩
        have : 0 ≤ n ∧ n < (len : Int) := ⟨hb.1, hb.2.1⟩
        simp [Instr.indexAt, asIntOf, run_und (ko _ _ hi), hu, run_size (ko _ _ he), this]
    · cases h
  · cases h
theorem index_run (ko : TysOk P E) {t : TypeId} {x x' ix ix' v : Value} (hx : VRel ρ x x') (hix : VRel ρ ix ix') (h : indexV E t x ix = some v) : RunsV P ρ (Instr.index t x' ix') v := by
  unfold indexV at h
  replace h := bind_some.1 h; obtain ⟨i, hi, h⟩ := h
  replace h := bind_some.1 h; obtain ⟨n, hn, h⟩ := h
  obtain ⟨k, rfl, rfl⟩ := intOf_inv hix hn
  split at h
  · rename_i len elem cs hu
    replace h := bind_some.1 h; obtain ⟨e, he, h⟩ := h
    split at h
    · rename_i hb
      obtain ⟨cs', rfl, rc⟩ := hx.agg_inv
      obtain ⟨v', rv, run⟩ := part_run (ko _ _ he) rc h
      exact ⟨v', rv, fun w => by simp [Instr.index, asIntOf, run_und (ko _ _ hi), hu, run_size (ko _ _ he), hb, run]⟩
    · cases h
  · rename_i s hu
    split at h
    · rename_i hb
      rw [hx.string_inv]
      obtain ⟨c, hc, rfl⟩ := Option.map_eq_some_iff.1 h
      have hc' : s[n.toNat]? = some c := by
        have : s.data[n.toNat]? = some c := by rw [← Array.getElem?_toList]; exact hc
        obtain ⟨hlt, hget⟩ := Array.getElem?_eq_some_iff.1 this
        exact getElem?_pos s n.toNat hlt |>.trans (by rw [← hget]; rfl)
      exact ⟨_, .int _ _, fun w => by simp [Instr.index, asIntOf, run_und (ko _ _ hi), hu, hb, hc']⟩
    · cases h
  · cases h
theorem field_run (ko : TysOk P E) {t : TypeId} {x x' v : Value} {f : Nat} (hx : VRel ρ x x') (h : fieldV E t x f = some v) : RunsV P ρ (Instr.field t x' f) v := by
  unfold fieldV at h
  replace h := bind_some.1 h; obtain ⟨i, hi, h⟩ := h
  split at h
  · rename_i fs cs hu
    replace h := bind_some.1 h; obtain ⟨fd, hf, h⟩ := h
    replace h := bind_some.1 h; obtain ⟨e, he, h⟩ := h
    obtain ⟨cs', rfl, rc⟩ := hx.agg_inv
    obtain ⟨v', rv, run⟩ := part_run (ko _ _ he) rc h
    exact ⟨v', rv, fun w => by simp [Instr.field, run_und (ko _ _ hi), hu, hf, asAgg, run]⟩
  · cases h

/-- the parts of an aggregate. -/
def PRel (ρ : Map) (l l' : List (Nat × Value)) : Prop := l.length = l'.length ∧ ∀ (j : Nat) (p p' : Nat × Value), l[j]? = some p → l'[j]? = some p' → p.1 = p'.1 ∧ VRel ρ p.2 p'.2
theorem PRel.cons_inv {ρ : Map} {n : Nat} {v : Value} {l l' : List (Nat × Value)} (h : PRel ρ ((n, v) :: l) l') : ∃ v' r', l' = (n, v') :: r' ∧ VRel ρ v v' ∧ PRel ρ l r' := by
  cases l' with
  | nil => have := h.1; simp at this
  | cons p r' =>
    obtain ⟨m, v'⟩ := p
    have := h.2 0 (n, v) (m, v') rfl rfl
    simp only at this
    obtain ⟨rfl, hv⟩ := this
    exact ⟨v', r', rfl, hv, by simpa using h.1, fun j p p' hp hp' => h.2 (j + 1) p p' (by simpa using hp) (by simpa using hp')⟩
theorem put_cells (off : Nat) : ∀ (l : List Value) (j : Nat) (cs : Array Value), off + j + l.length ≤ cs.size →
    (((l.zipIdx j).foldl (fun (cs : Array Value) (p : Value × Nat) => cs.setIfInBounds (off + p.2) p.1) cs).toList = splice cs.toList (off + j) l) := by
  intro l
  induction l with
  | nil => intro j cs h; simp [splice]
  | cons v l ih =>
    intro j cs h
    simp only [List.length_cons] at h
    simp only [List.zipIdx_cons, List.foldl_cons]
    rw [ih (j + 1) _ (by simp; omega)]
    unfold splice
    simp only [Array.toList_setIfInBounds, List.length_cons]
    have e1 : (cs.toList.set (off + j) v).take (off + (j + 1)) = cs.toList.take (off + j) ++ [v] := by
      rw [show off + (j + 1) = (off + j) + 1 by omega, List.take_succ_eq_append_getElem (by simp; omega), List.take_set_of_le (Nat.le_refl _)]
      simp
    have e2 : (cs.toList.set (off + j) v).drop (off + (j + 1) + l.length) = cs.toList.drop (off + j + (l.length + 1)) := by
      rw [List.drop_set_of_lt (by omega)]
      congr 1; omega
    rw [e1, e2]
    simp
theorem fill_run {place place' : Nat → Option (Nat × Nat)} (hp : ∀ n x, place n = some x → place' n = some x) : ∀ (l : List (Nat × Value)) (l' : List (Nat × Value)) (cs : List Value) (cs' : Array Value) (out : List Value),
    VRels ρ cs cs'.toList → PRel ρ l l' → fillV place cs l = some out → ∃ out', Instr.fill place' cs' l' = some out' ∧ VRels ρ out out'.toList := by
  intro l
  induction l with
  | nil =>
    intro l' cs cs' out hc hl h
    have : l' = [] := by have := hl.1; cases l' <;> simp_all
    subst this
    simp only [fillV] at h; cases h
    exact ⟨cs', rfl, hc⟩
  | cons p l ih =>
    intro l' cs cs' out hc hl h
    obtain ⟨n, v⟩ := p
    obtain ⟨v', r', rfl, hv, hr⟩ := hl.cons_inv
    simp only [fillV] at h
    cases hpl : place n with
    | none => rw [hpl] at h; cases h
    | some x =>
      obtain ⟨off, size⟩ := x
      rw [hpl] at h
      simp only at h
      split at h
      · rename_i hs
        have hcells := hv.cells
        have hlen : v'.cells.size = size := by rw [← hs.1, hcells.1.1]; simp
        have hcs : cs.length = cs'.size := by rw [hc.1]; simp
        have hput := put_cells off v'.cells.toList 0 cs' (by simp; omega)
        have := ih r' (splice cs off (cellsOf v)) ((v'.cells.toList.zipIdx).foldl (fun (cs : Array Value) (p : Value × Nat) => cs.setIfInBounds (off + p.2) p.1) cs') out
          (by rw [hput]; exact hc.splice off hcells.1) hr h
        obtain ⟨out', ho, rel⟩ := this
        refine ⟨out', ?_, rel⟩
        simp only [Instr.fill, hp _ _ hpl]
        rw [if_neg (by simp; omega), ← ho]
        congr 1
        rw [← Array.foldl_toList]
        simp
      · cases h

theorem parts_rel {ev ev' : Operand → Value} (he : ∀ x, VRel ρ (ev x) (ev' x)) (ps : Array (Nat × Operand)) : PRel ρ (partsV ev ps) (ps.map fun (i, x) => (i, ev' x)).toList := by
  unfold partsV
  refine ⟨by simp, fun j p p' hp hp' => ?_⟩
  simp only [Array.toList_map, List.getElem?_map, Option.map_eq_some_iff] at hp hp'
  obtain ⟨q, hq, rfl⟩ := hp
  obtain ⟨q', hq', rfl⟩ := hp'
  rw [hq] at hq'; cases hq'
  exact ⟨rfl, he _⟩
theorem build_run (ko : TysOk P E) {t : TypeId} {ev ev' : Operand → Value} (he : ∀ x, VRel ρ (ev x) (ev' x)) {ps : Array (Nat × Operand)} {v : Value} (h : buildV E t (partsV ev ps) = some v) :
    RunsV P ρ (Instr.build t (ps.map fun (i, x) => (i, ev' x))) v := by
  unfold buildV at h
  replace h := bind_some.1 h; obtain ⟨i, hi, h⟩ := h
  replace h := bind_some.1 h; obtain ⟨z, hz, h⟩ := h
  have hzr : VRels ρ (cellsOf z) z.cells.toList := (zero_rel (ρ := ρ) (ko _ _ hi) hz).cells.1
  split at h
  · rename_i fs hu
    replace h := bind_some.1 h; obtain ⟨pl, hpl, h⟩ := h
    obtain ⟨out, ho, rfl⟩ := Option.map_eq_some_iff.1 h
    obtain ⟨out', hf, rel⟩ := fill_run (place' := (pl.toArray[·]?)) (fun n x h => by simpa using h) _ _ _ _ _ hzr (parts_rel he ps) ho
    refine ⟨.agg out', VRel.agg' rel, fun w => run_build w t _ out' ?_⟩
    obtain ⟨x, hx, _, _, hz', _⟩ := (ko _ _ hi).info
    have hp := (ko _ _ hi).places fs pl hu hpl
    unfold Program.built
    rw [hx, (ko _ _ hi).under, hu]
    simp only [hz', hz, hp, hf]
  · rename_i n elem hu
    replace h := bind_some.1 h; obtain ⟨e, he', h⟩ := h
    obtain ⟨out, ho, rfl⟩ := Option.map_eq_some_iff.1 h
    obtain ⟨out', hf, rel⟩ := fill_run (place' := fun i => some (i * e.size, e.size)) (fun _ _ h => h) _ _ _ _ _ hzr (parts_rel he ps) ho
    refine ⟨.agg out', VRel.agg' rel, fun w => run_build w t _ out' ?_⟩
    obtain ⟨x, hx, _, _, hz', _⟩ := (ko _ _ hi).info
    obtain ⟨y, hy, hys, _⟩ := (ko _ _ he').info
    unfold Program.built
    rw [hx, (ko _ _ hi).under, hu]
    simp only [hz', hz, hy, hys, hf]
  · cases h
end
end Go.Vi
