/- Vi11: copy, clear; maps written. -/
import Derived.Test.YtdbicjhpgofpiaaGreatDoorVi10
namespace Go.Vi
section
variable {P : Program} {E : Env} {ρ : Map}

theorem all_take {l : List Value} (h : l.all oneCell = true) (k : Nat) : (l.take k).all oneCell = true := by
  rw [List.all_eq_true] at h ⊢
  exact fun x hx => h x (List.mem_of_mem_take hx)
theorem copy_run (ko : TysOk P E) {h h' : Heap} {w : World} (g : Good ρ h w) {ats : Array TypeId} {args : Array Value} {st rt : TypeId} {d x d' x' v : Value}
    (ha : ats[0]? = some st) (had : args[0]? = some d') (hax : args[1]? = some x') (hd : VRel ρ d d') (hx : VRel ρ x x') (hc : copyV E st d x h = some (v, h')) :
    ∃ w' v', (Builtin.copy_ ats rt args).run P w = .ok v' w' ∧ VRel ρ v v' ∧ Good ρ h' w' ∧ Stp ρ h w ρ h' w' := by
  unfold copyV at hc
  replace hc := bind_some.1 hc; obtain ⟨i, hi, hc⟩ := hc
  split at hc
  · rename_i elem base dlen dcap hu
    replace hc := bind_some.1 hc; obtain ⟨e, he, hc⟩ := hc
    replace hc := bind_some.1 hc; obtain ⟨⟨n, l⟩, hsrc, hc⟩ := hc
    simp only at hc
    split at hc
    · cases hc
    · rename_i hcond
      simp only [Bool.or_eq_true, Bool.not_eq_true', ne_eq, not_or, Bool.not_eq_false] at hcond
      obtain ⟨⟨hsz, hln⟩, hone⟩ := hcond
      have hln : l.length = n * e.size := by simpa using hln
      obtain ⟨hlen, hfirst⟩ := src_run (P := P) g hx hsrc hln
      obtain ⟨new', hnew, rnew⟩ := hfirst (min n dlen) (Nat.min_le_left _ _)
      have head : ∀ (b' : Option Addr) (c' : Nat), d' = .slice b' dlen c' → (Builtin.copy_ ats rt args).run P w = (match b' with
          | some a => ((storeCells a new'.toList).run P w).andThen fun _ w => .ok (goInt (min n dlen : Nat)) w
          | none => .ok (goInt (min n dlen : Nat)) w) := by
        intro b' c' hd'
        subst hd'
        unfold Builtin.copy_
        have hmin : Nat.min n dlen = min n dlen := rfl
        simp only [ha, had, hax, Sem.run_bind, run_und (ko _ _ hi), hu, Result.andThen_ok, hlen, run_size (ko _ _ he), hmin, hnew]
        cases b' <;> simp
      split at hc
      · rename_i hk0
        cases hc
        have hnil : new' = #[] := by
          have h1 := rnew.1
          rw [hk0] at h1
          simp at h1
          exact Array.eq_empty_of_size_eq_zero h1.symm
        have hd2 := hd
        cases hd with
        | slice0 => exact ⟨w, _, by rw [head none 0 rfl], by rw [hk0]; exact .int _ _, g, .refl _ _ _⟩
        | slice b o _ _ q o' cap' hq hlc ho hcc hn hr =>
          refine ⟨w, _, by rw [head _ _ rfl, hnil]; rfl, by rw [hk0]; exact .int _ _, g, .refl _ _ _⟩
      · rename_i hk0
        split at hc
        · rename_i a
          replace hc := bind_some.1 hc; obtain ⟨h2, hw, hc⟩ := hc
          cases hc
          cases hd with
          | slice b o _ _ q o' cap' hq hlc ho hcc hn hr =>
            have ho : o' = q.base + o := by
              rcases ho with ho | ho
              · exact ho
              · omega
            obtain ⟨w', run, g', s'⟩ := wr_run (P := P) g (a := ⟨b, o, none⟩) hq hw rnew (all_take hone _) o' ho
            exact ⟨w', _, by rw [head _ _ rfl]; simp only [run, Result.andThen_ok]; rfl, .int _ _, g', s'⟩
        · cases hc
  · cases hc

theorem clear_run (ko : TysOk P E) {h h' : Heap} {w : World} (g : Good ρ h w) {ats : Array TypeId} {args : Array Value} {st rt : TypeId} {x x' : Value}
    (ha : ats[0]? = some st) (hax : args[0]? = some x') (hx : VRel ρ x x') (hc : clearV E st x h = some h') :
    ∃ w', (Builtin.clear_ ats rt args).run P w = .ok (.tuple #[]) w' ∧ Good ρ h' w' ∧ Stp ρ h w ρ h' w' := by
  unfold clearV at hc
  replace hc := bind_some.1 hc; obtain ⟨i, hi, hc⟩ := hc
  split at hc
  · rename_i elem a c hu
    cases hc
    refine ⟨w, ?_, g, .refl _ _ _⟩
    unfold Builtin.clear_
    cases hx <;> simp [ha, hax, run_und (ko _ _ hi), hu]
  · rename_i elem a n c hn0 hu
    replace hc := bind_some.1 hc; obtain ⟨e, he, hc⟩ := hc
    replace hc := bind_some.1 hc; obtain ⟨zl, hzl, hc⟩ := hc
    split at hc
    · rename_i hone
      unfold zeros at hzl
      replace hzl := bind_some.1 hzl; obtain ⟨z, hz, hzl⟩ := hzl
      split at hzl
      · rename_i hzs
        cases hzl
        cases hx with
        | slice b o _ _ q o' cap' hq hlc ho hcc hn hr =>
          have ho : o' = q.base + o := by
            rcases ho with ho | ho
            · exact ho
            · exact absurd ho.1 (fun h => hn0 h)
          have hzr : VRels ρ (cellsOf z) z.cells.toList := (zero_rel (ρ := ρ) (ko _ _ he) hz).cells.1
          have hrow : VRels ρ (rep n (cellsOf z)) (Builtin.zeroCells z.cells n).toList := by
            have e1 : (Builtin.zeroCells z.cells n).toList = rep n (cellsOf z) := by
              unfold Builtin.zeroCells
              have : z.cells.size = (cellsOf z).length := by rw [cellsOf_eq]; simp
              rw [this]
              have := flat_range (cellsOf z) z.cells (cells_arr z) n
              rw [← this]
              congr 1
              simp only [cellsOf_eq, Array.length_toList]
            rw [e1]
            exact VRels.flatten_replicate n (by have := hzr; rw [cells_arr] at this; exact this)
          obtain ⟨w', run, g', s'⟩ := wr_run (P := P) g (a := ⟨b, o, none⟩) hq hc hrow hone o' ho
          refine ⟨w', ?_, g', s'⟩
          unfold Builtin.clear_
          simp only [ha, hax, Sem.run_bind, run_und (ko _ _ hi), hu, Result.andThen_ok]
          simp [run_zero (ko _ _ he) hz, run]
      · cases hzl
    · cases hc
  · cases hc

/-! ## Maps -/
theorem find_at : ∀ (es : List MapEntry) (k : Value) (j n : Nat) (v : Value), findV k es n = some (some (j, v)) → n ≤ j ∧ ∃ e, es[j - n]? = some e ∧ keyEq k e.key = some true ∧ e.val = v := by
  intro es
  induction es with
  | nil => intro k j n v h; simp [findV] at h
  | cons e es ih =>
    intro k j n v h
    simp only [findV] at h
    split at h
    · rename_i hk
      cases h
      exact ⟨Nat.le_refl _, e, by simp, hk, rfl⟩
    · obtain ⟨h1, x, h2, h3, h4⟩ := ih k j (n + 1) v h
      refine ⟨by omega, x, ?_, h3, h4⟩
      rw [show j - n = (j - (n + 1)) + 1 by omega]
      simpa using h2
    · cases h
theorem setEntry_get : ∀ (es : List MapEntry) (i : Nat) (k v : Value) (j : Nat), (setEntry es i k v)[j]? = if j = i then (es[j]?).map (fun e => { e with key := k, val := v }) else es[j]? := by
  intro es
  induction es with
  | nil => intro i k v j; simp [setEntry]
  | cons e es ih =>
    intro i k v j
    cases i with
    | zero =>
      cases j with
      | zero => simp [setEntry]
      | succ j => simp [setEntry]
    | succ i =>
      cases j with
      | zero => simp [setEntry]
      | succ j => simp [setEntry, ih]
theorem setEntry_len : ∀ (es : List MapEntry) (i : Nat) (k v : Value), (setEntry es i k v).length = es.length := by
  intro es
  induction es with
  | nil => intro i k v; rfl
  | cons e es ih => intro i k v; cases i <;> simp [setEntry, ih]
theorem modify_rel {es : List MapEntry} {es' : Array MapEntry} (hr : MRel ρ es es'.toList) {i : Nat} {k k' v v' : Value} (hk : VRel ρ k k') (hv : VRel ρ v v') :
    MRel ρ (setEntry es i k v) (es'.modify i fun e => { e with key := k', val := v' }).toList := by
  refine ⟨by rw [setEntry_len, hr.1]; simp, fun j a b ha hb => ?_⟩
  rw [setEntry_get] at ha
  rw [Array.getElem?_toList, Array.getElem?_modify] at hb
  by_cases hj : j = i
  · rw [if_pos hj] at ha
    rw [if_pos hj.symm] at hb
    obtain ⟨x, hx, rfl⟩ := Option.map_eq_some_iff.1 ha
    obtain ⟨y, hy, rfl⟩ := Option.map_eq_some_iff.1 hb
    have := hr.2 j x y hx (by rw [Array.getElem?_toList]; exact hy)
    exact ⟨hk, hv, this.born⟩
  · rw [if_neg hj] at ha
    rw [if_neg (fun h => hj h.symm)] at hb
    exact hr.2 j a b ha (by rw [Array.getElem?_toList]; exact hb)
theorem push_rel {es : List MapEntry} {es' : Array MapEntry} (hr : MRel ρ es es'.toList) {k k' v v' : Value} {c : Nat} (hk : VRel ρ k k') (hv : VRel ρ v v') :
    MRel ρ (es ++ [{ key := k, val := v, born := c }]) (es'.push { key := k', val := v', born := c }).toList := by
  have hl := hr.1
  refine ⟨by simp at hl ⊢; exact hl, fun j a b ha hb => ?_⟩
  rw [Array.toList_push] at hb
  rw [List.getElem?_append] at ha hb
  by_cases hj : j < es.length
  · rw [if_pos hj] at ha; rw [if_pos (by omega)] at hb; exact hr.2 j a b ha hb
  · rw [if_neg hj] at ha; rw [if_neg (by omega)] at hb
    rw [show es'.toList.length = es.length by omega] at hb
    cases hq : j - es.length with
    | zero => rw [hq] at ha hb; simp at ha hb; subst ha; subst hb; exact ⟨hk, hv, rfl⟩
    | succ n => rw [hq] at ha; simp at ha
theorem erase_rel {es : List MapEntry} {es' : Array MapEntry} (hr : MRel ρ es es'.toList) (i : Nat) : MRel ρ (dropEntry es i) (es'.eraseIdxIfInBounds i).toList := by
  have hl := hr.1
  have e1 : (es'.eraseIdxIfInBounds i).toList = es'.toList.eraseIdx i := by
    unfold Array.eraseIdxIfInBounds
    split
    · simp
    · rename_i h; rw [List.eraseIdx_of_length_le (by simpa using h)]
  rw [e1]
  unfold dropEntry
  refine ⟨by rw [List.length_eraseIdx, List.length_eraseIdx, hl], fun j a b ha hb => ?_⟩
  rw [List.getElem?_eraseIdx] at ha hb
  split at ha
  · rename_i h; rw [if_pos h] at hb; exact hr.2 j a b ha hb
  · rename_i h; rw [if_neg h] at hb; exact hr.2 (j + 1) a b ha hb
theorem run_setObj_map {w : World} {r c : Nat} {es : Array MapEntry} (h : w.heap[r]? = some (.map es c)) (o : Obj) : (setObj r o).run P w = .ok () { w with heap := w.heap.setIfInBounds r o } := by
  simp [setObj, Sem.run, h]
theorem set_map {h : Heap} {w : World} (g : Good ρ h w) {b : Nat} {i : Info} {es es2 : List MapEntry} {c c2 : Nat} {es2' : Array MapEntry} (hb : ρ b = some i) (hget : h.get b = some (.map es c)) (hr : MRel ρ es2 es2'.toList) :
    Good ρ (h.set b (.map es2 c2)) { w with heap := w.heap.setIfInBounds i.blk (.map es2' c2) } ∧ Stp ρ h w ρ (h.set b (.map es2 c2)) { w with heap := w.heap.setIfInBounds i.blk (.map es2' c2) } := by
  have hlt := g.lt _ _ hb
  refine step_set g hb (by rw [hget]; simp) ⟨by simp, rfl, rfl⟩ (fun r hr => ?_) ⟨es2', ?_, hr⟩
  · show (w.heap.setIfInBounds i.blk _)[r]? = _
    rw [Array.getElem?_setIfInBounds_ne (Ne.symm hr)]
  · show (w.heap.setIfInBounds i.blk _)[i.blk]? = _
    simp [hlt]
theorem stays {k k0 : Value} {d : TypeDesc} (hp : plainKey d k = true) (h : keyEq k k0 = some true) (w : World) : (Instr.keyThatStays k0 k).run P w = .ok k w := by
  have : Instr.sameBits 10000 k0 k = true := by
    cases d <;> cases k <;> simp [plainKey] at hp
    · cases k0 <;> simp [keyEq] at h
      obtain ⟨rfl, rfl⟩ := h
      simp [Instr.sameBits]
    · cases k0 <;> simp [keyEq] at h
      simp [Instr.sameBits, str_beq, h]
  simp [Instr.keyThatStays, this]
theorem keyEq_rel {k k0 k0' : Value} (h : keyEq k k0 = some true) (hr : VRel ρ k0 k0') : k0' = k0 := by
  unfold keyEq at h
  split at h
  · exact hr.int_inv
  · exact hr.string_inv
  · cases h

theorem mapPut_run (ko : TysOk P E) {h h' : Heap} {w : World} (g : Good ρ h w) {t : TypeId} {m m' k k' v v' : Value} (hm : VRel ρ m m') (hk : VRel ρ k k') (hv : VRel ρ v v') (hp : mapPutV E t m k v h = some h') :
    ∃ w', (Instr.mapUpdate t m' k' v').run P w = .ok () w' ∧ Good ρ h' w' ∧ Stp ρ h w ρ h' w' := by
  unfold mapPutV at hp
  replace hp := bind_some.1 hp; obtain ⟨i, hi, hp⟩ := hp
  split at hp
  · rename_i key et r hu
    replace hp := bind_some.1 hp; obtain ⟨ki, hki, hp⟩ := hp
    replace hp := bind_some.1 hp; obtain ⟨⟨es, c⟩, hme, hp⟩ := hp
    simp only at hp
    split at hp
    · cases hp
    · rename_i hpk
      have hpk : plainKey ki.under k = true := by simpa using hpk
      obtain ⟨b, q, es', hb1, hb, hget, rfl, hw, hr⟩ := mapOf_run g hm hme
      cases hb1
      have hke := key_self hpk hk
      subst hke
      split at hp
      · rename_i j u hf
        cases hp
        obtain ⟨r', hr', hrel⟩ := find_run _ _ _ _ _ _ hr hpk hf
        cases r' with
        | none => exact hrel.elim
        | some p =>
          obtain ⟨j', u'⟩ := p
          obtain ⟨rfl, _⟩ := hrel
          obtain ⟨_, e, he, hek, _⟩ := find_at _ _ _ _ _ hf
          obtain ⟨g', s'⟩ := set_map g hb hget (modify_rel hr (i := j) hk hv) (c2 := c)
          refine ⟨_, ?_, g', s'⟩
          rw [Nat.sub_zero] at he
          have hlen : j < es'.size := by
            have := (List.getElem?_eq_some_iff.1 he).1
            have := hr.1
            simp at this; omega
          have he' : es'[j]? = some es'[j] := by simp [hlen]
          have hkk : es'[j].key = e.key := keyEq_rel hek (hr.2 j e _ he (by rw [Array.getElem?_toList]; exact he')).key
          unfold Instr.mapUpdate
          simp only [Sem.run_bind, run_und (ko _ _ hi), hu, Result.andThen_ok, run_getObj_map hw, check_run (ko _ _ hki) hpk, Instr.findKey, run_und (ko _ _ hki), hr', Sem.run_pure, he', Option.map_some, Option.getD_some, hkk, stays hpk hek, run_setObj_map hw]
      · rename_i hf
        cases hp
        obtain ⟨r', hr', hrel⟩ := find_run _ _ _ _ _ _ hr hpk hf
        cases r' with
        | some p => exact hrel.elim
        | none =>
          obtain ⟨g', s'⟩ := set_map g hb hget (push_rel hr hk hv (c := c)) (c2 := c + 1)
          refine ⟨_, ?_, g', s'⟩
          unfold Instr.mapUpdate
          simp only [Sem.run_bind, run_und (ko _ _ hi), hu, Result.andThen_ok, run_getObj_map hw, check_run (ko _ _ hki) hpk, Instr.findKey, run_und (ko _ _ hki), hr', Sem.run_pure, run_setObj_map hw]
      · cases hp
  · cases hp
theorem modify_key {es' : Array MapEntry} {j : Nat} {k : Value} (hj : j < es'.size) : (es'.modify j fun e => { e with key := k }) = es'.modify j fun e => { e with key := k, val := (es'[j]).val } := by
  apply Array.ext_getElem?
  intro n
  rw [Array.getElem?_modify, Array.getElem?_modify]
  split
  · rename_i h; subst h; simp [hj]
  · rfl
theorem mapEntry_run (ko : TysOk P E) {h h' : Heap} {w : World} (g : Good ρ h w) {t : TypeId} {m m' k k' v : Value} (hm : VRel ρ m m') (hk : VRel ρ k k') (hp : mapEntryV E t m k h = some (v, h')) :
    ∃ w' v', (Instr.mapEntry t m' k').run P w = .ok v' w' ∧ VRel ρ v v' ∧ Good ρ h' w' ∧ Stp ρ h w ρ h' w' := by
  unfold mapEntryV at hp
  replace hp := bind_some.1 hp; obtain ⟨i, hi, hp⟩ := hp
  split at hp
  · rename_i key et r hu
    replace hp := bind_some.1 hp; obtain ⟨ki, hki, hp⟩ := hp
    replace hp := bind_some.1 hp; obtain ⟨e, he, hp⟩ := hp
    replace hp := bind_some.1 hp; obtain ⟨⟨es, c⟩, hme, hp⟩ := hp
    simp only at hp
    split at hp
    · cases hp
    · rename_i hpk
      have hpk : plainKey ki.under k = true := by simpa using hpk
      obtain ⟨b, q, es', hb1, hb, hget, rfl, hw, hr⟩ := mapOf_run g hm hme
      cases hb1
      have hke := key_self hpk hk
      subst hke
      split at hp
      · rename_i j u hf
        replace hp := bind_some.1 hp; obtain ⟨x, hx, hp⟩ := hp
        cases hp
        obtain ⟨r', hr', hrel⟩ := find_run _ _ _ _ _ _ hr hpk hf
        cases r' with
        | none => exact hrel.elim
        | some p =>
          obtain ⟨j', u'⟩ := p
          obtain ⟨rfl, hu'⟩ := hrel
          obtain ⟨_, y, hy, hek, hyv⟩ := find_at _ _ _ _ _ hf
          rw [Nat.sub_zero, hx] at hy
          cases hy
          have hlen : j < es'.size := by
            have := (List.getElem?_eq_some_iff.1 hx).1
            have := hr.1
            simp at this; omega
          have he' : es'[j]? = some es'[j] := by simp [hlen]
          have hent := hr.2 j x _ hx (by rw [Array.getElem?_toList]; exact he')
          have hkk : es'[j].key = x.key := keyEq_rel hek hent.key
          obtain ⟨g', s'⟩ := set_map g hb hget (modify_rel hr (i := j) hk (hyv ▸ hent.val)) (c2 := c)
          rw [← modify_key hlen] at g' s'
          refine ⟨_, _, ?_, VRel.tuple' (VRels.cons hu' (VRels.cons (.int .i64 x.born) VRels.nil)), g', s'⟩
          unfold Instr.mapEntry
          simp only [Sem.run_bind, run_und (ko _ _ hi), hu, Result.andThen_ok, run_getObj_map hw, check_run (ko _ _ hki) hpk, Instr.findKey, run_und (ko _ _ hki), hr', Sem.run_pure, he', Option.map_some, Option.getD_some, hkk, stays hpk hek, run_setObj_map hw, hent.born, goInt]
      · rename_i hf
        replace hp := bind_some.1 hp; obtain ⟨z, hz, hp⟩ := hp
        cases hp
        obtain ⟨r', hr', hrel⟩ := find_run _ _ _ _ _ _ hr hpk hf
        cases r' with
        | some p => exact hrel.elim
        | none =>
          have hzr := zero_rel (ρ := ρ) (ko _ _ he) hz
          obtain ⟨g', s'⟩ := set_map g hb hget (push_rel hr hk hzr (c := c)) (c2 := c + 1)
          refine ⟨_, _, ?_, VRel.tuple' (VRels.cons hzr (VRels.cons (.int .i64 c) VRels.nil)), g', s'⟩
          unfold Instr.mapEntry
          simp only [Sem.run_bind, run_und (ko _ _ hi), hu, Result.andThen_ok, run_getObj_map hw, check_run (ko _ _ hki) hpk, Instr.findKey, run_und (ko _ _ hki), hr', Sem.run_pure, run_setObj_map hw, run_zero (ko _ _ he) hz, goInt]
      · cases hp
  · cases hp
theorem stamp_run : ∀ (es es' : List MapEntry) (n : Int) (k j : Nat), MRel ρ es es' → stampAt n es k = some j → k ≤ j ∧ es'.findIdx? (fun e => (e.born : Int) == n) = some (j - k) := by
  intro es
  induction es with
  | nil => intro es' n k j _ h; simp [stampAt] at h
  | cons e es ih =>
    intro es' n k j hm h
    cases es' with
    | nil => have := hm.1; simp at this
    | cons e' es' =>
      have h0 := hm.2 0 e e' rfl rfl
      have hm' : MRel ρ es es' := ⟨by simpa using hm.1, fun j a b ha hb => hm.2 (j + 1) a b (by simpa using ha) (by simpa using hb)⟩
      unfold stampAt at h
      rw [List.findIdx?_cons]
      split at h
      · rename_i hz
        cases h
        rw [h0.born] at hz
        rw [hz]
        exact ⟨Nat.le_refl _, by simp⟩
      · rename_i hz
        rw [h0.born] at hz
        obtain ⟨h1, h2⟩ := ih es' n (k + 1) j hm' h
        rw [Bool.not_eq_true] at hz
        rw [hz, h2]
        refine ⟨by omega, ?_⟩
        simp only [Option.map_some, Bool.false_eq_true, if_false]
        congr 1; omega
theorem modify_val {es' : Array MapEntry} {j : Nat} {v : Value} (hj : j < es'.size) : (es'.modify j fun e => { e with val := v }) = es'.modify j fun e => { e with key := (es'[j]).key, val := v } := by
  apply Array.ext_getElem?
  intro n
  rw [Array.getElem?_modify, Array.getElem?_modify]
  split
  · rename_i h; subst h; simp [hj]
  · rfl
theorem entryStore_run {h h' : Heap} {w : World} (g : Good ρ h w) {t : TypeId} {m m' k k' v v' : Value} (hm : VRel ρ m m') (hk : VRel ρ k k') (hv : VRel ρ v v') (hp : entryStoreV m k v h = some h') :
    ∃ w', (Instr.entryStore t m' k' v').run P w = .ok () w' ∧ Good ρ h' w' ∧ Stp ρ h w ρ h' w' := by
  unfold entryStoreV at hp
  split at hp
  · rename_i r
    replace hp := bind_some.1 hp; obtain ⟨⟨es, c⟩, hme, hp⟩ := hp
    replace hp := bind_some.1 hp; obtain ⟨n, hn, hp⟩ := hp
    replace hp := bind_some.1 hp; obtain ⟨j, hj, hp⟩ := hp
    replace hp := bind_some.1 hp; obtain ⟨x, hx, hp⟩ := hp
    cases hp
    obtain ⟨b, q, es', hb1, hb, hget, rfl, hw, hr⟩ := mapOf_run g hm hme
    cases hb1
    obtain ⟨kk, rfl, rfl⟩ := intOf_inv hk hn
    obtain ⟨_, hs⟩ := stamp_run _ _ _ _ _ hr hj
    rw [Nat.sub_zero] at hs
    have hlen : j < es'.size := by
      have := (List.getElem?_eq_some_iff.1 hx).1
      have := hr.1
      simp at this; omega
    have he' : es'[j]? = some es'[j] := by simp [hlen]
    have hent := hr.2 j x _ hx (by rw [Array.getElem?_toList]; exact he')
    obtain ⟨g', s'⟩ := set_map g hb hget (modify_rel hr (i := j) hent.key hv) (c2 := c)
    rw [← modify_val hlen] at g' s'
    refine ⟨_, ?_, g', s'⟩
    have hs' : es'.findIdx? (fun e => (e.born : Int) == n) = some j := by
      obtain ⟨l⟩ := es'
      simpa using hs
    unfold Instr.entryStore
    simp only [Sem.run_bind, Result.andThen_ok, run_getObj_map hw, Sem.run_pure, asInt, asIntOf, hs', run_setObj_map hw]
  · cases hp
theorem delete_run (ko : TysOk P E) {h h' : Heap} {w : World} (g : Good ρ h w) {ats : Array TypeId} {args : Array Value} {t rt : TypeId} {m m' k k' : Value}
    (ha : ats[0]? = some t) (ham : args[0]? = some m') (hak : args[1]? = some k') (hm : VRel ρ m m') (hk : VRel ρ k k') (hp : deleteV E t m k h = some h') :
    ∃ w', (Builtin.delete_ ats rt args).run P w = .ok (.tuple #[]) w' ∧ Good ρ h' w' ∧ Stp ρ h w ρ h' w' := by
  unfold deleteV at hp
  replace hp := bind_some.1 hp; obtain ⟨i, hi, hp⟩ := hp
  split at hp
  · rename_i key et hu
    replace hp := bind_some.1 hp; obtain ⟨ki, hki, hp⟩ := hp
    split at hp
    · rename_i hpk
      cases hp
      have hke := key_self hpk hk
      subst hke
      cases hm
      refine ⟨w, ?_, g, .refl _ _ _⟩
      unfold Builtin.delete_
      simp [ha, ham, hak, run_und (ko _ _ hi), hu, check_run (ko _ _ hki) hpk]
    · cases hp
  · rename_i key et r hu
    replace hp := bind_some.1 hp; obtain ⟨ki, hki, hp⟩ := hp
    replace hp := bind_some.1 hp; obtain ⟨⟨es, c⟩, hme, hp⟩ := hp
    simp only at hp
    split at hp
    · cases hp
    · rename_i hpk
      have hpk : plainKey ki.under k = true := by simpa using hpk
      obtain ⟨b, q, es', hb1, hb, hget, rfl, hw, hr⟩ := mapOf_run g hm hme
      cases hb1
      have hke := key_self hpk hk
      subst hke
      split at hp
      · rename_i j u hf
        cases hp
        obtain ⟨r', hr', hrel⟩ := find_run _ _ _ _ _ _ hr hpk hf
        cases r' with
        | none => exact hrel.elim
        | some p =>
          obtain ⟨j', u'⟩ := p
          obtain ⟨rfl, _⟩ := hrel
          obtain ⟨g', s'⟩ := set_map g hb hget (erase_rel hr j) (c2 := c)
          refine ⟨_, ?_, g', s'⟩
          unfold Builtin.delete_
          simp [ha, ham, hak, run_und (ko _ _ hi), hu, run_getObj_map hw, check_run (ko _ _ hki) hpk, Instr.findKey, run_und (ko _ _ hki), hr', run_setObj_map hw]
      · rename_i hf
        cases hp
        obtain ⟨r', hr', hrel⟩ := find_run _ _ _ _ _ _ hr hpk hf
        cases r' with
        | some p => exact hrel.elim
        | none =>
          obtain ⟨g', s'⟩ := set_map g hb hget hr (c2 := c)
          refine ⟨_, ?_, g', s'⟩
          unfold Builtin.delete_
          simp [ha, ham, hak, run_und (ko _ _ hi), hu, run_getObj_map hw, check_run (ko _ _ hki) hpk, Instr.findKey, run_und (ko _ _ hki), hr', run_setObj_map hw]
      · cases hp
  · cases hp
end
end Go.Vi
