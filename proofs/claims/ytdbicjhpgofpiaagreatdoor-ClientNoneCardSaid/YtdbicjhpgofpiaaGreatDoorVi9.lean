/- Vi9: operations that make a block; rows of cells written. -/
import Derived.Test.YtdbicjhpgofpiaaGreatDoorVi8
namespace Go.Vi
section
variable {P : Program} {E : Env} {ρ : Map}

theorem orel_cells {w' : World} {cs : List Value} {c : Array Value} {el : TypeId} {fr : Nat × Nat} {i : Info} {opn : Option (Nat × Nat)} (hb : i.base = 0) (ht : i.tot = c.size) (ho : i.opn = opn)
    (hw : w'.heap[i.blk]? = some (.cells c el fr)) (hl : cs.length ≤ c.size) (hr : VRels ρ cs (c.toList.take cs.length)) (hf : ∀ j, j < c.size → ¬ (fr.1 ≤ j ∧ j < fr.2)) (hty : ∀ z, opn = some z → el = z.2 ∧ (z.1 = 0 → c.size = cs.length)) :
    ORel ρ (.cells cs true opn) i w' := by
  refine ⟨ho.symm, c, el, fr, hw, ht.symm, by omega, ?_, fun _ j _ hj => hf j (by omega), fun z hz => ⟨(hty z hz).1, fun h0 => ⟨hb, by have := (hty z hz).2 h0; omega⟩⟩⟩
  rw [hb]; exact hr

/-- a run that makes one block, ahead of all others. -/
structure NewRuns (P : Program) (ρ : Map) (ev' : Operand → Value) (o : Oper) (b : Blk) (m : Mk) (w : World) : Prop where
  out : ∃ w' v' i, (execOp ev' o).run P w = .ok (.value v') w' ∧ i.blk = w.heap.size ∧ (w'.heap.size = w.heap.size + 1 ∧ w'.os = w.os ∧ w'.output = w.output) ∧
    (∀ r, r < w.heap.size → w'.heap[r]? = w.heap[r]?) ∧ ORel ρ b i w' ∧ ∀ (ρ' : Map) (id : Nat), ρ' id = some i → VRel ρ' (m.val id) v'

theorem alloc_new (w : World) (o : Obj) : (w.alloc o).heap[w.heap.size]? = some o := by
  show (w.heap.push o)[w.heap.size]? = some o
  simp
theorem alloc_old (w : World) (o : Obj) (r : Nat) (h : r < w.heap.size) : (w.alloc o).heap[r]? = w.heap[r]? := by
  show (w.heap.push o)[r]? = w.heap[r]?
  rw [Array.getElem?_push, if_neg (Nat.ne_of_lt h)]

theorem freeze_side {w w0 : World} {a : Addr} {n : Nat} (h : w.os = w0.os ∧ w.output = w0.output) : (w.freeze a n).os = w0.os ∧ (w.freeze a n).output = w0.output := by
  unfold World.freeze
  split <;> exact h
theorem newVar_run {t : TypeId} {v v' : Value} (h : VRel ρ v v') (w : World) (opn : Option (Nat × Nat)) (hty : ∀ z, opn = some z → t = z.2) :
    ∃ w' i, (newVar t v').run P w = .ok ⟨w.heap.size, 0, none⟩ w' ∧ i.blk = w.heap.size ∧ (w'.heap.size = w.heap.size + 1 ∧ w'.os = w.os ∧ w'.output = w.output) ∧
    (∀ r, r < w.heap.size → w'.heap[r]? = w.heap[r]?) ∧ ORel ρ (.cells (cellsOf v) true opn) i w' ∧ i.base = 0 := by
  have hc := h.cells
  refine ⟨w.alloc (.cells v'.cells t), ⟨w.heap.size, 0, opn, v'.cells.size⟩, by simp [newVar, newRow], rfl, ⟨by simp, rfl, rfl⟩, fun r hr => alloc_old w _ r hr, ?_, rfl⟩
  have hlen : (cellsOf v).length = v'.cells.size := by rw [hc.1.1]; simp
  exact orel_cells rfl rfl rfl (alloc_new w _) (by omega) (by rw [hlen, List.take_of_length_le (by simp)]; exact hc.1) (fun j _ => by simp) (fun z hz => ⟨hty z hz, fun _ => hlen.symm⟩)
theorem tagOf_ty {b : Bool} {t : Nat} : ∀ z, tagOf b t = some z → t = z.2 := by
  intro z h
  cases b
  · cases h
  · cases h; rfl
theorem flat_range (zs : List Value) (z : Array Value) (hz : z.toList = zs) (n : Nat) : ((Array.range (n * zs.length)).map (z[· % z.size]!)).toList = rep n zs := by
  subst hz
  have hlen : z.toList.length = z.size := by simp
  rw [hlen]
  simp only [Array.toList_map, Array.toList_range]
  have one : ∀ k, (List.range' (k * z.size) z.size).map (fun i => z[i % z.size]!) = z.toList := by
    intro k
    apply List.ext_getElem
    · simp
    · intro j h1 h2
      simp only [List.length_map, List.length_range'] at h1
      simp only [List.getElem_map, List.getElem_range', Nat.one_mul]
      have : (k * z.size + j) % z.size = j := by rw [Nat.mul_comm, Nat.mul_add_mod, Nat.mod_eq_of_lt h1]
      rw [this]
      simp [h1]
  unfold rep
  induction n with
  | zero => simp
  | succ n ih =>
    rw [List.replicate_succ', List.flatten_append, ← ih, List.range_eq_range', List.range_eq_range']
    rw [show (n + 1) * z.size = n * z.size + z.size by rw [Nat.add_mul]; omega]
    rw [← List.range'_append_1, List.map_append]
    simp only [Nat.zero_add, one, List.flatten_cons, List.flatten_nil, List.append_nil]
theorem cells_arr (v : Value) : v.cells.toList = cellsOf v := (cellsOf_eq v).symm

theorem wrap_small {x : Int} (h0 : 0 ≤ x) (h1 : x < 2 ^ 62) : IntKind.i64.wrap x = x := by
  have e1 : x % 2 ^ 64 = x := Int.emod_eq_of_lt h0 (by omega)
  have e2 : ¬ (x ≥ (2 : Int) ^ (64 - 1)) := by
    have : ((2 : Int) ^ (64 - 1)) = 9223372036854775808 := by decide
    omega
  show (if (true && decide (x % 2 ^ 64 ≥ (2 : Int) ^ (64 - 1))) = true then x % 2 ^ 64 - 2 ^ 64 else x % 2 ^ 64) = x
  simp only [e1, e2, decide_false, Bool.and_false, Bool.false_eq_true, if_false]

theorem freeze_at {w : World} {b n : Nat} {c : Array Value} {e : TypeId} (h : w.heap[b]? = some (.cells c e)) : (w.freeze ⟨b, n, none⟩ 1).heap[b]? = some (.cells c e (n, n + 1)) := by
  unfold World.freeze
  rw [if_neg (by omega)]
  simp [h, Array.getElem?_modify]
theorem freeze_other {w : World} {b n r : Nat} (h : r ≠ b) : (w.freeze ⟨b, n, none⟩ 1).heap[r]? = w.heap[r]? := by
  unfold World.freeze
  rw [if_neg (by omega)]
  simp [Array.getElem?_modify, Ne.symm h]
theorem freeze_size {w : World} {a : Addr} : (w.freeze a 1).heap.size = w.heap.size := by
  unfold World.freeze
  rw [if_neg (by omega)]
  simp
theorem new_sound (ko : TysOk P E) {ev ev' : Operand → Value} (he : ∀ x, VRel ρ (ev x) (ev' x)) {o : Oper} {b : Blk} {m : Mk} (h : newV E ev o = some (b, m)) (w : World) : NewRuns P ρ ev' o b m w := by
  obtain ⟨dst, op, ty, pos, after, guard⟩ := o
  unfold newV at h
  cases op <;> simp only [reduceCtorEq] at h
  case alloc t =>
    replace h := bind_some.1 h; obtain ⟨i, hi, h⟩ := h
    replace h := bind_some.1 h; obtain ⟨z, hz, h⟩ := h
    cases h
    obtain ⟨w', q, run, hq, hs, hold, hor, hbase⟩ := newVar_run (P := P) (t := t) (zero_rel (ρ := ρ) (ko _ _ hi) hz) w _ tagOf_ty
    refine ⟨w', .pointer (some ⟨w.heap.size, 0, none⟩), q, ?_, hq, hs, hold, hor, fun ρ' id hid => ?_⟩
    · simp [execOp, Instr.alloc, run_zero (ko _ _ hi) hz, run]
    · have := VRel.ptr (ρ := ρ') id 0 q hid
      rw [hq, hbase] at this; exact this
  case box t x =>
    cases h
    obtain ⟨w', q, run, hq, hs, hold, hor, hbase⟩ := newVar_run (P := P) (t := t) (he x) w none (fun _ h => by cases h)
    refine ⟨w', .pointer (some ⟨w.heap.size, 0, none⟩), q, ?_, hq, hs, hold, hor, fun ρ' id hid => ?_⟩
    · simp [execOp, Instr.box, run]
    · have := VRel.ptr (ρ := ρ') id 0 q hid
      rw [hq, hbase] at this; exact this
  case buildSlice t len ps =>
    replace h := bind_some.1 h; obtain ⟨i, hi, h⟩ := h
    split at h
    · rename_i elem hu
      replace h := bind_some.1 h; obtain ⟨e, he', h⟩ := h
      split at h
      · cases h
      · rename_i hsz
        replace h := bind_some.1 h; obtain ⟨zl, hzl, h⟩ := h
        replace h := bind_some.1 h; obtain ⟨cs, hcs, h⟩ := h
        cases h
        unfold zeros at hzl
        replace hzl := bind_some.1 hzl; obtain ⟨z, hz, hzl⟩ := hzl
        split at hzl
        · rename_i hzs
          cases hzl
          have hzr : VRels ρ (cellsOf z) z.cells.toList := (zero_rel (ρ := ρ) (ko _ _ he') hz).cells.1
          have hrow : ∀ zz : Array Value, (len * e.size ≠ 0 → zz = z.cells) → VRels ρ (rep len (cellsOf z)) (((Array.range (len * e.size)).map (zz[· % zz.size]!)).toList) := by
            intro zz hzz
            by_cases h0 : len * e.size = 0
            · have : rep len (cellsOf z) = [] := by
                unfold rep
                apply List.flatten_eq_nil_iff.2
                intro l hl
                rw [List.mem_replicate] at hl
                rcases Nat.mul_eq_zero.1 h0 with h0 | h0
                · exact absurd h0 hl.1
                · rw [hl.2]; exact List.eq_nil_of_length_eq_zero (by omega)
              rw [this, h0]; simpa using VRels.nil
            · have := hzz h0; subst this
              rw [← hzs, flat_range (cellsOf z) z.cells (cells_arr z) len]
              exact VRels.flatten_replicate len (by have := hzr; rw [cells_arr] at this; exact this)
          have run0 : ∃ zz : Array Value, (len * e.size ≠ 0 → zz = z.cells) ∧ (if len * e.size = 0 then pure #[] else do pure (← zeroValue elem).cells : Sem (Array Value)).run P w = .ok zz w := by
            by_cases h0 : len * e.size = 0
            · exact ⟨#[], fun h => absurd h0 h, by rw [if_pos h0]; rfl⟩
            · exact ⟨z.cells, fun _ => rfl, by rw [if_neg h0]; simp [run_zero (ko _ _ he') hz]⟩
          obtain ⟨zz, hzz, hrun⟩ := run0
          obtain ⟨out', hf, rel⟩ := fill_run (place' := fun i => some (i * e.size, e.size)) (fun _ _ h => h) _ _ _ _ _ (hrow zz hzz) (parts_rel he ps) hcs
          refine ⟨w.alloc (.cells out' elem), .slice (some ⟨w.heap.size, 0, none⟩) len len, ⟨w.heap.size, 0, none, out'.size⟩, ?_, rfl, ⟨by simp, rfl, rfl⟩, fun r hr => alloc_old w _ r hr, ?_, fun ρ' id hid => ?_⟩
          · simp only [execOp, Instr.buildSlice, Sem.run_bind, run_und (ko _ _ hi), hu, run_size (ko _ _ he'), Result.andThen_ok]
            rw [if_neg hsz]
            by_cases h0 : len * e.size = 0
            · rw [if_pos h0] at hrun
              simp only [Sem.run_pure, Result.ok.injEq, and_true] at hrun
              subst hrun
              rw [h0] at hf ⊢
              simp only [↓reduceIte, Sem.run_bind, Sem.run_pure, Result.andThen_ok, hf, newRow, run_newObj]
              rfl
            · have := hzz h0
              subst this
              simp only [h0, ↓reduceIte, Sem.run_bind, Sem.run_pure, Result.andThen_ok, run_zero (ko _ _ he') hz, hf, newRow, run_newObj]
              rfl
          · have hlen : cs.length = out'.size := by rw [rel.1]; simp
            exact orel_cells rfl rfl rfl (alloc_new w _) (by omega) (by rw [hlen, List.take_of_length_le (by simp)]; exact rel) (fun j _ => by simp) (fun _ h => by cases h)
          · exact .slice id 0 len len _ 0 len hid (Nat.le_refl _) (.inl rfl) (Nat.le_refl _) (fun _ => rfl) (fun z hz => by cases hz)
        · cases hzl
    · cases h
  case makeSlice t l c =>
    replace h := bind_some.1 h; obtain ⟨i, hi, h⟩ := h
    split at h
    · rename_i elem hu
      replace h := bind_some.1 h; obtain ⟨e, he', h⟩ := h
      replace h := bind_some.1 h; obtain ⟨ln, hln, h⟩ := h
      replace h := bind_some.1 h; obtain ⟨cp, hcp, h⟩ := h
      obtain ⟨kl, hvl, hvl'⟩ := intOf_inv (he l) hln
      obtain ⟨kc, hvc, hvc'⟩ := intOf_inv (he c) hcp
      split at h
      · rename_i hb
        replace h := bind_some.1 h; obtain ⟨zl, hzl, h⟩ := h
        cases h
        unfold zeros at hzl
        replace hzl := bind_some.1 hzl; obtain ⟨z, hz, hzl⟩ := hzl
        split at hzl
        · rename_i hzs
          cases hzl
          have hzr : VRels ρ (cellsOf z) z.cells.toList := (zero_rel (ρ := ρ) (ko _ _ he') hz).cells.1
          obtain ⟨xi, hxi, hxb, _, _⟩ := run_info (ko _ _ he')
          have wl : IntKind.i64.wrap ln = ln := wrap_small hb.1 (by omega)
          have wc : IntKind.i64.wrap cp = cp := wrap_small (by omega) hb.2.2.1
          have row : ∃ c' : Array Value, VRels ρ (rep cp.toNat (cellsOf z)) c'.toList ∧ (execOp ev' ⟨dst, .makeSlice t l c, ty, pos, after, guard⟩).run P w = .ok (.value (.slice (some ⟨w.heap.size, 0, none⟩) ln.toNat cp.toNat)) (w.alloc (.cells c' elem)) := by
            have hpre : (decide (cp < 0) || decide ((e.bytes : Int) * cp > 2 ^ 48)) = false := by
              simp only [Bool.or_eq_false_iff, decide_eq_false_iff_not]; omega
            by_cases h0 : cp.toNat * e.size = 0
            · have : rep cp.toNat (cellsOf z) = [] := by
                unfold rep
                apply List.flatten_eq_nil_iff.2
                intro l hl
                rw [List.mem_replicate] at hl
                rcases Nat.mul_eq_zero.1 h0 with h0 | h0
                · exact absurd h0 hl.1
                · rw [hl.2]; exact List.eq_nil_of_length_eq_zero (by omega)
              refine ⟨#[], by rw [this]; exact .nil, ?_⟩
              simp only [execOp, Instr.makeSlice, hvl', hvc', Sem.run_bind, run_und (ko _ _ hi), hu, asInt, asIntOf, Sem.run_pure, Result.andThen_ok, hxi, hxb, wl, wc, hpre]
              have q1 : ¬ (ln < 0) := by omega
              have q2 : ¬ (ln > cp) := by omega
              simp [q1, q2, run_size (ko _ _ he'), h0, newRow]
              congr 2
              apply Array.ext'; simp
            · refine ⟨(Array.range (cp.toNat * e.size)).map (z.cells[· % z.cells.size]!), ?_, ?_⟩
              · rw [← hzs, flat_range (cellsOf z) z.cells (cells_arr z) cp.toNat]
                exact VRels.flatten_replicate _ (by have := hzr; rw [cells_arr] at this; exact this)
              · simp only [execOp, Instr.makeSlice, hvl', hvc', Sem.run_bind, run_und (ko _ _ hi), hu, asInt, asIntOf, Sem.run_pure, Result.andThen_ok, hxi, hxb, wl, wc, hpre]
                have q1 : ¬ (ln < 0) := by omega
                have q2 : ¬ (ln > cp) := by omega
                simp [q1, q2, run_size (ko _ _ he'), h0, newRow, run_zero (ko _ _ he') hz]
          obtain ⟨c', rel, run⟩ := row
          refine ⟨_, _, ⟨w.heap.size, 0, none, c'.size⟩, run, rfl, ⟨by simp, rfl, rfl⟩, fun r hr => alloc_old w _ r hr, ?_, fun ρ' id hid => ?_⟩
          · have hlen : (rep cp.toNat (cellsOf z)).length = c'.size := by rw [rel.1]; simp
            exact orel_cells rfl rfl rfl (alloc_new w _) (by omega) (by rw [hlen, List.take_of_length_le (by simp)]; exact rel) (fun j _ => by simp) (fun _ h => by cases h)
          · exact .slice id 0 _ _ _ 0 _ hid (by omega) (.inl rfl) (Nat.le_refl _) (fun _ => rfl) (fun z hz => by cases hz)
        · cases hzl
      · cases h
    · cases h
  case makeMap t r =>
    have fin : (∃ w', (execOp ev' ⟨dst, .makeMap t r, ty, pos, after, guard⟩).run P w = .ok (.value (.map (some w.heap.size))) w' ∧ w' = w.alloc (.map #[] 0)) → NewRuns P ρ ev' ⟨dst, .makeMap t r, ty, pos, after, guard⟩ (.map [] 0) .map w := by
      rintro ⟨w', run, rfl⟩
      refine ⟨_, _, ⟨w.heap.size, 0, none, 0⟩, run, rfl, ⟨by simp, rfl, rfl⟩, fun r hr => alloc_old w _ r hr, ⟨#[], alloc_new w _, rfl, fun j a b ha => by simp at ha⟩, fun ρ' id hid => .map id _ hid⟩
    cases r with
    | none =>
      simp only [Option.map_none] at h
      cases h
      exact fin ⟨_, by simp [execOp, Instr.makeMap], rfl⟩
    | some r =>
      simp only [Option.map_some] at h
      split at h
      · rename_i hv; cases hv
      · rename_i k n hv
        replace h := bind_some.1 h; obtain ⟨i, hi, h⟩ := h
        split at h
        · rename_i kt et hu
          cases h
          have hr := he r
          simp only [Option.some.injEq] at hv
          rw [hv] at hr
          exact fin ⟨_, by simp [execOp, Instr.makeMap, run_und (ko _ _ hi), hu, hr.int_inv, asInt, asIntOf], rfl⟩
        · cases h
      · cases h
  case convert s d x =>
    split at h
    · cases h
    replace h := bind_some.1 h; obtain ⟨i, hi, h⟩ := h
    replace h := bind_some.1 h; obtain ⟨j, hj, h⟩ := h
    split at h
    · rename_i et u hu hv hx
      replace h := bind_some.1 h; obtain ⟨e, he', h⟩ := h
      split at h
      · rename_i hw
        cases h
        have hr := he x
        rw [hx] at hr
        have hx' := hr.string_inv
        let cap := (Question.appendCap u.size 0 et).cut (w.tape w.drawn (.appendCap u.size 0 et))
        have hcap : u.size ≤ cap := by show u.size ≤ u.size + _; omega
        let c : Array Value := u.data.map (fun b => Value.int .u8 b.toNat) ++ Array.replicate (cap - u.size) (.int .u8 0)
        have hcs : c.size = cap := by simp [c]; have : u.data.size = u.size := rfl; omega
        have hat : ((w.drew).alloc (.cells c et)).heap[w.heap.size]? = some (.cells c et) := alloc_new w.drew (.cells c et)
        have hsh : ((w.drew).alloc (.cells c et)).shape? w.heap.size = some (et, c.size) := by
          unfold World.shape?; rw [hat]
        refine ⟨((w.drew).alloc (.cells c et)).freeze ⟨w.heap.size, c.size, none⟩ 1, .slice (some ⟨w.heap.size, 0, none⟩) u.size cap, ⟨w.heap.size, 0, some (1, et), c.size⟩, ?_, rfl, ?_, ?_, ?_, ?_⟩
        · have e1 : (Conv.stringToBytes et u).run P w = .ok (.slice (some ⟨w.heap.size, 0, none⟩) u.size cap) (((w.drew).alloc (.cells c et)).freeze ⟨w.heap.size, c.size, none⟩ 1) := by
            unfold Conv.stringToBytes
            rw [Sem.run_bind, run_choose]
            rw [if_neg (by simp [Question.forced])]
            simp only [Result.andThen_ok, Sem.run_bind, newRow, run_newObj, Sem.run_pure, markStringish, run_shape, World.drew_eq, World.alloc_eq]
            have hsh2 : World.shape? (w.drew.alloc (Obj.cells (Array.map (fun b => Value.int IntKind.u8 b.toNat) u.data ++
              Array.replicate ((Question.appendCap u.size 0 et).cut (w.tape w.drawn (Question.appendCap u.size 0 et)) - u.size) (Value.int IntKind.u8 0)) et)) w.drew.heap.size = some (et, c.size) := hsh
            rw [hsh2]
            rfl
          simp only [execOp, convert, Sem.run_bind, run_und (ko _ _ hi), run_und (ko _ _ hj), Result.andThen_ok, hu, hv, hx', run_und (ko _ _ he'), hw, e1, Sem.run_pure]
        · exact ⟨by rw [freeze_size]; simp, freeze_side ⟨rfl, rfl⟩⟩
        · intro r hr
          rw [freeze_other (Nat.ne_of_lt hr)]
          exact alloc_old w.drew _ r hr
        · have hlen : ((strL u).map byteV).length = u.size := by simp [strL_size]
          refine orel_cells rfl rfl rfl (freeze_at hat) (by rw [hlen]; omega) ?_ (fun j hj => by simp only; omega) (fun _ h => by cases h; exact ⟨rfl, fun h => by cases h⟩)
          have hc : c.toList.take ((strL u).map byteV).length = (strL u).map byteV := by
            rw [hlen]
            simp only [c, Array.toList_append, Array.toList_map]
            rw [List.take_append_of_le_length (by simp), List.take_of_length_le (by simp)]
            rfl
          rw [hc]
          exact .of_get rfl fun j v v' h1 h2 => by
            rw [h1] at h2; cases h2
            rw [List.getElem?_map, Option.map_eq_some_iff] at h1
            obtain ⟨b, _, rfl⟩ := h1
            exact .int _ _
        · intro ρ' id hid
          exact .slice id 0 _ _ _ 0 cap hid (Nat.le_refl _) (.inl rfl) hcap (fun h => by cases h) (fun z hz => by cases hz; simp; omega)
      · cases h
    · cases h
/-! ## Rows of cells written -/
theorem store_cell {w : World} {b o : Nat} {c : Array Value} {e : TypeId} {fr : Nat × Nat} {v : Value} (h : w.heap[b]? = some (.cells c e fr)) (ho : o < c.size) (hf : ¬ (fr.1 ≤ o ∧ o < fr.2)) (hv : v.oneCell' = true) :
    (store ⟨b, o, none⟩ v).run P w = .ok () (w.setCell ⟨b, o, none⟩ v) := by
  have hc : w.cell? ⟨b, o, none⟩ = some c[o] := by rw [cell_eq h]; simp [ho]
  have hz : w.frozen? ⟨b, o, none⟩ = false := by
    unfold World.frozen?
    rw [h]
    simp only [Bool.and_eq_false_iff, decide_eq_false_iff_not]
    by_cases h1 : fr.1 ≤ o
    · right; exact fun h2 => hf ⟨h1, h2⟩
    · left; exact h1
  unfold store
  cases v <;> first | (simp [Value.oneCell'] at hv; done) | (simp only [Sem.run, hc, hz]; rfl)
theorem setCell_at {w : World} {b o : Nat} {c : Array Value} {e : TypeId} {fr : Nat × Nat} {v : Value} (h : w.heap[b]? = some (.cells c e fr)) :
    (w.setCell ⟨b, o, none⟩ v).heap[b]? = some (.cells (c.setIfInBounds o v) e fr) := by
  unfold World.setCell
  simp [h, Array.getElem?_modify]
theorem setCell_off {w : World} {b o r : Nat} {v : Value} (h : r ≠ b) : (w.setCell ⟨b, o, none⟩ v).heap[r]? = w.heap[r]? := by
  unfold World.setCell
  simp [Array.getElem?_modify, Ne.symm h]
theorem setCell_side {w : World} {a : Addr} {v : Value} : (w.setCell a v).os = w.os ∧ (w.setCell a v).output = w.output := by
  unfold World.setCell
  split <;> exact ⟨rfl, rfl⟩
theorem storeCells_run {b off : Nat} {e : TypeId} {fr : Nat × Nat} : ∀ (l : List Value) (i : Nat) (c : Array Value) (w : World), w.heap[b]? = some (.cells c e fr) → off + i + l.length ≤ c.size →
    (∀ v ∈ l, v.oneCell' = true) → (∀ j, off + i ≤ j → j < off + i + l.length → ¬ (fr.1 ≤ j ∧ j < fr.2)) →
    ∃ w' c', (storeCells ⟨b, off, none⟩ l i).run P w = .ok () w' ∧ w'.heap[b]? = some (.cells c' e fr) ∧ c'.toList = splice c.toList (off + i) l ∧ (w'.heap.size = w.heap.size ∧ w'.os = w.os ∧ w'.output = w.output) ∧ ∀ r, r ≠ b → w'.heap[r]? = w.heap[r]? := by
  intro l
  induction l with
  | nil => intro i c w h _ _ _; exact ⟨w, c, rfl, h, by simp [splice], ⟨rfl, rfl, rfl⟩, fun _ _ => rfl⟩
  | cons v l ih =>
    intro i c w h hl hv hf
    simp only [List.length_cons] at hl hf
    have hs := store_cell (P := P) (v := v) h (o := off + i) (by omega) (hf _ (Nat.le_refl _) (by omega)) (hv v (by simp))
    obtain ⟨w', c', run, hw', hc', hsz, hold⟩ := ih (i + 1) (c.setIfInBounds (off + i) v) (w.setCell ⟨b, off + i, none⟩ v) (setCell_at h) (by simp; omega) (fun x hx => hv x (by simp [hx]))
      (fun j h1 h2 => hf j (by omega) (by omega))
    refine ⟨w', c', ?_, hw', ?_, ⟨by rw [hsz.1]; simp, hsz.2.1.trans setCell_side.1, hsz.2.2.trans setCell_side.2⟩, fun r hr => by rw [hold r hr, setCell_off hr]⟩
    · unfold storeCells
      rw [Sem.run_bind, add_cell, hs]
      exact run
    · rw [hc']
      unfold splice
      simp only [Array.toList_setIfInBounds, List.length_cons]
      have e1 : (c.toList.set (off + i) v).take (off + (i + 1)) = c.toList.take (off + i) ++ [v] := by
        rw [show off + (i + 1) = (off + i) + 1 by omega, List.take_succ_eq_append_getElem (by simp; omega), List.take_set_of_le (Nat.le_refl _)]
        simp
      have e2 : (c.toList.set (off + i) v).drop (off + (i + 1) + l.length) = c.toList.drop (off + i + (l.length + 1)) := by
        rw [List.drop_set_of_lt (by omega)]
        congr 1; omega
      rw [e1, e2]
      simp

theorem one_rel {l l' : List Value} (h : VRels ρ l l') (ho : l.all oneCell = true) : ∀ v ∈ l', v.oneCell' = true := by
  intro v' hv
  obtain ⟨j, hj, rfl⟩ := List.getElem_of_mem hv
  have := h.2 j (by rw [h.1]; exact hj) hj
  rw [← this.oneCell]
  exact List.all_eq_true.1 ho _ (List.getElem_mem _)
theorem splice_mid (c cs l : List Value) (base n : Nat) (hb : base + cs.length ≤ c.length) (hn : n + l.length ≤ cs.length) (_hcs : True) :
    ((splice c (base + n) l).drop base).take cs.length = splice ((c.drop base).take cs.length) n l := by
  apply List.ext_getElem?
  intro j
  unfold splice
  simp only [List.getElem?_take, List.getElem?_drop, List.getElem?_append, List.length_take, List.length_append, List.length_drop]
  by_cases h1 : j < cs.length
  · rw [if_pos h1]
    by_cases h2 : j < n
    · rw [if_pos (by omega), if_pos (by omega), if_pos (by omega), if_pos (by omega), if_pos (by omega), if_pos (by omega), if_pos h1]
    · by_cases h3 : j < n + l.length
      · rw [if_pos (by omega), if_neg (by omega), if_pos (by omega), if_neg (by omega)]
        congr 1; omega
      · rw [if_neg (by omega), if_neg (by omega), if_pos (by omega)]
        congr 1; omega
  · rw [if_neg h1]
    symm
    rw [if_neg (by omega), if_neg (by omega)]
theorem wr_run {h h' : Heap} {w : World} (g : Good ρ h w) {a : Addr} {l l' : List Value} {i : Info} (hi : ρ a.block = some i) (hw : wrN h a l = some h') (hr : VRels ρ l l') (ho : l.all oneCell = true) (o' : Nat) (hoff : o' = i.base + a.off) :
    ∃ w', (storeCells ⟨i.blk, o', none⟩ l').run P w = .ok () w' ∧ Good ρ h' w' ∧ Stp ρ h w ρ h' w' := by
  unfold wrN at hw
  split at hw
  · rename_i cs opn hsp hget
    split at hw
    · rename_i hle
      cases hw
      obtain ⟨h1, c, e, fr, hc, hsz, hb, rel, hfz, hty⟩ := g.rel _ _ _ hi hget
      have hll := hr.1
      obtain ⟨w', c', run, hw', hc', hs, hold⟩ := storeCells_run (P := P) (b := i.blk) (off := o') l' 0 c w hc (by omega) (one_rel hr ho)
        (fun j q1 q2 => hfz rfl j (by omega) (by omega))
      have hcsz : c'.size = c.size := by
        have : c'.toList.length = c.toList.length := by rw [hc']; unfold splice; simp; omega
        simpa using this
      have := step_set (o := .cells (splice cs a.off l) true opn) g hi (by rw [hget]; simp) hs hold ⟨h1, c', e, fr, hw', by omega, by
          have : (splice cs a.off l).length = cs.length := by unfold splice; simp; omega
          omega, by
          have hlen : (splice cs a.off l).length = cs.length := by unfold splice; simp; omega
          rw [hlen, hc', Nat.add_zero, hoff]
          have := splice_mid c.toList cs l' i.base a.off (by simp; omega) (by omega) trivial
          rw [this]
          exact rel.splice a.off hr, hfz, fun z hz => ⟨(hty z hz).1, fun h0 => by
          have h1 := (hty z hz).2 h0
          have h2 : (splice cs a.off l).length = cs.length := by unfold splice; simp; omega
          rw [h2]; exact h1⟩⟩
      exact ⟨w', run, this.1, this.2⟩
    · cases hw
  · cases hw
end
end Go.Vi
