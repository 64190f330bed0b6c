/- Vi10: operations that write: stores, append, copy, clear. -/
import Derived.Test.YtdbicjhpgofpiaaGreatDoorVi9
namespace Go.Vi
section
variable {P : Program} {E : Env} {ρ : Map}

/-- a run that ends in a value (or in none: `undef` then), and in a state behind. -/
def Hev (P : Program) (ρ : Map) (h : Heap) (w : World) (ev' : Operand → Value) (o : Oper) (v : Value) (h' : Heap) : Prop :=
  ∃ w' n ρ', (execOp ev' o).run P w = .ok n w' ∧ ((∃ v', n = .value v' ∧ VRel ρ' v v') ∨ (n = .skip ∧ v = undef)) ∧ Good ρ' h' w' ∧ Stp ρ h w ρ' h' w'

theorem store_run (ko : TysOk P E) {h h' : Heap} {w : World} (g : Good ρ h w) {t : TypeId} {p p' v v' : Value} (hp : VRel ρ p p') (hv : VRel ρ v v') (hs : storeV E t p v h = some h') :
    ∃ w', (Instr.storeAt t p' v').run P w = .ok () w' ∧ Good ρ h' w' ∧ Stp ρ h w ρ h' w' := by
  unfold storeV at hs
  replace hs := bind_some.1 hs; obtain ⟨i, hi, hs⟩ := hs
  replace hs := bind_some.1 hs; obtain ⟨a, ha, hs⟩ := hs
  simp only at hs
  split at hs
  · rename_i hl
    obtain ⟨rfl, hspot⟩ : p = .pointer (some a) ∧ a.spot = none := by
      unfold ptrOf at ha
      split at ha
      · split at ha
        · cases ha; rename_i hs; exact ⟨rfl, by simpa using hs⟩
        · cases ha
      · cases ha
    obtain ⟨j, hj, _, rfl⟩ := ptr_inv hp
    have hc := hv.cells
    obtain ⟨w', run, g', s'⟩ := wr_run (P := P) g hj hs hc.1 hl.2 _ rfl
    refine ⟨w', ?_, g', s'⟩
    have hsz : v'.cells.size = i.size := by rw [← hl.1, hc.1.1]; simp
    simp only [Instr.storeAt, Instr.sureAddr, storeVar, Sem.run_bind, Sem.run_pure, Result.andThen_ok, run_size (ko _ _ hi)]
    rw [if_neg (by omega)]
    simpa using run
  · cases hs

theorem loadCells_of {w : World} {a : Addr} {l' : List Value} (h : ∀ (j : Nat) (v' : Value), l'[j]? = some v' → w.cell? (Addr.add a j) = some v') {k : Nat} (hk : k ≤ l'.length) :
    (loadCells a k).run P w = .ok (l'.take k).toArray w := by
  have := run_loadCells_list (P := P) (w := w) a (l'.take k) (fun j v hj => h j v (by
    rw [List.getElem?_take] at hj
    split at hj
    · exact hj
    · cases hj))
  rw [List.length_take, Nat.min_eq_left hk] at this
  exact this
theorem src_run {h : Heap} {w : World} (g : Good ρ h w) {size n : Nat} {x x' : Value} {new : List Value} (hx : VRel ρ x x') (hs : srcV size x h = some (n, new)) (hl : new.length = n * size) :
    (∀ w, (Builtin.lenOf x').run P w = .ok n w) ∧ ∀ k, k ≤ n → ∃ new' : Array Value, (Builtin.firstCells size k x').run P w = .ok new' w ∧ VRels ρ (new.take (k * size)) new'.toList := by
  unfold srcV at hs
  split at hs
  · cases hs; cases hx
    exact ⟨fun w => rfl, fun k hk => ⟨#[], by simp [Builtin.firstCells], by simpa using VRels.nil⟩⟩
  · rename_i a m c
    cases hx with
    | slice b o _ _ q o' cap' hq hlc ho hc hn hr =>
      split at hs
      · rename_i h0
        cases hs
        refine ⟨fun w => by rw [h0]; rfl, fun k hk => ⟨#[], ?_, by simpa using VRels.nil⟩⟩
        have : k = 0 := by omega
        subst this
        simp [Builtin.firstCells, loadCells, loadCellsFrom]
      · rename_i h0
        obtain ⟨l, hrd, he⟩ := Option.map_eq_some_iff.1 hs
        cases he
        have ho : o' = q.base + o := by
          rcases ho with ho | ho
          · exact ho
          · exact absurd ho.1 h0
        obtain ⟨l', rel, hlen, hcell⟩ := rd_real g (a := ⟨b, o, none⟩) hq hrd o' ho
        refine ⟨fun w => rfl, fun k hk => ⟨(l'.take (k * size)).toArray, ?_, by simpa using rel.take _⟩⟩
        have hk' : k * size ≤ l'.length := by rw [← rel.1, hl]; exact Nat.mul_le_mul_right _ hk
        simp only [Builtin.firstCells]
        exact loadCells_of hcell hk'
  · rename_i s
    cases hs
    rw [hx.string_inv]
    refine ⟨fun w => rfl, fun k hk => ⟨(s.extract 0 k).data.map fun b => .int .u8 b.toNat, by simp [Builtin.firstCells], ?_⟩⟩
    rw [extract_eq]
    have hsz : k * size = k := by
      simp only [List.length_map, strL_size] at hl
      by_cases h0 : k = 0
      · simp [h0]
      · have : size = 1 := by
          have h1 : s.size * 1 = s.size * size := by omega
          exact (Nat.eq_of_mul_eq_mul_left (by omega) h1).symm
        simp [this]
    rw [hsz]
    have : ((strOf (((strL s).drop 0).take (k - 0))).data.map fun b => Value.int .u8 b.toNat).toList = ((strL s).map byteV).take k := by
      simp only [strOf, List.drop_zero, Nat.sub_zero, Array.toList_map, List.map_take]
      rfl
    rw [this]
    exact .of_get rfl fun j v v' h1 h2 => by
      rw [h1] at h2; cases h2
      rw [List.getElem?_take] at h1
      split at h1
      · rw [List.getElem?_map, Option.map_eq_some_iff] at h1
        obtain ⟨b, _, rfl⟩ := h1
        exact .int _ _
      · cases h1
  · cases hs

theorem grow_le (need : Nat) : ∀ (r c : Nat), c ≤ 2 * need + 200 → Builtin.growBy need r c ≤ 2 * need + 200 := by
  intro r
  induction r with
  | zero => intro c h; exact h
  | succ r ih =>
    intro c h
    unfold Builtin.growBy
    split
    · exact h
    · exact ih _ (by omega)
theorem next_le {need old : Nat} (h : old < need) : Builtin.nextslicecap need old ≤ 2 * need + 200 := by
  unfold Builtin.nextslicecap
  split
  · omega
  · split
    · omega
    · exact grow_le need 4 old (by omega)
theorem next_bytes {need old bytes : Nat} (h : old < need) (hb : need * bytes ≤ 2 ^ 36) : ¬ (Builtin.nextslicecap need old * bytes > 2 ^ 48) := by
  have h1 := next_le h
  have h2 : Builtin.nextslicecap need old * bytes ≤ (2 * need + 200) * bytes := Nat.mul_le_mul_right _ h1
  have h3 : bytes ≤ need * bytes := Nat.le_mul_of_pos_left _ (by omega)
  rw [Nat.add_mul, Nat.mul_assoc] at h2
  omega
theorem zeroCells_size (z : Array Value) (n : Nat) : (Builtin.zeroCells z n).size = n * z.size := by simp [Builtin.zeroCells]

/-- what is appended is no number of noughts. -/
theorem okSrc_inv (ko : TysOk P E) {xt : Option TypeId} (h : okSrc E xt = some true) : xt = none ∨ ∃ u d, xt = some u ∧ (∀ w, (underlying u).run P w = .ok d w) ∧ ∀ k, d ≠ .int k := by
  unfold okSrc at h
  cases xt with
  | none => exact .inl rfl
  | some u =>
    obtain ⟨j, hj, hu⟩ := Option.map_eq_some_iff.1 h
    exact .inr ⟨u, j.under, rfl, fun w => run_und (ko _ _ hj), fun k hk => by rw [hk] at hu; simp at hu⟩

theorem okSrc_zero (ko : TysOk P E) {xt : Option TypeId} (h : okSrc E xt = some false) : ∃ u k, xt = some u ∧ ∀ w, (underlying u).run P w = .ok (.int k) w := by
  unfold okSrc at h
  cases xt with
  | none => cases h
  | some u =>
    obtain ⟨j, hj, hu⟩ := Option.map_eq_some_iff.1 h
    split at hu
    · rename_i k hk; exact ⟨u, k, rfl, fun w => by rw [← hk]; exact run_und (ko _ _ hj)⟩
    · cases hu
/-- how what is appended is run: so many elements, their cells. -/
def SrcRuns (P : Program) (E : Env) (ats : Array TypeId) (e : Ty) (x' : Value) (n : Nat) (new' : Array Value) (w : World) : Prop :=
  (okSrc E (ats[1]?) = some true ∧ (∀ w, (Builtin.lenOf x').run P w = .ok n w) ∧ (Builtin.firstCells e.size n x').run P w = .ok new' w) ∨
  (okSrc E (ats[1]?) = some false ∧ ∃ k i z, x' = .int k i ∧ 0 ≤ i ∧ i < 2 ^ 36 ∧ i.toNat = n ∧ n * e.bytes ≤ 2 ^ 36 ∧ e.zero = some z ∧ z.cells.size = e.size ∧ new' = Builtin.zeroCells z.cells n)
/-- the making of a new row behind a growth. -/
theorem grow_run (ko : TysOk P E) {w : World} {ats : Array TypeId} {args : Array Value} {st : TypeId} {rt elem : TypeId} {i e : Ty} {z : Value} (hi : E.ty st = some i) (hu : i.under = .slice elem) (he : E.ty elem = some e)
    (hz : e.zero = some z) (hzs : (cellsOf z).length = e.size) {base : Option Addr} {len n cap' : Nat} {x' : Value} {old' new' : Array Value}
    (ha : ats[0]? = some st) (hs : args[0]? = some (.slice base len cap')) (hx : args[1]? = some x') (hsrc : SrcRuns P E ats e x' n new' w.drew)
    (hold : (Builtin.firstCells e.size len (.slice base len cap')).run P w.drew = .ok old' w.drew) (hcap : cap' < len + n) (hb : (len + n) * e.bytes ≤ 2 ^ 36) (hm : len + n ≤ 2 ^ 36) :
    ∃ nc, len + n ≤ nc ∧ ∃ rest : Array Value, rest.size = (nc - (len + n)) * e.size ∧
      (Builtin.append_ ats rt args).run P w = .ok (.slice (some ⟨w.heap.size, 0, none⟩) (len + n) nc) ((w.drew).alloc (.cells (old' ++ new' ++ rest) elem)) := by
  obtain ⟨xi, hxi, hxb, _, _⟩ := run_info (ko _ _ he)
  let nc := (Question.appendCap (len + n) cap' elem).cut (w.tape w.drawn (.appendCap (len + n) cap' elem))
  refine ⟨nc, by show len + n ≤ len + n + _; omega, Builtin.zeroCells z.cells (nc - (len + n)), ?_, ?_⟩
  · rw [zeroCells_size]
    have : z.cells.size = e.size := by rw [← hzs, cellsOf_eq]; simp
    rw [this]
  · have q1 : ¬ (len + n ≤ cap') := by omega
    have q2 : ¬ (((len + n : Nat) : Int) > IntKind.i64.max ∧ (False ∨ e.bytes = 0)) := by
      have : IntKind.i64.max = 9223372036854775807 := by decide
      omega
    have q3 := next_bytes hcap hb
    have q4 : Question.forced (.appendCap (len + n) cap' elem) = false := rfl
    unfold Builtin.append_
    simp only [ha, hs, hx, Sem.run_bind, run_und (ko _ _ hi), hu, Result.andThen_ok, run_size (ko _ _ he)]
    rcases hsrc with ⟨hok, hlen, hnew⟩ | ⟨hok, k0, i0, z2, rfl, h0, h1, hin, hnb, hz2, hzs2, hnew⟩
    rcases okSrc_inv (P := P) ko hok with hq | ⟨u, d, hq, hd, hnk⟩
    · simp only [hq, Sem.run_bind, Sem.run_pure, Result.andThen_ok, Bool.false_eq_true, if_false, hlen, q1, hxi, hxb, q2, q3, run_choose, q4, run_askRoom, World.drew_eq, hold, hnew, Bool.not_false, if_true, run_zero (ko _ _ he) hz, newRow, run_newObj, World.alloc_eq]
      rfl
    · simp only [hq, Sem.run_bind, hd, Result.andThen_ok]
      cases d <;> first
        | exact absurd rfl (hnk _)
        | (simp only [Sem.run_bind, Sem.run_pure, Result.andThen_ok, Bool.false_eq_true, if_false, hlen, q1, hxi, hxb, q2, q3, run_choose, q4, run_askRoom, World.drew_eq, hold, hnew, Bool.not_false, if_true, run_zero (ko _ _ he) hz, newRow, run_newObj, World.alloc_eq]
           rfl)
    · obtain ⟨u, ku, hq, hd⟩ := okSrc_zero (P := P) ko hok
      have ha0 : ∀ w, (asInt (Value.int k0 i0)).run P w = .ok i0 w := fun w => rfl
      have q2' : ¬ (((len + n : Nat) : Int) > IntKind.i64.max ∧ (True ∨ e.bytes = 0)) := by
        have : IntKind.i64.max = 9223372036854775807 := by decide
        omega
      have w1 : IntKind.i64.wrap i0 = i0 := wrap_small h0 (by omega)
      have w2 : ¬ (i0 < 0) := by omega
      have w3 : ¬ (i0 * ((e.bytes : Nat) : Int) > 2 ^ 48) := by
        have : i0 = ((n : Nat) : Int) := by omega
        rw [this, ← Int.natCast_mul]; omega
      have w4 : n * e.size = 0 → new' = #[] := fun hz0 => by
        rw [hnew]; apply Array.eq_empty_of_size_eq_zero; rw [zeroCells_size, hzs2]; exact hz0
      simp only [hq, Sem.run_bind, hd, Result.andThen_ok, Sem.run_pure, if_true, ha0, hxi, hxb, w1, w2, w3, if_false, hin, q1, q2', q3, Bool.not_true, Bool.false_eq_true, run_choose, q4, run_askRoom, World.drew_eq, hold, run_zero (ko _ _ he) hz, newRow, run_newObj, World.alloc_eq]
      have hap2 : ∀ w, (if n * e.size = 0 then (pure #[] : Sem (Array Value)) else (do pure (Builtin.zeroCells (← zeroValue elem).cells n))).run P w = .ok new' w := fun w => by
        split
        · rename_i hz0; rw [w4 hz0]; rfl
        · simp [run_zero (ko _ _ he) hz2, hnew]
      rw [hap2]
      rfl
/-- what is appended within the capacity. -/
theorem fits_run (ko : TysOk P E) {w : World} {ats : Array TypeId} {args : Array Value} {st : TypeId} {rt elem : TypeId} {i e : Ty} (hi : E.ty st = some i) (hu : i.under = .slice elem) (he : E.ty elem = some e)
    {base : Option Addr} {len n cap' : Nat} {x' : Value} {new' : Array Value}
    (ha : ats[0]? = some st) (hs : args[0]? = some (.slice base len cap')) (hx : args[1]? = some x') (hsrc : SrcRuns P E ats e x' n new' w) (hcap : len + n ≤ cap') :
    (Builtin.append_ ats rt args).run P w = (match base with
      | some a => ((storeCells (a.add (len * e.size)) new'.toList).run P w).andThen fun _ w => .ok (.slice base (len + n) cap') w
      | none => .ok (.slice base (len + n) cap') w) := by
  obtain ⟨xi, hxi, hxb, _, _⟩ := run_info (ko _ _ he)
  unfold Builtin.append_
  simp only [ha, hs, hx, Sem.run_bind, run_und (ko _ _ hi), hu, Result.andThen_ok, run_size (ko _ _ he)]
  rcases hsrc with ⟨hok, hlen, hnew⟩ | ⟨hok, k0, i0, z2, rfl, h0, h1, hin, hnb, hz2, hzs2, hnew⟩
  rcases okSrc_inv (P := P) ko hok with hq | ⟨u, d, hq, hd, hnk⟩
  · simp only [hq, Sem.run_bind, Sem.run_pure, Result.andThen_ok, Bool.false_eq_true, if_false, hlen, hcap, if_true, hnew, Bool.not_false]
    cases base <;> simp
  · simp only [hq, Sem.run_bind, hd, Result.andThen_ok]
    cases d <;> first
      | exact absurd rfl (hnk _)
      | (simp only [Sem.run_bind, Sem.run_pure, Result.andThen_ok, Bool.false_eq_true, if_false, hlen, hcap, if_true, hnew, Bool.not_false]
         cases base <;> simp)
  · obtain ⟨u, ku, hq, hd⟩ := okSrc_zero (P := P) ko hok
    have ha0 : ∀ w, (asInt (Value.int k0 i0)).run P w = .ok i0 w := fun w => rfl
    have w1 : IntKind.i64.wrap i0 = i0 := wrap_small h0 (by omega)
    have w2 : ¬ (i0 < 0) := by omega
    have w3 : ¬ (i0 * ((e.bytes : Nat) : Int) > 2 ^ 48) := by
      have : i0 = ((n : Nat) : Int) := by omega
      rw [this, ← Int.natCast_mul]; omega
    have w4 : n * e.size = 0 → new' = #[] := fun hz0 => by
      rw [hnew]; apply Array.eq_empty_of_size_eq_zero; rw [zeroCells_size, hzs2]; exact hz0
    simp only [hq, Sem.run_bind, hd, Result.andThen_ok, Sem.run_pure, if_true, ha0, hxi, hxb, w1, w2, w3, if_false, hin, hcap, Bool.not_true, Bool.false_eq_true]
    have hap2 : ∀ w, (if n * e.size = 0 then (pure #[] : Sem (Array Value)) else (do pure (Builtin.zeroCells (← zeroValue elem).cells n))).run P w = .ok new' w := fun w => by
      split
      · rename_i hz0; rw [w4 hz0]; rfl
      · simp [run_zero (ko _ _ he) hz2, hnew]
    rw [hap2]
    cases base <;> simp

theorem rdN_drew {h : Heap} {w : World} (g : Good ρ h w) : Good ρ h w.drew :=
  ⟨fun b i o hb ho => ORel.move (.refl _) rfl (g.rel b i o hb ho), g.inj, fun b i hb => g.lt b i hb, g.fresh⟩
theorem stp_drew {h h' : Heap} {w w' : World} {ρ' : Map} (s : Stp ρ h w.drew ρ' h' w') : Stp ρ h w ρ' h' w' :=
  ⟨s.ext, s.dom, s.win, s.next, s.vframe, s.dead, s.grow, s.rframe, s.fromN, s.side⟩

theorem append_run (ko : TysOk P E) {h h' : Heap} {w : World} (g : Good ρ h w) {ats : Array TypeId} {args : Array Value} {st rt : TypeId} {s x s' x' v : Value}
    (win : ∀ b, h.next ≤ b → b < h'.next → ρ b = none)
    (ha : ats[0]? = some st) (has : args[0]? = some s') (hax : args[1]? = some x') (hs : VRel ρ s s') (hx : VRel ρ x x') (hap : appendV E st (ats[1]?) s x h = some (v, h')) :
    ∃ w' v' ρ', (Builtin.append_ ats rt args).run P w = .ok v' w' ∧ VRel ρ' v v' ∧ Good ρ' h' w' ∧ Stp ρ h w ρ' h' w' := by
  unfold appendV at hap
  replace hap := bind_some.1 hap; obtain ⟨i, hi, hap⟩ := hap
  split at hap
  · rename_i elem base len cap hu
    replace hap := bind_some.1 hap; obtain ⟨e, he, hap⟩ := hap
    replace hap := bind_some.1 hap; obtain ⟨okx, hokx, hap⟩ := hap
    replace hap := bind_some.1 hap; obtain ⟨⟨n, new⟩, hsrc, hap⟩ := hap
    simp only at hap
    split at hap
    · cases hap
    · rename_i hcond
      simp only [Bool.or_eq_true, Bool.not_eq_true', ne_eq, not_or, Bool.not_eq_false] at hcond
      obtain ⟨⟨hsz, hlnew⟩, hone⟩ := hcond
      have hsz : e.size ≠ 0 := by simpa using hsz
      have hlnew : new.length = n * e.size := by simpa using hlnew
      have srcs : ∀ w, Good ρ h w → ∃ new' : Array Value, SrcRuns P E ats e x' n new' w ∧ VRels ρ new new'.toList := by
        intro w g
        cases okx with
        | true =>
          have hsrc : srcV e.size x h = some (n, new) := hsrc
          obtain ⟨hlen, hfirst⟩ := src_run (P := P) g hx hsrc hlnew
          obtain ⟨new', hnew, rnew⟩ := hfirst n (Nat.le_refl _)
          rw [List.take_of_length_le (by omega)] at rnew
          exact ⟨new', .inl ⟨hokx, hlen, hnew⟩, rnew⟩
        | false =>
          have hsrc : zsrcV e x = some (n, new) := hsrc
          unfold zsrcV at hsrc
          split at hsrc
          · rename_i k i hkk
            split at hsrc
            · rename_i hr
              obtain ⟨l, hl, hle⟩ := Option.map_eq_some_iff.1 hsrc
              cases hle
              unfold zeros at hl
              replace hl := bind_some.1 hl; obtain ⟨z, hz, hl⟩ := hl
              split at hl
              · rename_i hzs
                cases hl
                have hx' := hx.int_inv
                subst hx'
                have hcs : z.cells.toList = cellsOf z := (cellsOf_eq z).symm
                refine ⟨_, .inr ⟨hokx, k, i, z, rfl, hr.1, hr.2.1, rfl, hr.2.2, hz, by rw [← hzs, cellsOf_eq]; simp, rfl⟩, ?_⟩
                have e1 : (Builtin.zeroCells z.cells i.toNat).toList = Vi.rep i.toNat (cellsOf z) := by
                  have := flat_range (cellsOf z) z.cells hcs i.toNat
                  unfold Builtin.zeroCells
                  rw [← this]
                  have e2 : (cellsOf z).length = z.cells.size := by rw [← hcs]; simp
                  rw [e2]
                rw [e1]
                have := (VRel.cells (zero_rel (ρ := ρ) (ko _ _ he) hz)).1
                rw [hcs] at this
                exact this.flatten_replicate _
              · cases hl
            · cases hsrc
          · cases hsrc
      obtain ⟨new', srcw, rnew⟩ := srcs w g
      split at hap
      · rename_i hfit
        split at hap
        · rename_i hn0
          cases hap
          subst hn0
          have hnil : new' = #[] := by
            have := rnew.1
            have h0 : new.length = 0 := by omega
            have h1 : new'.toList.length = 0 := by omega
            exact Array.eq_empty_of_size_eq_zero (by simpa using h1)
          have hs' := hs
          cases hs with
          | slice0 =>
            have := fits_run (P := P) (rt := rt) ko hi hu he ha has hax srcw (by omega)
            exact ⟨w, _, ρ, this, hs', g, .refl _ _ _⟩
          | slice b o _ _ q o' cap' hq hlc ho hc hn hr =>
            have := fits_run (P := P) (rt := rt) ko hi hu he ha has hax srcw (by omega)
            rw [hnil] at this
            exact ⟨w, _, ρ, by rw [this]; rfl, hs', g, .refl _ _ _⟩
        · rename_i hn0
          split at hap
          · rename_i a
            replace hap := bind_some.1 hap; obtain ⟨h2, hw, hap⟩ := hap
            cases hap
            cases hs with
            | slice b o _ _ q o' cap' hq hlc ho hc hn hr =>
              have ho : o' = q.base + o := by
                rcases ho with ho | ho
                · exact ho
                · omega
              rw [add_cell] at hw
              obtain ⟨w', run, g', s'⟩ := wr_run (P := P) g (a := ⟨b, o + len * e.size, none⟩) hq hw rnew hone (o' + len * e.size) (by simp only; omega)
              have := fits_run (P := P) (rt := rt) ko hi hu he ha has hax srcw (by omega)
              simp only [add_cell, run, Result.andThen_ok] at this
              exact ⟨w', _, ρ, this, .slice b o (len + n) cap q o' cap' hq hfit (.inl ho) hc hn hr, g', s'⟩
          · cases hap
      · rename_i hfit
        split at hap
        · cases hap
        · rename_i hbig
          simp only [not_or, Decidable.not_not, Nat.not_lt, gt_iff_lt] at hbig
          obtain ⟨hb1, hb2, hzc⟩ := hbig
          obtain ⟨z, hz, hzs⟩ := Option.map_eq_some_iff.1 hzc
          have gd := rdN_drew g
          obtain ⟨newd, srcd, rnewd⟩ := srcs w.drew gd
          split at hap
          · -- nothing was there
            split at hap
            · rename_i hl0
              cases hap
              subst hl0
              cases hs
              obtain ⟨nc, hnc, rest, hrest, run⟩ := grow_run (P := P) (rt := rt) ko hi hu he hz hzs ha has hax srcd (old' := #[]) (by simp [Builtin.firstCells]) (by omega) hb1 hb2
              have hnw : ρ h.next = none := win _ (Nat.le_refl _) (by show h.next < h.next + 1; omega)
              simp only [Nat.zero_add] at run hrest hnc
              let c : Array Value := #[] ++ newd ++ rest
              have hcs : c.size = nc * e.size := by
                have h1 : newd.size = n * e.size := by have := rnewd.1; simp at this; omega
                simp only [c, Array.size_append, hrest, h1]
                have e1 : n * e.size + (nc - n) * e.size = nc * e.size := by rw [← Nat.add_mul]; congr 1; omega
                simp only [Array.size_empty]
                omega
              have hio : ORel (upd ρ h.next ⟨w.heap.size, 0, some (e.size, elem), c.size⟩) (.cells new true (some (e.size, elem))) ⟨w.heap.size, 0, some (e.size, elem), c.size⟩ ((w.drew).alloc (.cells c elem)) := by
                refine orel_cells rfl rfl rfl (alloc_new w.drew _) ?_ ?_ (fun j _ => by simp) (fun _ h => by cases h; exact ⟨rfl, fun h => absurd h hsz⟩)
                · rw [hcs, hlnew]; exact Nat.mul_le_mul_right _ hnc
                · have : c.toList.take new.length = newd.toList := by
                    have h1 := rnewd.1
                    simp only [c, Array.toList_append, List.nil_append]
                    rw [h1, List.take_left']
                    rfl
                  rw [this]; exact rnewd.ext (upd_ext _ hnw)
              obtain ⟨g', s'⟩ := step_new (w' := (w.drew).alloc (.cells c elem)) gd hnw (i := ⟨w.heap.size, 0, some (e.size, elem), c.size⟩) rfl ⟨by simp, rfl, rfl⟩ (fun r hr => alloc_old w.drew _ r hr) hio
              exact ⟨_, _, _, run, .slice _ 0 n n _ 0 nc upd_self (Nat.le_refl _) (.inl rfl) hnc (fun h => by cases h) (fun z hz => by cases hz; simp only; omega), g', stp_drew s'⟩
            · cases hap
          · rename_i a
            cases hs with
            | slice b o _ _ q o' cap' hq hlc ho hc hn hr =>
              simp only at hap
              split at hap
              · rename_i cs wr opn _ hget
                split at hap
                · rename_i hle
                  have hrd : rdN h ⟨b, o, none⟩ (len * e.size) = some ((cs.drop o).take (len * e.size)) := by
                    unfold rdN; rw [hget]; simp only; rw [if_pos hle]
                  -- what is there already, on the other side
                  have hold : ∃ old' : Array Value, (Builtin.firstCells e.size len (.slice (some ⟨q.blk, o', none⟩) len cap')).run P w.drew = .ok old' w.drew ∧ VRels ρ ((cs.drop o).take (len * e.size)) old'.toList ∧
                      (len ≠ 0 → o' = q.base + o) := by
                    by_cases h0 : len = 0
                    · subst h0
                      exact ⟨#[], by simp [Builtin.firstCells, loadCells, loadCellsFrom], by simpa using VRels.nil, fun h => absurd rfl h⟩
                    · have ho : o' = q.base + o := by
                        rcases ho with ho | ho
                        · exact ho
                        · exact absurd ho.1 h0
                      obtain ⟨l', rel, hll, hcell⟩ := rd_real gd (a := ⟨b, o, none⟩) hq hrd o' ho
                      refine ⟨l'.toArray, ?_, by simpa using rel, fun _ => ho⟩
                      have hl' : l'.length = len * e.size := by rw [← rel.1, hll]
                      have := loadCells_of (P := P) hcell (k := len * e.size) (by omega)
                      rw [List.take_of_length_le (by omega)] at this
                      exact this
                  obtain ⟨old', hold, rold, hoff⟩ := hold
                  have holen : old'.toList.length = len * e.size := by
                    rw [← rold.1]; simp only [List.length_take, List.length_drop] at hle ⊢; omega
                  have hbge : q.base ≤ o' := by rcases ho with ho | ho <;> omega
                  have hnw : ρ h.next = none := by
                    split at hap
                    · cases hap; exact win _ (Nat.le_refl _) (by show h.next < h.next + 1; omega)
                    · split at hap
                      · cases hap; exact win _ (Nat.le_refl _) (by show h.next < h.next + 1; omega)
                      · cases hap
                  have hqw : ∃ c el fr, w.heap[q.blk]? = some (.cells c el fr) ∧ c.size = q.tot ∧ q.base + cs.length ≤ q.tot ∧ opn = q.opn ∧
                      VRels ρ cs ((c.toList.drop q.base).take cs.length) ∧ (wr = true → ∀ j, q.base ≤ j → j < q.tot → ¬ (fr.1 ≤ j ∧ j < fr.2)) ∧ (∀ z, opn = some z → el = z.2 ∧ (z.1 = 0 → q.base = 0 ∧ q.tot = cs.length)) := by
                    obtain ⟨h1, c, el, fr, h2, h3, h4, h5, h6, h7⟩ := g.rel _ _ _ hq hget
                    exact ⟨c, el, fr, h2, h3, h4, h1, h5, h6, h7⟩
                  obtain ⟨c0, el0, fr0, hc0, hc0s, hb0, hopn, hrel0, hfr0, hty0⟩ := hqw
                  have growth : cap' < len + n → ∃ nc ρ', ∃ w', len + n ≤ nc ∧ (Builtin.append_ ats rt args).run P w = .ok (.slice (some ⟨w.heap.size, 0, none⟩) (len + n) nc) w' ∧
                      VRel ρ' (.slice (some ⟨h.next, 0, none⟩) (len + n) (len + n)) (.slice (some ⟨w.heap.size, 0, none⟩) (len + n) nc) ∧
                      Good ρ' (h.new (.cells ((cs.drop o).take (len * e.size) ++ new) true (some (e.size, elem)))) w' ∧ Stp ρ h w ρ' (h.new (.cells ((cs.drop o).take (len * e.size) ++ new) true (some (e.size, elem)))) w' := by
                    intro hlt
                    obtain ⟨nc, hnc, rest, hrest, run⟩ := grow_run (P := P) (rt := rt) ko hi hu he hz hzs ha has hax srcd hold hlt hb1 hb2
                    let c : Array Value := old' ++ newd ++ rest
                    have h1 : newd.size = n * e.size := by have := rnewd.1; simp at this; omega
                    have h2 : old'.size = len * e.size := by simpa using holen
                    have hcs : c.size = nc * e.size := by
                      simp only [c, Array.size_append, hrest, h1, h2]
                      have e1 : (len + n) * e.size + (nc - (len + n)) * e.size = nc * e.size := by rw [← Nat.add_mul]; congr 1; omega
                      rw [Nat.add_mul] at e1
                      omega
                    have rall : VRels ρ ((cs.drop o).take (len * e.size) ++ new) (old' ++ newd).toList := by
                      rw [Array.toList_append]; exact rold.append rnewd
                    have hlen2 : ((cs.drop o).take (len * e.size) ++ new).length = (old' ++ newd).toList.length := rall.1
                    have hio : ORel (upd ρ h.next ⟨w.heap.size, 0, some (e.size, elem), c.size⟩) (.cells ((cs.drop o).take (len * e.size) ++ new) true (some (e.size, elem))) ⟨w.heap.size, 0, some (e.size, elem), c.size⟩ ((w.drew).alloc (.cells c elem)) := by
                      refine orel_cells rfl rfl rfl (alloc_new w.drew _) ?_ ?_ (fun j _ => by simp) (fun _ h => by cases h; exact ⟨rfl, fun h => absurd h hsz⟩)
                      · rw [hlen2]; simp only [c, Array.size_append, Array.length_toList]; omega
                      · have : c.toList.take ((cs.drop o).take (len * e.size) ++ new).length = (old' ++ newd).toList := by
                          rw [hlen2]
                          have q : c.toList = (old' ++ newd).toList ++ rest.toList := Array.toList_append
                          rw [q, List.take_left']
                          rfl
                        rw [this]; exact rall.ext (upd_ext _ hnw)
                    obtain ⟨g', s'⟩ := step_new (w' := (w.drew).alloc (.cells c elem)) gd hnw (i := ⟨w.heap.size, 0, some (e.size, elem), c.size⟩) rfl ⟨by simp, rfl, rfl⟩ (fun r hr => alloc_old w.drew _ r hr) hio
                    exact ⟨nc, _, _, hnc, run, .slice _ 0 _ _ _ 0 nc upd_self (Nat.le_refl _) (.inl rfl) hnc (fun h => by cases h) (fun z hz => by cases hz; simp only; omega), g', stp_drew s'⟩
                  split at hap
                  · -- the capacity is known
                    cases hap
                    have hcc := hn hopn.symm
                    obtain ⟨nc, ρ', w', hnc, run, rv, g', s'⟩ := growth (by omega)
                    exact ⟨w', _, ρ', run, rv, g', s'⟩
                  · rename_i zz
                    split at hap
                    · rename_i hzw
                      cases hap
                      obtain ⟨rfl, hwr⟩ := hzw
                      by_cases hfit' : len + n ≤ cap'
                      · -- in place
                        have hroom := hr _ hopn.symm
                        simp only at hroom
                        have hnsz : new'.size = n * e.size := by have := rnew.1; simp only [Array.length_toList] at this; omega
                        have hmul : (len + n) * e.size ≤ cap' * e.size := Nat.mul_le_mul_right _ hfit'
                        rw [Nat.add_mul] at hmul
                        obtain ⟨w', c', run, hw', hc', hs', holdw⟩ := storeCells_run (P := P) (b := q.blk) (off := o' + len * e.size) new'.toList 0 c0 w hc0 (by rw [← rnew.1]; omega) (one_rel rnew hone)
                          (fun j q1 q2 => hfr0 hwr j (by omega) (by rw [← rnew.1] at q2; omega))
                        have hfin := fits_run (P := P) (rt := rt) ko hi hu he ha has hax srcw hfit'
                        simp only [add_cell, run, Result.andThen_ok] at hfin
                        have hcsz : c'.size = c0.size := by
                          have : c'.toList.length = c0.toList.length := by rw [hc']; unfold splice; simp only [List.length_append, List.length_take, List.length_drop, Array.length_toList]; omega
                          simpa using this
                        have eup := upd_ext (ρ := ρ) (n := h.next) ⟨q.blk, o', some (e.size, elem), q.tot⟩ hnw
                        have hnl : new'.toList.length = n * e.size := by rw [← rnew.1]; exact hlnew
                        have hlen1 : ((cs.drop o).take (len * e.size) ++ new).length = len * e.size + n * e.size := by
                          rw [List.length_append, hlnew, rold.1, holen]
                        have hcont : (c'.toList.drop o').take (len * e.size + n * e.size) = old'.toList ++ new'.toList := by
                          have hold2 : (c0.toList.drop o').take (len * e.size) = old'.toList := by
                            by_cases h0 : len = 0
                            · subst h0
                              have : old'.toList = [] := List.eq_nil_of_length_eq_zero (by omega)
                              rw [this]; simp
                            · have ho := hoff h0
                              have hh := hold
                              simp only [Builtin.firstCells] at hh
                              have := loadCells_of (P := P) (w := w.drew) (a := ⟨q.blk, o', none⟩) (l' := c0.toList.drop o') (fun j v' hj => by
                                rw [add_cell, cell_eq (w := w.drew) hc0]
                                rw [List.getElem?_drop] at hj
                                rw [← Array.getElem?_toList]; exact hj) (k := len * e.size) (by simp; omega)
                              rw [this] at hh
                              cases hh; rfl
                          rw [hc', Nat.add_zero]
                          unfold splice
                          rw [← hold2]
                          apply List.ext_getElem?
                          intro j
                          simp only [List.getElem?_take, List.getElem?_drop, List.getElem?_append, List.length_take, List.length_append, List.length_drop, Array.length_toList, hnl]
                          by_cases h1 : j < len * e.size
                          · rw [if_pos (by omega), if_pos (by omega), if_pos (by omega), if_pos (by omega), if_pos (by omega), if_pos h1]
                          · by_cases h2 : j < len * e.size + n * e.size
                            · rw [if_pos h2, if_pos (by omega), if_neg (by omega), if_neg (by omega)]
                              congr 1; omega
                            · rw [if_neg h2, if_neg (by omega)]
                              symm; rw [List.getElem?_eq_none]; rw [hnl]; omega
                        have hio : ORel (upd ρ h.next ⟨q.blk, o', some (e.size, elem), q.tot⟩) (.cells ((cs.drop o).take (len * e.size) ++ new) true (some (e.size, elem))) ⟨q.blk, o', some (e.size, elem), q.tot⟩ w' :=
                          ⟨rfl, c', el0, fr0, hw', by show c'.size = q.tot; omega, by rw [hlen1]; show o' + (len * e.size + n * e.size) ≤ q.tot; omega, by
                            rw [hlen1]; show VRels _ _ ((c'.toList.drop o').take _)
                            rw [hcont]; exact (rold.append rnew).ext eup, fun _ j q1 q2 => hfr0 hwr j (by simp only at q1; omega) q2, fun z hz => by cases hz; exact ⟨(hty0 _ rfl).1, fun h => absurd h hsz⟩⟩
                        obtain ⟨g', s'⟩ := step_over (j := ⟨q.blk, o', some (e.size, elem), q.tot⟩) g hq (by rw [hget]; simp) hnw rfl hs' holdw hio
                        exact ⟨w', _, _, hfin, VRel.slice (ρ := upd ρ h.next ⟨q.blk, o', some (e.size, elem), q.tot⟩) h.next 0 (len + n) (len + n) ⟨q.blk, o', some (e.size, elem), q.tot⟩ o' cap' upd_self (Nat.le_refl _) (.inl rfl) hfit' (fun h => by cases h) (fun z hz => by cases hz; exact hroom), g', s'⟩
                      · -- a new row; the elder one is dropped all the same
                        obtain ⟨nc, ρ', w', hnc, run, rv, g', s'⟩ := growth (by omega)
                        have hb' := s'.ext _ _ hq
                        obtain ⟨g2, s2⟩ := step_kill g' hb' (b := b) (by
                          have : b < h.next := Nat.lt_of_not_le fun hx => by have := g.fresh b hx; rw [hget] at this; cases this
                          show b < h.next + 1; omega)
                        exact ⟨w', _, ρ', run, rv, g2, s'.trans g.fresh g'.fresh s2⟩
                    · cases hap
                · cases hap
              · cases hap
  · cases hap
end
end Go.Vi
