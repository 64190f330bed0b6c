/- Vi14a: what a plan says; the values that an operation hangs on. -/
import Derived.Test.YtdbicjhpgofpiaaGreatDoorVi13
namespace Go.Vi

/-! ## Which operations come ahead of which -/
def befOf (acc : Array Nat) (o : Oper) : Nat := o.after.foldl (fun s e => if Region.binds .any e then s ||| 2 ^ e.on ||| acc.getD e.on 0 else s) 0
theorem before_eq (ops : Array Oper) : Region.before ops = ops.toList.foldl (fun acc o => acc.push (befOf acc o)) #[] := by
  unfold Region.before
  rw [← Array.foldl_toList]
  rfl
theorem bits_fold (acc : Array Nat) : ∀ (l : List Edge) (s i : Nat), (l.foldl (fun s e => if Region.binds .any e then s ||| 2 ^ e.on ||| acc.getD e.on 0 else s) s).testBit i = true ↔
    s.testBit i = true ∨ ∃ e ∈ l, Region.binds .any e = true ∧ (i = e.on ∨ (acc.getD e.on 0).testBit i = true) := by
  intro l
  induction l with
  | nil => intro s i; simp
  | cons e l ih =>
    intro s i
    rw [List.foldl_cons, ih]
    by_cases hb : Region.binds .any e = true
    · rw [if_pos hb]
      simp only [Nat.testBit_or, Bool.or_eq_true, Nat.testBit_two_pow, decide_eq_true_eq, List.mem_cons]
      constructor
      · rintro ((h | h) | h)
        · rcases h with h | h
          · exact .inl h
          · exact .inr ⟨e, .inl rfl, hb, .inl h.symm⟩
        · exact .inr ⟨e, .inl rfl, hb, .inr h⟩
        · obtain ⟨x, hx, h1, h2⟩ := h; exact .inr ⟨x, .inr hx, h1, h2⟩
      · rintro (h | ⟨x, hx | hx, h1, h2⟩)
        · exact .inl (.inl (.inl h))
        · subst hx
          rcases h2 with h2 | h2
          · exact .inl (.inl (.inr h2.symm))
          · exact .inl (.inr h2)
        · exact .inr ⟨x, hx, h1, h2⟩
    · rw [if_neg hb]
      constructor
      · rintro (h | ⟨x, hx, h1, h2⟩)
        · exact .inl h
        · exact .inr ⟨x, by simp [hx], h1, h2⟩
      · rintro (h | ⟨x, hx, h1, h2⟩)
        · exact .inl h
        · rw [List.mem_cons] at hx
          rcases hx with rfl | hx
          · exact absurd h1 hb
          · exact .inr ⟨x, hx, h1, h2⟩
theorem before_get : ∀ (l : List Oper) (acc : Array Nat), (∃ ext : List Nat, (l.foldl (fun acc o => acc.push (befOf acc o)) acc).toList = acc.toList ++ ext ∧ ext.length = l.length) ∧
    ∀ (j : Nat) (o : Oper), l[j]? = some o → ∃ acc' : Array Nat, acc'.size = acc.size + j ∧ (∀ i, i < acc.size + j → acc'.getD i 0 = (l.foldl (fun acc o => acc.push (befOf acc o)) acc).getD i 0) ∧
      (l.foldl (fun acc o => acc.push (befOf acc o)) acc).getD (acc.size + j) 0 = befOf acc' o := by
  intro l
  induction l with
  | nil => intro acc; exact ⟨⟨[], by simp⟩, fun j o h => by simp at h⟩
  | cons o l ih =>
    intro acc
    obtain ⟨⟨ext, h1, h2⟩, h3⟩ := ih (acc.push (befOf acc o))
    refine ⟨⟨befOf acc o :: ext, by rw [List.foldl_cons, h1]; simp, by simp [h2]⟩, fun j x hx => ?_⟩
    have hget : ∀ i, i < acc.size → (l.foldl (fun acc o => acc.push (befOf acc o)) (acc.push (befOf acc o))).getD i 0 = acc.getD i 0 := by
      intro i hi
      rw [Array.getD_eq_getD_getElem?, ← Array.getElem?_toList, h1, List.getElem?_append_left (by simp; omega), Array.getElem?_toList, Array.getElem?_push, if_neg (by omega), ← Array.getD_eq_getD_getElem?]
    cases j with
    | zero =>
      simp at hx
      subst hx
      refine ⟨acc, rfl, fun i hi => by rw [List.foldl_cons]; exact (hget i (by omega)).symm, ?_⟩
      rw [List.foldl_cons, Array.getD_eq_getD_getElem?, ← Array.getElem?_toList, h1, List.getElem?_append_left (by simp), Array.getElem?_toList, Array.getElem?_push]
      simp
    | succ j =>
      obtain ⟨acc', q1, q2, q3⟩ := h3 j x (by simpa using hx)
      simp only [Array.size_push] at q1 q2 q3
      refine ⟨acc', by omega, fun i hi => ?_, ?_⟩
      · rw [List.foldl_cons]; exact q2 i (by omega)
      · rw [List.foldl_cons, show acc.size + (j + 1) = acc.size + 1 + j by omega]; exact q3
theorem befores_len (ops : Array Oper) : (befores ops).length = ops.size := by
  unfold befores
  rw [before_eq]
  obtain ⟨⟨ext, h1, h2⟩, _⟩ := before_get ops.toList #[]
  rw [h1]; simp [h2]
/-- bit i stands at j just where an edge of j, or what comes ahead of its end, says so. -/
theorem befores_bit (ops : Array Oper) {j : Nat} {o : Oper} (ho : ops[j]? = some o) (he : edgesOk ops = true) (i : Nat) :
    ((befores ops).getD j 0).testBit i = true ↔ ∃ e ∈ o.after.toList, Region.binds .any e = true ∧ e.on < j ∧ (i = e.on ∨ ((befores ops).getD e.on 0).testBit i = true) := by
  obtain ⟨_, h3⟩ := before_get ops.toList #[]
  obtain ⟨acc', q1, q2, q3⟩ := h3 j o (by rw [Array.getElem?_toList]; exact ho)
  simp only [List.size_toArray, List.length_nil, Nat.zero_add] at q1 q2 q3
  have hD : ∀ i, (befores ops).getD i 0 = (ops.toList.foldl (fun acc o => acc.push (befOf acc o)) #[]).getD i 0 := by
    intro i
    unfold befores
    rw [before_eq, List.getD_eq_getElem?_getD, Array.getElem?_toList, ← Array.getD_eq_getD_getElem?]
  rw [hD j, q3]
  unfold befOf
  rw [← Array.foldl_toList, bits_fold]
  simp only [Nat.zero_testBit, Bool.false_eq_true, false_or]
  have hedge : ∀ e ∈ o.after.toList, Region.binds .any e = true → e.on < j := by
    intro e hm hb
    unfold edgesOk at he
    rw [List.all_eq_true] at he
    have := he (o, j) (by
      rw [List.mem_iff_getElem?]
      exact ⟨j, by rw [List.getElem?_zipIdx, Array.getElem?_toList, ho]; simp⟩)
    simp only at this
    have := Array.all_eq_true_iff_forall_mem.1 this e (by simpa using hm)
    simpa [hb] using this
  constructor
  · rintro ⟨e, hm, hb, h⟩
    have hlt := hedge e hm hb
    refine ⟨e, hm, hb, hlt, ?_⟩
    rw [hD, ← q2 _ hlt]; exact h
  · rintro ⟨e, hm, hb, hlt, h⟩
    refine ⟨e, hm, hb, ?_⟩
    rw [q2 _ hlt, ← hD]; exact h
theorem befores_out (ops : Array Oper) {j : Nat} (hj : ops.size ≤ j) : (befores ops).getD j 0 = 0 := by
  rw [List.getD_eq_getElem?_getD, List.getElem?_eq_none (by rw [befores_len]; exact hj)]; rfl
theorem befores_lt (ops : Array Oper) (he : edgesOk ops = true) : ∀ (j i : Nat), ((befores ops).getD j 0).testBit i = true → i < j := by
  intro j
  induction j using Nat.strongRecOn with
  | _ j ih =>
    intro i h
    by_cases hj : j < ops.size
    · obtain ⟨e, _, _, hlt, h⟩ := (befores_bit ops (Array.getElem?_eq_getElem hj) he i).1 h
      rcases h with rfl | h
      · exact hlt
      · have := ih _ hlt i h; omega
    · rw [befores_out ops (by omega)] at h; simp at h

/-! ## An operation hangs on its operands alone -/
section
variable {E : Env} {ev ev2 : Operand → Value}
theorem map_congr {ev ev2 : Operand → Value} {xs : Array Operand} (h : ∀ x ∈ xs, ev x = ev2 x) : xs.map ev = xs.map ev2 := Array.map_congr_left h
theorem parts_congr {ps : Array (Nat × Operand)} (h : ∀ x ∈ (ps.toList.map (·.2)).toArray, ev x = ev2 x) : partsV ev ps = partsV ev2 ps := by
  unfold partsV
  apply List.map_congr_left
  rintro ⟨i, x⟩ hm
  simp only
  rw [h x (by simp only [List.mem_toArray, List.mem_map]; exact ⟨(i, x), hm, rfl⟩)]
theorem opt_congr {o : Option Operand} (h : ∀ x ∈ o.toArray, ev x = ev2 x) : o.map ev = o.map ev2 := by
  cases o with
  | none => rfl
  | some x => simp only [Option.map_some]; rw [h x (by simp)]
theorem pure_congr {o : Oper} (h : ∀ x ∈ o.op.operands, ev x = ev2 x) : pureV E ev o = pureV E ev2 o := by
  obtain ⟨dst, op, ty, pos, after, guard⟩ := o
  unfold pureV
  cases op <;> simp only [Op.operands] at h <;> try rfl
  case move x => simp only [h x (by simp)]
  case assign x => simp only [h x (by simp)]
  case pick c a b => simp only [h c (by simp), h a (by simp), h b (by simp)]
  case build t ps => simp only [parts_congr h]
  case nilCheck x => simp only [h x (by simp)]
  case binOp op t x y yt => simp only [h x (by simp), h y (by simp)]
  case unOp op t x => simp only [h x (by simp)]
  case convert s d x => simp only [h x (by simp)]
  case makeInterface t x => simp only [h x (by simp)]
  case makeFunc fn f c =>
    cases fn <;> try rfl
    simp only [map_congr (xs := f) (fun x hx => h x (by simp [hx])), map_congr (xs := c) (fun x hx => h x (by simp [hx]))]
  case slice t x lo hi mx =>
    simp only [h x (by simp), opt_congr (o := lo) (fun x hx => h x (by simp [hx])), opt_congr (o := hi) (fun x hx => h x (by simp [hx])), opt_congr (o := mx) (fun x hx => h x (by simp [hx]))]
  case fieldAddr s x f => simp only [h x (by simp)]
  case field t x f => simp only [h x (by simp)]
  case indexAddr t x ix => simp only [h x (by simp), h ix (by simp)]
  case index t x ix => simp only [h x (by simp), h ix (by simp)]
  case typeAssert x xt a ok => simp only [h x (by simp)]
  case extract t ix => simp only [h t (by simp)]
  case call c =>
    obtain ⟨callee, args, ats⟩ := c
    cases callee with
    | value f => rfl
    | invoke r m => rfl
    | builtin b =>
      have ha : args.map ev = args.map ev2 := map_congr (fun x hx => h x (by simp [Call.operands, hx]))
      cases b <;> try rfl
      case len =>
        cases ht : ats[0]? with
        | none => simp only [ht]
        | some t => cases hx : args[0]? with
          | none => simp only [ht, hx]
          | some x =>
            have := h x (by simp only [Call.operands]; have := Array.mem_of_getElem? hx; simp [this])
            simp only [ht, hx, this]
      case min => simp only [ha]
      case max => simp only [ha]
theorem read_congr {hp : Heap} {o : Oper} (h : ∀ x ∈ o.op.operands, ev x = ev2 x) : readV E ev hp o = readV E ev2 hp o := by
  obtain ⟨dst, op, ty, pos, after, guard⟩ := o
  unfold readV
  cases op <;> simp only [Op.operands] at h <;> try rfl
  case load t a => simp only [h a (by simp)]
  case convert s d x => simp only [h x (by simp)]
  case slice t x lo hi mx =>
    simp only [h x (by simp), opt_congr (o := lo) (fun x hx => h x (by simp [hx])), opt_congr (o := hi) (fun x hx => h x (by simp [hx])), opt_congr (o := mx) (fun x hx => h x (by simp [hx]))]
  case lookup t x ix ok => simp only [h x (by simp), h ix (by simp)]
  case call c =>
    obtain ⟨callee, args, ats⟩ := c
    cases callee with
    | value f => rfl
    | invoke r m => rfl
    | builtin b =>
      cases b <;> try rfl
      case len =>
        cases ht : ats[0]? with
        | none => simp only [ht]
        | some t => cases hx : args[0]? with
          | none => simp only [ht, hx]
          | some x =>
            have := h x (by simp only [Call.operands]; have := Array.mem_of_getElem? hx; simp [this])
            simp only [ht, hx, this]
      case cap =>
        cases ht : ats[0]? with
        | none => simp only [ht]
        | some t => cases hx : args[0]? with
          | none => simp only [ht, hx]
          | some x =>
            have := h x (by simp only [Call.operands]; have := Array.mem_of_getElem? hx; simp [this])
            simp only [ht, hx, this]
theorem new_congr {o : Oper} (h : ∀ x ∈ o.op.operands, ev x = ev2 x) : newV E ev o = newV E ev2 o := by
  obtain ⟨dst, op, ty, pos, after, guard⟩ := o
  unfold newV
  cases op <;> simp only [Op.operands] at h <;> try rfl
  case box t x => simp only [h x (by simp)]
  case buildSlice t n ps => simp only [parts_congr h]
  case makeSlice t l c => simp only [h l (by simp), h c (by simp)]
  case makeMap t r => simp only [opt_congr (o := r) (fun x hx => h x hx)]
  case convert s d x => simp only [h x (by simp)]
theorem heavy_congr {call : CallV} {hp : Heap} {o : Oper} (h : ∀ x ∈ o.op.operands, ev x = ev2 x) : heavyV E call ev hp o = heavyV E call ev2 hp o := by
  obtain ⟨dst, op, ty, pos, after, guard⟩ := o
  unfold heavyV
  cases op <;> simp only [Op.operands] at h <;> try rfl
  case store t a x => simp only [h a (by simp), h x (by simp)]
  case mapUpdate t m k x => simp only [h m (by simp), h k (by simp), h x (by simp)]
  case insert t m k x => simp only [h m (by simp), h k (by simp), h x (by simp)]
  case mapEntry t m k => simp only [h m (by simp), h k (by simp)]
  case entryStore t m s x => simp only [h m (by simp), h s (by simp), h x (by simp)]
  case convert s d x => simp only [h x (by simp)]
  case range t x => simp only [h x (by simp)]
  case next x b => simp only [h x (by simp)]
  case entry x => simp only [h x (by simp)]
  case makeChan t x => simp only [h x (by simp)]
  case select cs bl =>
    simp only
    unfold selV
    split
    · rename_i _ _ c hcs
      have hm : c ∈ cs := by rw [← Array.mem_toList_iff, hcs]; simp
      have h1 : ev c.chan = ev2 c.chan := h _ (by rw [Array.mem_flatMap]; exact ⟨c, hm, by simp⟩)
      have h2 : ∀ x, c.send = some x → ev x = ev2 x := fun x hx => h _ (by rw [Array.mem_flatMap]; exact ⟨c, hm, by simp [hx]⟩)
      rw [h1]
      cases hs : c.send with
      | none => rfl
      | some x => simp only [h2 x hs]
    · rfl
  case call c =>
    obtain ⟨callee, args, ats⟩ := c
    have ha : args.map ev = args.map ev2 := map_congr (fun x hx => h x (by simp [Call.operands, hx]))
    have hx : ∀ (n : Nat) (x : Operand), args[n]? = some x → ev x = ev2 x := fun n x hx => h x (by
      have := Array.mem_of_getElem? hx
      simp [Call.operands, this])
    cases callee with
    | value f => simp only [h f (by simp [Call.operands]), ha]
    | invoke r m => simp only [h r (by simp [Call.operands]), ha]
    | builtin b =>
      cases b <;> try rfl
      case append =>
        cases h0 : args[0]? <;> cases h1 : args[1]? <;> cases h2 : ats[0]? <;> try (simp only [h0, h1, h2]; done)
        rename_i s x t
        simp only [h0, h1, h2, hx 0 s h0, hx 1 x h1]
      case copy =>
        cases h0 : args[0]? <;> cases h1 : args[1]? <;> cases h2 : ats[0]? <;> try (simp only [h0, h1, h2]; done)
        rename_i s x t
        simp only [h0, h1, h2, hx 0 s h0, hx 1 x h1]
      case clear =>
        cases h0 : args[0]? <;> cases h2 : ats[0]? <;> try (simp only [h0, h2]; done)
        rename_i s t
        simp only [h0, h2, hx 0 s h0]
      case delete =>
        cases h0 : args[0]? <;> cases h1 : args[1]? <;> cases h2 : ats[0]? <;> try (simp only [h0, h1, h2]; done)
        rename_i s x t
        simp only [h0, h1, h2, hx 0 s h0, hx 1 x h1]
      case unsafeSliceData =>
        cases h0 : args.toList with
        | nil => simp only [h0]
        | cons x r => cases r with
          | nil =>
            have h1 : args[0]? = some x := by rw [← Array.getElem?_toList, h0]; rfl
            simp only [h0, hx 0 x h1]
          | cons y r => simp only [h0]
      case unsafeString =>
        cases h0 : args.toList with
        | nil => simp only [h0]
        | cons x r => cases r with
          | nil => simp only [h0]
          | cons y r => cases r with
            | nil =>
              have h1 : args[0]? = some x := by rw [← Array.getElem?_toList, h0]; rfl
              have h2 : args[1]? = some y := by rw [← Array.getElem?_toList, h0]; rfl
              cases h3 : ats[0]? with
              | none => simp only [h0, h3]
              | some t => simp only [h0, h3, hx 0 x h1, hx 1 y h2]
            | cons z r => simp only [h0]
theorem heavy_no {call : CallV} {hp : Heap} {o : Oper} (h : heavyOp o = false) : heavyV E call ev hp o = none := by
  obtain ⟨dst, op, ty, pos, after, guard⟩ := o
  unfold heavyOp at h
  unfold heavyV
  cases op <;> simp only [reduceCtorEq] at h <;> try rfl
  case convert s d x => simp only; rw [if_neg (by simpa using h)]
  case call c =>
    obtain ⟨callee, args, ats⟩ := c
    cases callee with
    | value f => simp at h
    | invoke r m => simp at h
    | builtin b => cases b <;> simp at h <;> rfl
theorem light_no {hp : Heap} {o : Oper} (h : heavyOp o = true) : pureV E ev o = none ∧ readV E ev hp o = none ∧ newV E ev o = none := by
  obtain ⟨dst, op, ty, pos, after, guard⟩ := o
  unfold heavyOp at h
  unfold pureV readV newV
  cases op <;> simp only [Bool.false_eq_true] at h <;> try exact ⟨rfl, rfl, rfl⟩
  case convert s d x =>
    have : s = d := by simpa using h
    subst this
    simp
  case call c =>
    obtain ⟨callee, args, ats⟩ := c
    cases callee with
    | value f => exact ⟨rfl, rfl, rfl⟩
    | invoke r m => exact ⟨rfl, rfl, rfl⟩
    | builtin b => cases b <;> simp at h <;> exact ⟨rfl, rfl, rfl⟩
end

mutual
theorem veq_eq : ∀ (n : Nat) (x y : Value), veq n x y = true → x = y
  | 0, _, _ => fun h => by simp [veq] at h
  | n + 1, x, y => fun h => by
    cases x <;> cases y <;> simp only [veq, Bool.false_eq_true, Bool.and_eq_true, beq_iff_eq] at h
    case bool.bool => rw [h]
    case int.int => rw [h.1, h.2]
    case string.string a b => rw [ByteArray.ext (Array.ext' h)]
    case pointer.pointer => rw [h]
    case slice.slice => rw [h.1.1, h.1.2, h.2]
    case map.map => rw [h]
    case chan.chan => rw [h]
    case func.func f a b g c d => rw [h.1.1, Array.ext' (veqs_eq n _ _ h.1.2), Array.ext' (veqs_eq n _ _ h.2)]
    case nilFunc.nilFunc => rfl
    case iface.iface => rw [h.1, veq_eq n _ _ h.2]
    case nilIface.nilIface => rfl
    case agg.agg a b => rw [Array.ext' (veqs_eq n _ _ h)]
    case tuple.tuple a b => rw [Array.ext' (veqs_eq n _ _ h)]
theorem veqs_eq : ∀ (n : Nat) (x y : List Value), veqs n x y = true → x = y
  | 0, _, _ => fun h => by simp [veqs] at h
  | n + 1, x, y => fun h => by
    cases x <;> cases y <;> simp only [veqs, Bool.false_eq_true, Bool.and_eq_true] at h
    · rfl
    · rw [veq_eq n _ _ h.1, veqs_eq n _ _ h.2]
end
end Go.Vi
