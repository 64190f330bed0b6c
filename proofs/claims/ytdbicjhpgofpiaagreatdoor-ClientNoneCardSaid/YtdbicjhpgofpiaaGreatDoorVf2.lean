/- Vf2: bits, the heap's tree, cells, single operations of the fast interpreter. -/
import Derived.Test.YtdbicjhpgofpiaaGreatDoorVf1
namespace Go.Vi
theorem kMax_lt (k : IntKind) : kMax k + 1 ≤ 2 ^ k.bits := by cases k <;> decide
theorem kMax_pow (k : IntKind) : ∃ e, kMax k + 1 = 2 ^ e := by
  cases k
  · exact ⟨7, rfl⟩
  · exact ⟨15, rfl⟩
  · exact ⟨31, rfl⟩
  · exact ⟨63, rfl⟩
  · exact ⟨8, rfl⟩
  · exact ⟨16, rfl⟩
  · exact ⟨32, rfl⟩
  · exact ⟨64, rfl⟩
theorem and_bool {a b : Bool} (h : (Bool.rec (motive := fun _ => Bool) false a b) = true) : a = true ∧ b = true := by
  cases a <;> cases b <;> simp_all
theorem bits_nat (k : IntKind) (m : Nat) (h : m ≤ kMax k) : (BitVec.ofInt k.bits (.ofNat m)).toNat = m := by
  have h1 := kMax_lt k
  have e : (Int.ofNat m) = (m : Int) := rfl
  rw [e, BitVec.ofInt_natCast, BitVec.toNat_ofNat, Nat.mod_eq_of_lt (by omega)]
theorem bitF_eq (f : Nat → Nat → Nat) (op : BinOp) (k : IntKind) (x y : Int)
    (hf : ∀ m n, m ≤ kMax k → n ≤ kMax k → bitV op k (.ofNat m) (.ofNat n) = some (.int k (.ofNat (f m n)))) : bitF f op k x y = bitV op k x y := by
  cases x with
  | negSucc m => rfl
  | ofNat m =>
    cases y with
    | negSucc n => rfl
    | ofNat n =>
      show Bool.rec (motive := fun _ => Option Value) (bitV op k (.ofNat m) (.ofNat n)) (some (.int k (.ofNat (f m n)))) (Bool.rec (motive := fun _ => Bool) false (Nat.ble n (kMax k)) (Nat.ble m (kMax k))) = _
      cases hb : (Bool.rec (motive := fun _ => Bool) false (Nat.ble n (kMax k)) (Nat.ble m (kMax k))) with
      | false => rfl
      | true =>
        obtain ⟨h1, h2⟩ := and_bool hb
        exact (hf m n (Nat.le_of_ble_eq_true h2) (Nat.le_of_ble_eq_true h1)).symm
theorem land_eq (k : IntKind) (x y : Int) : bitF Nat.land .and k x y = bitV .and k x y := by
  refine bitF_eq _ _ _ _ _ fun m n hm hn => ?_
  unfold bitV
  simp only [BitVec.toNat_and, bits_nat k m hm, bits_nat k n hn]
  have : m &&& n ≤ kMax k := Nat.le_trans Nat.and_le_left hm
  have e := wrap_pos k (m &&& n) this
  have e' : ((m &&& n : Nat) : Int) = Int.ofNat (m &&& n) := rfl
  rw [e', e]; rfl
theorem lor_eq (k : IntKind) (x y : Int) : bitF Nat.lor .or k x y = bitV .or k x y := by
  refine bitF_eq _ _ _ _ _ fun m n hm hn => ?_
  unfold bitV
  simp only [BitVec.toNat_or, bits_nat k m hm, bits_nat k n hn]
  obtain ⟨e, he⟩ := kMax_pow k
  have : m ||| n < 2 ^ e := Nat.or_lt_two_pow (by omega) (by omega)
  have e1 := wrap_pos k (m ||| n) (by omega)
  have e' : ((m ||| n : Nat) : Int) = Int.ofNat (m ||| n) := rfl
  rw [e', e1]; rfl
theorem xor_eq (k : IntKind) (x y : Int) : bitF Nat.xor .xor k x y = bitV .xor k x y := by
  refine bitF_eq _ _ _ _ _ fun m n hm hn => ?_
  unfold bitV
  simp only [BitVec.toNat_xor, bits_nat k m hm, bits_nat k n hn]
  obtain ⟨e, he⟩ := kMax_pow k
  have : m ^^^ n < 2 ^ e := Nat.xor_lt_two_pow (by omega) (by omega)
  have e1 := wrap_pos k (m ^^^ n) (by omega)
  have e' : ((m ^^^ n : Nat) : Int) = Int.ofNat (m ^^^ n) := rfl
  rw [e', e1]; rfl
theorem shrF_eq (k : IntKind) (x y : Int) : shrF k x y = arithV .shr k x y := by
  cases x with
  | negSucc m => rfl
  | ofNat m =>
    cases y with
    | negSucc n => rfl
    | ofNat n =>
      show Bool.rec (motive := fun _ => Option Value) (arithV .shr k (.ofNat m) (.ofNat n)) (some (.int k (.ofNat (Nat.shiftRight m n)))) (Bool.rec (motive := fun _ => Bool) false (Nat.ble n 8) (Nat.ble m (kMax k))) = _
      cases hb : (Bool.rec (motive := fun _ => Bool) false (Nat.ble n 8) (Nat.ble m (kMax k))) with
      | false => rfl
      | true =>
        obtain ⟨h1, h2⟩ := and_bool hb
        have h1 := Nat.le_of_ble_eq_true h1
        have h2 := Nat.le_of_ble_eq_true h2
        have hk : 8 ≤ k.bits := by cases k <;> decide
        unfold arithV
        simp only
        have e1 : ¬ (Int.ofNat n < 0) := by simp
        rw [if_neg e1]
        have e2 : (Int.ofNat n).toNat = n := rfl
        rw [e2, Nat.min_eq_left (by omega)]
        have e3 : (Int.ofNat m).fdiv (2 ^ n) = Int.ofNat (m >>> n) := by
          have : ((2 : Int) ^ n) = Int.ofNat (2 ^ n) := by simp
          rw [this, Nat.shiftRight_eq_div_pow]
          exact (Int.ofNat_fdiv m (2 ^ n)).symm
        rw [e3]
        rfl
theorem arithF_eq (op : BinOp) (k : IntKind) (x y : Int) : arithF op k x y = arithV op k x y := by
  cases op
  · show some (Value.int k (wrF k (x + y))) = _; rw [wrF_eq]; rfl
  · show some (Value.int k (wrF k (x - y))) = _; rw [wrF_eq]; rfl
  · show some (Value.int k (wrF k (x * y))) = _; rw [wrF_eq]; rfl
  · rfl
  · rfl
  · exact land_eq k x y
  · exact lor_eq k x y
  · exact xor_eq k x y
  · rfl
  · exact shrF_eq k x y
  · rfl
  · show some (Value.bool (eqF x y)) = some (.bool (x == y)); rw [eqF_eq]
  · show some (Value.bool (Bool.rec (motive := fun _ => Bool) true false (eqF x y))) = some (.bool (x != y)); rw [eqF_eq]; unfold bne; cases (x == y) <;> rfl
  · show some (Value.bool (ltF x y)) = some (.bool (decide (x < y))); rw [ltF_eq]
  · show some (Value.bool (leF x y)) = some (.bool (decide (x ≤ y))); rw [leF_eq]
  · show some (Value.bool (ltF y x)) = some (.bool (decide (x > y))); rw [ltF_eq]
  · show some (Value.bool (leF y x)) = some (.bool (decide (x ≥ y))); rw [leF_eq]
theorem binX_eq (E : Env) (op : BinOp) (t : TypeId) (a b : Operand) (x y : Value) : binX E op t a b x y = binV E op t (isConstO a || isConstO b) x y := by
  unfold binX
  split
  · rename_i k m
    split
    · rename_i k' n
      cases hb : Nat.beq (kIx k) (kIx k') with
      | false => rfl
      | true =>
        have := kIx_inj hb
        subst this
        show arithF op k m n = _
        rw [arithF_eq]
        unfold binV
        simp
    · rfl
  · rfl

/-! ## The heap's tree -/
theorem nb1 (i : Nat) : i % 2 = 1 ∧ Nat.beq (Nat.mod i 2) 1 = true ∧ (i % 2 == 1) = true ∨ i % 2 ≠ 1 ∧ Nat.beq (Nat.mod i 2) 1 = false ∧ (i % 2 == 1) = false := by
  have e : Nat.mod i 2 = i % 2 := rfl
  rw [e]
  cases hb : Nat.beq (i % 2) 1 with
  | false => exact .inr ⟨(fun h => by rw [h] at hb; cases hb), rfl, by rw [beq_eq_false_iff_ne]; intro h; rw [h] at hb; cases hb⟩
  | true => have := Nat.eq_of_beq_eq_true hb; exact .inl ⟨this, rfl, by rw [this]; rfl⟩
theorem nb0 (n : Nat) : n = 0 ∧ Nat.beq n 0 = true ∨ n ≠ 0 ∧ Nat.beq n 0 = false := by
  cases n with
  | zero => exact .inl ⟨rfl, rfl⟩
  | succ n => exact .inr ⟨by simp, rfl⟩
theorem getR_go : ∀ (f n : Nat) (t : Trie Blk), (Nat.rec (fun _ t => Trie.rec none (fun _ v _ _ _ => v) t)
    (fun _ ih n t => Trie.rec none (fun l v r _ _ => Bool.rec (Bool.rec (ih (Nat.div n 2) l) (ih (Nat.div n 2) r) (Nat.beq (Nat.mod n 2) 1)) v (Nat.beq n 0)) t) f : Nat → Trie Blk → Option Blk) n t = t.get (bitsAt f n) := by
  intro f
  induction f with
  | zero => intro n t; cases t <;> rfl
  | succ f ih =>
    intro n t
    cases t with
    | leaf => rw [Trie.get_leaf]
    | node l v r =>
      rw [bitsAt]
      rcases nb0 n with ⟨h0, hb⟩ | ⟨h0, hb⟩
      · rw [if_pos h0]
        show Bool.rec (motive := fun _ => Option Blk) _ v (Nat.beq n 0) = _
        rw [hb]; rfl
      · rw [if_neg h0]
        show Bool.rec (motive := fun _ => Option Blk) _ v (Nat.beq n 0) = _
        rw [hb]
        rcases nb1 n with ⟨h1, h2, h3⟩ | ⟨h1, h2, h3⟩
        · rw [h3]
          show Bool.rec (motive := fun _ => Option Blk) _ _ (Nat.beq (Nat.mod n 2) 1) = _
          rw [h2]; exact ih (n / 2) r
        · rw [h3]
          show Bool.rec (motive := fun _ => Option Blk) _ _ (Nat.beq (Nat.mod n 2) 1) = _
          rw [h2]; exact ih (n / 2) l
theorem getR_eq (n : Nat) (h : Heap) : getR n h.tr = h.get n := getR_go n n h.tr
theorem putR_go (x : Option Blk) : ∀ (f n : Nat) (t : Trie Blk), n ≤ f → (Nat.rec (fun _ t => Trie.rec (.node .leaf x .leaf) (fun l _ r _ _ => .node l x r) t)
    (fun _ ih n t => Bool.rec
      (Trie.rec (Bool.rec (.node (ih (Nat.div n 2) .leaf) none .leaf) (.node .leaf none (ih (Nat.div n 2) .leaf)) (Nat.beq (Nat.mod n 2) 1))
        (fun l v r _ _ => Bool.rec (.node (ih (Nat.div n 2) l) v r) (.node l v (ih (Nat.div n 2) r)) (Nat.beq (Nat.mod n 2) 1)) t)
      (Trie.rec (.node .leaf x .leaf) (fun l _ r _ _ => .node l x r) t) (Nat.beq n 0)) f : Nat → Trie Blk → Trie Blk) n t = Trie.put x (bitsAt f n) t := by
  intro f
  induction f with
  | zero => intro n t _; cases t <;> rfl
  | succ f ih =>
    intro n t hn
    rw [bitsAt]
    rcases nb0 n with ⟨h0, hb⟩ | ⟨h0, hb⟩
    · rw [if_pos h0]
      show Bool.rec (motive := fun _ => Trie Blk) _ (Trie.rec (.node .leaf x .leaf) (fun l _ r _ _ => .node l x r) t) (Nat.beq n 0) = _
      rw [hb]; cases t <;> rfl
    · rw [if_neg h0]
      show Bool.rec (motive := fun _ => Trie Blk) (Trie.rec _ _ t) _ (Nat.beq n 0) = _
      rw [hb]
      rcases nb1 n with ⟨h1, h2, h3⟩ | ⟨h1, h2, h3⟩
      · rw [h3]
        cases t with
        | leaf =>
          show Bool.rec (motive := fun _ => Trie Blk) _ _ (Nat.beq (Nat.mod n 2) 1) = _
          rw [h2]
          show Trie.node .leaf none _ = _
          rw [Trie.put]
          congr 1
          exact ih (n / 2) .leaf (by omega)
        | node l v r =>
          show Bool.rec (motive := fun _ => Trie Blk) _ _ (Nat.beq (Nat.mod n 2) 1) = _
          rw [h2]
          show Trie.node l v _ = _
          rw [Trie.put]
          congr 1
          exact ih (n / 2) r (by omega)
      · rw [h3]
        cases t with
        | leaf =>
          show Bool.rec (motive := fun _ => Trie Blk) _ _ (Nat.beq (Nat.mod n 2) 1) = _
          rw [h2]
          show Trie.node _ none .leaf = _
          rw [Trie.put]
          congr 1
          exact ih (n / 2) .leaf (by omega)
        | node l v r =>
          show Bool.rec (motive := fun _ => Trie Blk) _ _ (Nat.beq (Nat.mod n 2) 1) = _
          rw [h2]
          show Trie.node _ v r = _
          rw [Trie.put]
          congr 1
          exact ih (n / 2) l (by omega)
theorem putR_eq (x : Option Blk) (n : Nat) (t : Trie Blk) : putR x n t = Trie.put x (bits n) t := putR_go x n n t (Nat.le_refl _)
theorem setR_heap (h : Heap) (b : Nat) (o : Blk) : ({ next := h.next, tr := putR (some o) b h.tr } : Heap) = h.set b o := by rw [putR_eq]; rfl
theorem newF_eq (h : Heap) (b : Blk) : newF h b = h.new b := by unfold newF; rw [putR_eq]; rfl
theorem nthR_eq : ∀ (i : Nat) (l : List Value), nthR i l = l[i]? := by
  intro i
  induction i with
  | zero => intro l; cases l <;> rfl
  | succ i ih => intro l; cases l with
    | nil => rfl
    | cons v r => exact (ih r).trans (by simp)
theorem setR_eq (x : Value) : ∀ (i : Nat) (l : List Value), setR x i l = l.set i x := by
  intro i
  induction i with
  | zero => intro l; cases l <;> rfl
  | succ i ih => intro l; cases l with
    | nil => rfl
    | cons v r => show v :: setR x i r = _; rw [ih]; rfl
theorem dropR_eq : ∀ (i : Nat) (l : List Value), dropR i l = l.drop i := by
  intro i
  induction i with
  | zero => intro l; rfl
  | succ i ih => intro l; cases l with
    | nil => rfl
    | cons v r => exact ih r
theorem takeR_eq : ∀ (i : Nat) (l : List Value), takeR i l = l.take i := by
  intro i
  induction i with
  | zero => intro l; rfl
  | succ i ih => intro l; cases l with
    | nil => rfl
    | cons v r => exact congrArg (v :: ·) (ih r)
theorem leR_eq : ∀ (i : Nat) (l : List Value), leR i l = decide (i ≤ l.length) := by
  intro i
  induction i with
  | zero => intro l; exact (decide_eq_true (Nat.zero_le _)).symm
  | succ i ih => intro l; cases l with
    | nil => simp [leR]
    | cons v r =>
      have : leR (i + 1) (v :: r) = leR i r := rfl
      rw [this, ih]; simp
theorem appR_eq : ∀ (l m : List Value), appR l m = l ++ m := by
  intro l m
  induction l with
  | nil => rfl
  | cons v r ih => exact congrArg (v :: ·) ih
theorem allR_eq : ∀ (l : List Value), allR l = l.all oneCell := by
  intro l
  induction l with
  | nil => rfl
  | cons v r ih =>
    have : allR (v :: r) = Bool.rec (motive := fun _ => Bool) false (allR r) (oneCell v) := rfl
    rw [this, List.all_cons, ih]
    cases oneCell v <;> rfl
theorem dropL_eq : ∀ (l cs : List Value), dropL l cs = cs.drop l.length := by
  intro l
  induction l with
  | nil => intro cs; rfl
  | cons v r ih => intro cs; cases cs with
    | nil => rfl
    | cons x cs => exact ih cs
theorem overR_eq (l : List Value) : ∀ (i : Nat) (cs : List Value), overR l i cs = splice cs i l := by
  intro i
  induction i with
  | zero =>
    intro cs
    show appR l (dropL l cs) = _
    rw [appR_eq, dropL_eq]; simp [splice]
  | succ i ih => intro cs; cases cs with
    | nil => simp [splice, overR]
    | cons x cs =>
      have : overR l (i + 1) (x :: cs) = x :: overR l i cs := rfl
      rw [this, ih]
      simp [splice, Nat.add_right_comm]
theorem rdG_eq (h : Heap) (a : Addr) (n : Nat) : rdG h a n = rdN h a n := by
  unfold rdG rdN
  cases a.spot with
  | some s => cases h.get a.block <;> rfl
  | none =>
    simp only [getR_eq]
    cases h.get a.block with
    | none => rfl
    | some b =>
      cases b with
      | cells cs wr o =>
        simp only [takeR_eq, dropR_eq, leR_eq]
        by_cases hl : a.off + n ≤ cs.length
        · rw [if_pos hl, decide_eq_true hl]
        · rw [if_neg hl, decide_eq_false hl]
      | _ => rfl
theorem wrG_eq (h : Heap) (a : Addr) (l : List Value) : wrG h a l = wrN h a l := by
  unfold wrG wrN
  cases a.spot with
  | some s => cases h.get a.block <;> rfl
  | none =>
    simp only [getR_eq]
    cases h.get a.block with
    | none => rfl
    | some b =>
      cases b with
      | cells cs wr o =>
        cases wr with
        | false => rfl
        | true =>
          simp only [overR_eq, leR_eq, setR_heap]
          by_cases hl : a.off + l.length ≤ cs.length
          · rw [if_pos hl, decide_eq_true hl]
          · rw [if_neg hl, decide_eq_false hl]
      | _ => rfl
section
variable {E : Env}
theorem loadBig_eq (t : TypeId) (p : Value) (h : Heap) : loadBig E t p h = loadV E t p h := by
  unfold loadBig loadV
  simp only [rdG_eq]
theorem storeBig_eq (t : TypeId) (p v : Value) (h : Heap) : storeBig E t p v h = storeV E t p v h := by
  unfold storeBig storeV
  simp only [wrG_eq]
theorem srcF_eq (size : Nat) (x : Value) (h : Heap) : srcF size x h = srcV size x h := by
  unfold srcF srcV
  cases x <;> try rfl
  rename_i a n c
  cases a <;> simp only [rdG_eq]
theorem rdN_len {h : Heap} {a : Addr} {n : Nat} {l : List Value} (hr : rdN h a n = some l) : l.length = n := by
  unfold rdN at hr
  split at hr
  · split at hr
    · rename_i hle; cases hr; simp only [List.length_take, List.length_drop] at hle ⊢; omega
    · cases hr
  · cases hr
theorem lenOk_eq {okx : Bool} {e : Ty} {x : Value} {h : Heap} {n : Nat} {new : List Value} (hs : srcA okx e x h = some (n, new)) : lenOkF okx x new (n * e.size) = (new.length == n * e.size) := by
  unfold lenOkF
  split
  · rename_i a m c
    cases okx with
    | false => rfl
    | true =>
      by_cases hm : m = 0
      · subst hm; rfl
      · have h1 : Nat.beq m 0 = false := by cases m with | zero => exact absurd rfl hm | succ m => rfl
        rw [h1]
        unfold srcA srcV at hs
        simp only [if_true, if_neg hm] at hs
        obtain ⟨l, hl, he⟩ := Option.map_eq_some_iff.1 hs
        cases he
        have := rdN_len hl
        symm
        show (new.length == n * e.size) = true
        rw [this]; simp
  · rfl
theorem appendF_eq (t : TypeId) (xt : Option TypeId) (s x : Value) (h : Heap) : appendF E t xt s x h = appendV E t xt s x h := by
  unfold appendF appendV
  cases E.ty t with
  | none => rfl
  | some i =>
    simp only [Option.bind_eq_bind, Option.bind_some]
    cases i.under <;> try rfl
    rename_i elem
    cases s <;> try rfl
    rename_i base len cap
    simp only
    cases E.ty elem with
    | none => rfl
    | some e =>
      simp only [Option.bind_some]
      cases okSrc E xt with
      | none => rfl
      | some okx =>
        simp only [Option.bind_some]
        have hsrc : srcAF okx e x h = srcA okx e x h := by unfold srcAF srcA; rw [srcF_eq]
        rw [hsrc]
        cases hs : srcA okx e x h with
        | none => rfl
        | some p =>
          obtain ⟨n, new⟩ := p
          simp only [Option.bind_some]
          have hl := lenOk_eq hs
          have hc : (e.size = 0 || !lenOkF okx x new (n * e.size) || !allR new) = (e.size = 0 || new.length ≠ n * e.size || !new.all oneCell) := by
            rw [hl, allR_eq]
            simp only [ne_eq, decide_not]
            congr 2
          have hc2 : ((decide (e.size = 0) || !lenOkF okx x new (n * e.size) || !allR new) = true) = ((decide (e.size = 0) || decide (new.length ≠ n * e.size) || !new.all oneCell) = true) := by
            rw [show (decide (e.size = 0) || !lenOkF okx x new (n * e.size) || !allR new) = (decide (e.size = 0) || decide (new.length ≠ n * e.size) || !new.all oneCell) by
              rw [hl, allR_eq]
              simp only [ne_eq, decide_not]
              congr 2]
          simp only [hc2, wrG_eq, getR_eq, leR_eq, decide_eq_true_eq, appR_eq, takeR_eq, dropR_eq]
          have hn : ∀ b : Blk, ({ next := h.next + 1, tr := putR (some b) h.next h.tr } : Heap) = h.new b := fun b => newF_eq h b
          have hk : ∀ (b : Blk) (c : Nat), ({ next := h.next + 1, tr := putR none c (putR (some b) h.next h.tr) } : Heap) = (h.new b).kill c := fun b c => by rw [putR_eq, putR_eq]; rfl
          simp only [hk, hn]
          cases base with
          | none => rfl
          | some a =>
            simp only
            cases a.spot with
            | some s => rfl
            | none =>
              cases h.get a.block with
              | none => rfl
              | some b =>
                cases b <;> rfl
end
end Go.Vi
