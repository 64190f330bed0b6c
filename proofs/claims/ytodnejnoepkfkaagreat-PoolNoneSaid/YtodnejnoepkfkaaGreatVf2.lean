/- Vf2: bits, the heap's tree, cells, single operations of the fast interpreter. -/
import Derived.Test.YtodnejnoepkfkaaGreatVf1
namespace Go.Vi
theorem kMax_lt (k : IntKind) : kMax k + 1 ≤ 2 ^ k.bits := by cases k <;> decide
theorem kMax_pow (k : IntKind) : ∃ e, kMax k + 1 = 2 ^ e := by
  cases k
  · exact ⟨7, rfl⟩
  · exact ⟨15, rfl⟩
  · exact ⟨31, rfl⟩
  · exact ⟨63, rfl⟩
  · exact ⟨8, rfl⟩
  · exact ⟨16, rfl⟩
  · exact ⟨32, rfl⟩
  · exact ⟨64, rfl⟩
theorem and_bool {a b : Bool} (h : (Bool.rec (motive := fun _ => Bool) false a b) = true) : a = true ∧ b = true := by
  cases a <;> cases b <;> simp_all
theorem bits_nat (k : IntKind) (m : Nat) (h : m ≤ kMax k) : (BitVec.ofInt k.bits (.ofNat m)).toNat = m := by
  have h1 := kMax_lt k
  have e : (Int.ofNat m) = (m : Int) := rfl
  rw [e, BitVec.ofInt_natCast, BitVec.toNat_ofNat, Nat.mod_eq_of_lt (by omega)]
theorem bitF_eq (f : Nat → Nat → Nat) (op : BinOp) (k : IntKind) (x y : Int)
    (hf : ∀ m n, m ≤ kMax k → n ≤ kMax k → bitV op k (.ofNat m) (.ofNat n) = some (.int k (.ofNat (f m n)))) : bitF f op k x y = bitV op k x y := by
  cases x with
  | negSucc m => rfl
  | ofNat m =>
    cases y with
    | negSucc n => rfl
    | ofNat n =>
      show Bool.rec (motive := fun _ => Option Value) (bitV op k (.ofNat m) (.ofNat n)) (some (.int k (.ofNat (f m n)))) (Bool.rec (motive := fun _ => Bool) false (Nat.ble n (kMax k)) (Nat.ble m (kMax k))) = _
      cases hb : (Bool.rec (motive := fun _ => Bool) false (Nat.ble n (kMax k)) (Nat.ble m (kMax k))) with
      | false => rfl
      | true =>
        obtain ⟨h1, h2⟩ := and_bool hb
        exact (hf m n (Nat.le_of_ble_eq_true h2) (Nat.le_of_ble_eq_true h1)).symm
theorem land_eq (k : IntKind) (x y : Int) : bitF Nat.land .and k x y = bitV .and k x y := by
  refine bitF_eq _ _ _ _ _ fun m n hm hn => ?_
  unfold bitV
  simp only [BitVec.toNat_and, bits_nat k m hm, bits_nat k n hn]
  have : m &&& n ≤ kMax k := Nat.le_trans Nat.and_le_left hm
  have e := wrap_pos k (m &&& n) this
  have e' : ((m &&& n : Nat) : Int) = Int.ofNat (m &&& n) := rfl
  rw [e', e]; rfl
theorem lor_eq (k : IntKind) (x y : Int) : bitF Nat.lor .or k x y = bitV .or k x y := by
  refine bitF_eq _ _ _ _ _ fun m n hm hn => ?_
  unfold bitV
  simp only [BitVec.toNat_or, bits_nat k m hm, bits_nat k n hn]
  obtain ⟨e, he⟩ := kMax_pow k
  have : m ||| n < 2 ^ e := Nat.or_lt_two_pow (by omega) (by omega)
  have e1 := wrap_pos k (m ||| n) (by omega)
  have e' : ((m ||| n : Nat) : Int) = Int.ofNat (m ||| n) := rfl
  rw [e', e1]; rfl
theorem xor_eq (k : IntKind) (x y : Int) : bitF Nat.xor .xor k x y = bitV .xor k x y := by
  refine bitF_eq _ _ _ _ _ fun m n hm hn => ?_
  unfold bitV
  simp only [BitVec.toNat_xor, bits_nat k m hm, bits_nat k n hn]
  obtain ⟨e, he⟩ := kMax_pow k
  have : m ^^^ n < 2 ^ e := Nat.xor_lt_two_pow (by omega) (by omega)
  have e1 := wrap_pos k (m ^^^ n) (by omega)
  have e' : ((m ^^^ n : Nat) : Int) = Int.ofNat (m ^^^ n) := rfl
  rw [e', e1]; rfl
theorem shrF_eq (k : IntKind) (x y : Int) : shrF k x y = arithV .shr k x y := by
  cases x with
  | negSucc m => rfl
  | ofNat m =>
    cases y with
    | negSucc n => rfl
    | ofNat n =>
      show Bool.rec (motive := fun _ => Option Value) (arithV .shr k (.ofNat m) (.ofNat n)) (some (.int k (.ofNat (Nat.shiftRight m n)))) (Bool.rec (motive := fun _ => Bool) false (Nat.ble n 8) (Nat.ble m (kMax k))) = _
      cases hb : (Bool.rec (motive := fun _ => Bool) false (Nat.ble n 8) (Nat.ble m (kMax k))) with
      | false => rfl
      | true =>
        obtain ⟨h1, h2⟩ := and_bool hb
        have h1 := Nat.le_of_ble_eq_true h1
        have h2 := Nat.le_of_ble_eq_true h2
        have hk : 8 ≤ k.bits := by cases k <;> decide
        unfold arithV
        simp only
        have e1 : ¬ (Int.ofNat n < 0) := by simp
        rw [if_neg e1]
        have e2 : (Int.ofNat n).toNat = n := rfl
        rw [e2, Nat.min_eq_left (by omega)]
        have e3 : (Int.ofNat m).fdiv (2 ^ n) = Int.ofNat (m >>> n) := by
          have : ((2 : Int) ^ n) = Int.ofNat (2 ^ n) := by simp
          rw [this, Nat.shiftRight_eq_div_pow]
          exact (Int.ofNat_fdiv m (2 ^ n)).symm
        rw [e3]
        rfl
theorem arithF_eq (op : BinOp) (k : IntKind) (x y : Int) : arithF op k x y = arithV op k x y := by
  cases op
  · show some (Value.int k (wrF k (x + y))) = _; rw [wrF_eq]; rfl
  · show some (Value.int k (wrF k (x - y))) = _; rw [wrF_eq]; rfl
  · show some (Value.int k (wrF k (x * y))) = _; rw [wrF_eq]; rfl
  · rfl
  · rfl
  · exact land_eq k x y
  · exact lor_eq k x y
  · exact xor_eq k x y
  · rfl
  · exact shrF_eq k x y
  · rfl
  · show some (Value.bool (eqF x y)) = some (.bool (x == y)); rw [eqF_eq]
  · show some (Value.bool (Bool.rec (motive := fun _ => Bool) true false (eqF x y))) = some (.bool (x != y)); rw [eqF_eq]; unfold bne; cases (x == y) <;> rfl
  · show some (Value.bool (ltF x y)) = some (.bool (decide (x < y))); rw [ltF_eq]
  · show some (Value.bool (leF x y)) = some (.bool (decide (x ≤ y))); rw [leF_eq]
  · show some (Value.bool (ltF y x)) = some (.bool (decide (x > y))); rw [ltF_eq]
  · show some (Value.bool (leF y x)) = some (.bool (decide (x ≥ y))); rw [leF_eq]
theorem binX_eq (E : Env) (op : BinOp) (t : TypeId) (a b : Operand) (x y : Value) : binX E op t a b x y = binV E op t (isConstO a || isConstO b) x y := by
  unfold binX
  split
  · rename_i k m
    split
    · rename_i k' n
      cases hb : Nat.beq (kIx k) (kIx k') with
      | false => rfl
      | true =>
        have := kIx_inj hb
        subst this
        show arithF op k m n = _
        rw [arithF_eq]
        unfold binV
        simp
    · rfl
  · rfl

/-! ## The heap's tree -/
theorem nb1 (i : Nat) : i % 2 = 1 ∧ Nat.beq (Nat.mod i 2) 1 = true ∧ (i % 2 == 1) = true ∨ i % 2 ≠ 1 ∧ Nat.beq (Nat.mod i 2) 1 = false ∧ (i % 2 == 1) = false := by
  have e : Nat.mod i 2 = i % 2 := rfl
  rw [e]
  cases hb : Nat.beq (i % 2) 1 with
  | false => exact .inr ⟨(fun h => by rw [h] at hb; cases hb), rfl, by rw [beq_eq_false_iff_ne]; intro h; rw [h] at hb; cases hb⟩
  | true => have := Nat.eq_of_beq_eq_true hb; exact .inl ⟨this, rfl, by rw [this]; rfl⟩
theorem nb0 (n : Nat) : n = 0 ∧ Nat.beq n 0 = true ∨ n ≠ 0 ∧ Nat.beq n 0 = false := by
  cases n with
  | zero => exact .inl ⟨rfl, rfl⟩
  | succ n => exact .inr ⟨by simp, rfl⟩
theorem getR_go : ∀ (f n : Nat) (t : Trie Blk), (Nat.rec (fun _ t => Trie.rec none (fun _ v _ _ _ => v) t)
    (fun _ ih n t => Trie.rec none (fun l v r _ _ => Bool.rec (Bool.rec (ih (Nat.div n 2) l) (ih (Nat.div n 2) r) (Nat.beq (Nat.mod n 2) 1)) v (Nat.beq n 0)) t) f : Nat → Trie Blk → Option Blk) n t = t.get (bitsAt f n) := by
  intro f
  induction f with
  | zero => intro n t; cases t <;> rfl
  | succ f ih =>
    intro n t
    cases t with
    | leaf => rw [Trie.get_leaf]
    | node l v r =>
      rw [bitsAt]
      rcases nb0 n with ⟨h0, hb⟩ | ⟨h0, hb⟩
      · rw [if_pos h0]
        show Bool.rec (motive := fun _ => Option Blk) _ v (Nat.beq n 0) = _
        rw [hb]; rfl
      · rw [if_neg h0]
        show Bool.rec (motive := fun _ => Option Blk) _ v (Nat.beq n 0) = _
        rw [hb]
        rcases nb1 n with ⟨h1, h2, h3⟩ | ⟨h1, h2, h3⟩
        · rw [h3]
          show Bool.rec (motive := fun _ => Option Blk) _ _ (Nat.beq (Nat.mod n 2) 1) = _
          rw [h2]; exact ih (n / 2) r
        · rw [h3]
          show Bool.rec (motive := fun _ => Option Blk) _ _ (Nat.beq (Nat.mod n 2) 1) = _
          rw [h2]; exact ih (n / 2) l
theorem getR_eq (n : Nat) (h : Heap) : getR n h.tr = h.get n := getR_go n n h.tr
theorem putR_go (x : Option Blk) : ∀ (f n : Nat) (t : Trie Blk), n ≤ f → (Nat.rec (fun _ t => Trie.rec (.node .leaf x .leaf) (fun l _ r _ _ => .node l x r) t)
    (fun _ ih n t => Bool.rec
      (Trie.rec (Bool.rec (.node (ih (Nat.div n 2) .leaf) none .leaf) (.node .leaf none (ih (Nat.div n 2) .leaf)) (Nat.beq (Nat.mod n 2) 1))
        (fun l v r _ _ => Bool.rec (.node (ih (Nat.div n 2) l) v r) (.node l v (ih (Nat.div n 2) r)) (Nat.beq (Nat.mod n 2) 1)) t)
      (Trie.rec (.node .leaf x .leaf) (fun l _ r _ _ => .node l x r) t) (Nat.beq n 0)) f : Nat → Trie Blk → Trie Blk) n t = Trie.put x (bitsAt f n) t := by
  intro f
  induction f with
  | zero => intro n t _; cases t <;> rfl
  | succ f ih =>
    intro n t hn
    rw [bitsAt]
    rcases nb0 n with ⟨h0, hb⟩ | ⟨h0, hb⟩
    · rw [if_pos h0]
      show Bool.rec (motive := fun _ => Trie Blk) _ (Trie.rec (.node .leaf x .leaf) (fun l _ r _ _ => .node l x r) t) (Nat.beq n 0) = _
      rw [hb]; cases t <;> rfl
    · rw [if_neg h0]
      show Bool.rec (motive := fun _ => Trie Blk) (Trie.rec _ _ t) _ (Nat.beq n 0) = _
      rw [hb]
      rcases nb1 n with ⟨h1, h2, h3⟩ | ⟨h1, h2, h3⟩
      · rw [h3]
        cases t with
        | leaf =>
          show Bool.rec (motive := fun _ => Trie Blk) _ _ (Nat.beq (Nat.mod n 2) 1) = _
          rw [h2]
          show Trie.node .leaf none _ = _
          rw [Trie.put]
          congr 1
          exact ih (n / 2) .leaf (by omega)
        | node l v r =>
          show Bool.rec (motive := fun _ => Trie Blk) _ _ (Nat.beq (Nat.mod n 2) 1) = _
          rw [h2]
          show Trie.node l v _ = _
          rw [Trie.put]
          congr 1
          exact ih (n / 2) r (by omega)
      · rw [h3]
        cases t with
        | leaf =>
          show Bool.rec (motive := fun _ => Trie Blk) _ _ (Nat.beq (Nat.mod n 2) 1) = _
          rw [h2]
          show Trie.node _ none .leaf = _
          rw [Trie.put]
          congr 1
          exact ih (n / 2) .leaf (by omega)
        | node l v r =>
          show Bool.rec (motive := fun _ => Trie Blk) _ _ (Nat.beq (Nat.mod n 2) 1) = _
          rw [h2]
          show Trie.node _ v r = _
          rw [Trie.put]
          congr 1
          exact ih (n / 2) l (by omega)
theorem putR_eq (x : Option Blk) (n : Nat) (t : Trie Blk) : putR x n t = Trie.put x (bits n) t := putR_go x n n t (Nat.le_refl _)
theorem setR_heap (h : Heap) (b : Nat) (o : Blk) : ({ next := h.next, tr := putR (some o) b h.tr } : Heap) = h.set b o := by rw [putR_eq]; rfl
theorem newF_eq (h : Heap) (b : Blk) : newF h b = h.new b := by unfold newF; rw [putR_eq]; rfl
theorem nthR_eq : ∀ (i : Nat) (l : List Value), nthR i l = l[i]? := by
  intro i
  induction i with
  | zero => intro l; cases l <;> rfl
  | succ i ih => intro l; cases l with
    | nil => rfl
    | cons v r => exact (ih r).trans (by simp)
theorem setR_eq (x : Value) : ∀ (i : Nat) (l : List Value), setR x i l = l.set i x := by
  intro i
  induction i with
  | zero => intro l; cases l <;> rfl
  | succ i ih => intro l; cases l with
    | nil => rfl
    | cons v r => show v :: setR x i r = _; rw [ih]; rfl
end Go.Vi
