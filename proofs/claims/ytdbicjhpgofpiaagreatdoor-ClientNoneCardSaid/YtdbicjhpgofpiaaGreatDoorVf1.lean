/- Vf1: the fast interpreter's parts are the slow one's: the tree of temporaries, numbers, the heap's tree. -/
import Derived.Test.YtdbicjhpgofpiaaGreatDoorVf0
namespace Go.Vi

/-! ## The tree of temporaries -/
theorem bt_leaf (d i : Nat) : BT.get d i .leaf = undef := by cases d <;> rfl
theorem bt_get_node (d i : Nat) (l r : BT) : BT.get (d + 1) i (.node l r) = if i % 2 = 1 then BT.get d (i / 2) r else BT.get d (i / 2) l := by
  show Bool.rec (motive := fun _ => Value) (BT.get d (i / 2) l) (BT.get d (i / 2) r) (Nat.beq (i % 2) 1) = _
  by_cases h : i % 2 = 1
  · rw [if_pos h, h]; rfl
  · rw [if_neg h]
    have : Nat.beq (i % 2) 1 = false := by
      cases hb : Nat.beq (i % 2) 1 with
      | false => rfl
      | true => exact absurd (Nat.eq_of_beq_eq_true hb) h
    rw [this]
def BT.lft : BT → BT
  | .node l _ => l
  | _ => .leaf
def BT.rgt : BT → BT
  | .node _ r => r
  | _ => .leaf
theorem bt_put (d i : Nat) (v : Value) (t : BT) : BT.put v (d + 1) i t = if i % 2 = 1 then .node t.lft (BT.put v d (i / 2) t.rgt) else .node (BT.put v d (i / 2) t.lft) t.rgt := by
  have hb : i % 2 = 1 ∧ Nat.beq (i % 2) 1 = true ∨ i % 2 ≠ 1 ∧ Nat.beq (i % 2) 1 = false := by
    cases hb : Nat.beq (i % 2) 1 with
    | false => exact .inr ⟨(fun h => by rw [h] at hb; cases hb), rfl⟩
    | true => exact .inl ⟨Nat.eq_of_beq_eq_true hb, rfl⟩
  rcases hb with ⟨h, hb⟩ | ⟨h, hb⟩
  · rw [if_pos h]
    cases t with
    | leaf => show Bool.rec (motive := fun _ => BT) _ _ (Nat.beq (i % 2) 1) = _; rw [hb]; rfl
    | one w => show Bool.rec (motive := fun _ => BT) _ _ (Nat.beq (i % 2) 1) = _; rw [hb]; rfl
    | node l r => show Bool.rec (motive := fun _ => BT) _ _ (Nat.beq (i % 2) 1) = _; rw [hb]; rfl
  · rw [if_neg h]
    cases t with
    | leaf => show Bool.rec (motive := fun _ => BT) _ _ (Nat.beq (i % 2) 1) = _; rw [hb]; rfl
    | one w => show Bool.rec (motive := fun _ => BT) _ _ (Nat.beq (i % 2) 1) = _; rw [hb]; rfl
    | node l r => show Bool.rec (motive := fun _ => BT) _ _ (Nat.beq (i % 2) 1) = _; rw [hb]; rfl
theorem bt_get (d i : Nat) (t : BT) : BT.get (d + 1) i t = if i % 2 = 1 then BT.get d (i / 2) t.rgt else BT.get d (i / 2) t.lft := by
  cases t with
  | leaf => simp only [BT.lft, BT.rgt, bt_leaf, ite_self]
  | one w => simp only [BT.lft, BT.rgt, bt_leaf, ite_self]; rfl
  | node l r => exact bt_get_node d i l r
theorem bt_get_put (v : Value) : ∀ (d i j : Nat) (t : BT), i < 2 ^ d → j < 2 ^ d → BT.get d j (BT.put v d i t) = if j = i then v else BT.get d j t := by
  intro d
  induction d with
  | zero =>
    intro i j t hi hj
    have h1 : i = 0 := by simpa using hi
    have h2 : j = 0 := by simpa using hj
    subst h1; subst h2; rfl
  | succ d ih =>
    intro i j t hi hj
    have e : 2 ^ (d + 1) = 2 * 2 ^ d := by rw [Nat.pow_succ, Nat.mul_comm]
    have hi2 : i / 2 < 2 ^ d := by omega
    have hj2 : j / 2 < 2 ^ d := by omega
    rw [bt_put, bt_get d j t]
    by_cases h : i % 2 = 1
    · rw [if_pos h, bt_get_node]
      by_cases hj1 : j % 2 = 1
      · rw [if_pos hj1, if_pos hj1, ih _ _ _ hi2 hj2]
        by_cases he : j = i
        · rw [if_pos he, if_pos (by rw [he])]
        · rw [if_neg he, if_neg (by omega)]
      · rw [if_neg hj1, if_neg hj1, if_neg (by omega)]
    · rw [if_neg h, bt_get_node]
      by_cases hj1 : j % 2 = 1
      · rw [if_pos hj1, if_pos hj1, if_neg (by omega)]
      · rw [if_neg hj1, if_neg hj1, ih _ _ _ hi2 hj2]
        by_cases he : j = i
        · rw [if_pos he, if_pos (by rw [he])]
        · rw [if_neg he, if_neg (by omega)]
theorem getp_eq : ∀ (d i : Nat) (t : BT), BT.getp (pathOf d i) t = BT.get d i t := by
  intro d
  induction d with
  | zero => intro i t; rfl
  | succ d ih =>
    intro i t
    cases t with
    | leaf => rfl
    | one w => rfl
    | node l r =>
      show Bool.rec (motive := fun _ => Value) (BT.getp (pathOf d (i / 2)) l) (BT.getp (pathOf d (i / 2)) r) (Nat.beq (i % 2) 1) = Bool.rec (motive := fun _ => Value) (BT.get d (i / 2) l) (BT.get d (i / 2) r) (Nat.beq (i % 2) 1)
      rw [ih, ih]
theorem putp_eq (v : Value) : ∀ (d i : Nat) (t : BT), BT.putp v (pathOf d i) t = BT.put v d i t := by
  intro d
  induction d with
  | zero => intro i t; rfl
  | succ d ih =>
    intro i t
    cases t with
    | leaf =>
      show Bool.rec (motive := fun _ => BT) (.node (BT.putp v (pathOf d (i / 2)) .leaf) .leaf) (.node .leaf (BT.putp v (pathOf d (i / 2)) .leaf)) (Nat.beq (i % 2) 1) = Bool.rec (motive := fun _ => BT) (.node (BT.put v d (i / 2) .leaf) .leaf) (.node .leaf (BT.put v d (i / 2) .leaf)) (Nat.beq (i % 2) 1)
      rw [ih]
    | one w =>
      show Bool.rec (motive := fun _ => BT) (.node (BT.putp v (pathOf d (i / 2)) .leaf) .leaf) (.node .leaf (BT.putp v (pathOf d (i / 2)) .leaf)) (Nat.beq (i % 2) 1) = Bool.rec (motive := fun _ => BT) (.node (BT.put v d (i / 2) .leaf) .leaf) (.node .leaf (BT.put v d (i / 2) .leaf)) (Nat.beq (i % 2) 1)
      rw [ih]
    | node l r =>
      show Bool.rec (motive := fun _ => BT) (.node (BT.putp v (pathOf d (i / 2)) l) r) (.node l (BT.putp v (pathOf d (i / 2)) r)) (Nat.beq (i % 2) 1) = Bool.rec (motive := fun _ => BT) (.node (BT.put v d (i / 2) l) r) (.node l (BT.put v d (i / 2) r)) (Nat.beq (i % 2) 1)
      rw [ih, ih]
/-- a tree says what a list says. -/
structure TB (d n : Nat) (tt : BT) (t : Tmps) : Prop where
  len : List.length t = n
  fits : n ≤ 2 ^ d
  get : ∀ i, i < n → BT.get d i tt = t.getD i undef
theorem TB.put {d n : Nat} {tt : BT} {t : Tmps} (h : TB d n tt t) {i : Nat} (hi : i < n) (v : Value) : TB d n (BT.put v d i tt) (t.set i v) := by
  have hf := h.fits
  refine ⟨by rw [List.length_set]; exact h.len, h.fits, fun j hj => ?_⟩
  rw [bt_get_put v d i j tt (by omega) (by omega)]
  have hl := h.len
  by_cases he : j = i
  · subst he
    rw [if_pos rfl, List.getD_eq_getElem?_getD, List.getElem?_set, if_pos rfl, if_pos (by omega)]
    rfl
  · rw [if_neg he, h.get j hj, List.getD_eq_getElem?_getD, List.getD_eq_getElem?_getD, List.getElem?_set, if_neg (Ne.symm he)]
theorem TB.putF {d n : Nat} {tt : BT} {t : Tmps} (h : TB d n tt t) {o : Option Tmp} (ho : (match o with | some i => decide (i < n) | none => true) = true) (v : Value) : TB d n (putF d o v tt) (putV t o v) := by
  cases o with
  | none => exact h
  | some i =>
    show TB d n (BT.putp v (pathOf d i) tt) _
    rw [putp_eq]
    exact h.put (by simpa using ho) v
theorem ofL_get (d : Nat) : ∀ (l : List Value) (k : Nat) (t : BT) (j : Nat), k + l.length ≤ 2 ^ d → j < 2 ^ d →
    BT.get d j ((List.rec (fun _ t => t) (fun v _ ih i t => ih (Nat.succ i) (BT.put v d i t)) l : Nat → BT → BT) k t) = if k ≤ j ∧ j < k + l.length then l.getD (j - k) undef else BT.get d j t := by
  intro l
  induction l with
  | nil => intro k t j _ _; rw [if_neg (by simp)]
  | cons v l ih =>
    intro k t j hk hj
    simp only [List.length_cons] at hk
    show BT.get d j ((List.rec (fun _ t => t) (fun v _ ih i t => ih (Nat.succ i) (BT.put v d i t)) l : Nat → BT → BT) (k + 1) (BT.put v d k t)) = _
    rw [ih (k + 1) _ j (by omega) hj, bt_get_put v d k j t (by omega) hj]
    simp only [List.length_cons]
    by_cases h1 : k + 1 ≤ j ∧ j < k + 1 + l.length
    · rw [if_pos h1, if_pos (by omega)]
      have : j - k = (j - (k + 1)) + 1 := by omega
      rw [this]; rfl
    · rw [if_neg h1]
      by_cases h2 : j = k
      · subst h2; rw [if_pos rfl, if_pos (by omega), Nat.sub_self]; rfl
      · rw [if_neg h2, if_neg (by omega)]
theorem TB.ofL {d n : Nat} {l : List Value} (hn : n ≤ 2 ^ d) (hl : l.length ≤ n) : TB d n (BT.ofL d l) (l ++ List.replicate (n - l.length) undef) := by
  refine ⟨by simp; omega, hn, fun i hi => ?_⟩
  unfold BT.ofL
  rw [ofL_get d l 0 .leaf i (by omega) (by omega)]
  rw [List.getD_eq_getElem?_getD (l := l ++ _)]
  by_cases h : i < l.length
  · rw [if_pos (by omega), List.getElem?_append_left h, Nat.sub_zero, List.getD_eq_getElem?_getD]
  · rw [if_neg (by omega), bt_leaf, List.getElem?_append_right (by omega), List.getElem?_replicate]
    split <;> rfl
theorem toL_eq {d n : Nat} {tt : BT} {t : Tmps} (h : TB d n tt t) : BT.toL d n tt = t := by
  have key : ∀ (m k : Nat), k + m = n → (Nat.rec (fun _ => []) (fun _ ih i => BT.get d i tt :: ih (Nat.succ i)) m : Nat → List Value) k = t.drop k := by
    intro m
    induction m with
    | zero => intro k hk; show [] = _; rw [List.drop_eq_nil_of_le (by rw [h.len]; omega)]
    | succ m ih =>
      intro k hk
      show BT.get d k tt :: (Nat.rec (fun _ => []) (fun _ ih i => BT.get d i tt :: ih (Nat.succ i)) m : Nat → List Value) (k + 1) = _
      rw [ih (k + 1) (by omega), h.get k (by omega)]
      have hlt : k < List.length t := by rw [h.len]; omega
      rw [List.drop_eq_getElem_cons hlt, List.getD_eq_getElem?_getD, List.getElem?_eq_getElem hlt]
      rfl
  unfold BT.toL
  rw [key n 0 (by omega)]; rfl
theorem depth_fits (n : Nat) : n ≤ 2 ^ depthOf n := by
  unfold depthOf
  exact Nat.le_of_lt Nat.lt_log2_self
theorem TB.ev {d n : Nat} {tt : BT} {t : Tmps} (h : TB d n tt t) {x : Operand} (hx : operOk n x = true) : evF d tt x = evV t x := by
  cases x with
  | tmp i => exact (getp_eq d i tt).trans (h.get i (by simpa [operOk] using hx))
  | const v =>
    have hp : plainB 100 v = true := hx
    show v = if plainB 100 v then v else undef
    rw [if_pos hp]
  | global g => cases hx
  | func f => rfl

/-! ## Numbers -/
theorem kIx_inj {k k' : IntKind} (h : Nat.beq (kIx k) (kIx k') = true) : k = k' := by
  cases k <;> cases k' <;> first | rfl | exact absurd h (by decide)
theorem wrap_i8 (n : Int) : IntKind.i8.wrap n = if n % 256 ≥ 128 then n % 256 - 256 else n % 256 := by simp [IntKind.wrap, IntKind.bits, IntKind.signed]
theorem wrap_i16 (n : Int) : IntKind.i16.wrap n = if n % 65536 ≥ 32768 then n % 65536 - 65536 else n % 65536 := by simp [IntKind.wrap, IntKind.bits, IntKind.signed]
theorem wrap_i32 (n : Int) : IntKind.i32.wrap n = if n % 4294967296 ≥ 2147483648 then n % 4294967296 - 4294967296 else n % 4294967296 := by simp [IntKind.wrap, IntKind.bits, IntKind.signed]
theorem wrap_i64 (n : Int) : IntKind.i64.wrap n = if n % 18446744073709551616 ≥ 9223372036854775808 then n % 18446744073709551616 - 18446744073709551616 else n % 18446744073709551616 := by simp [IntKind.wrap, IntKind.bits, IntKind.signed]
theorem wrap_u8 (n : Int) : IntKind.u8.wrap n = n % 256 := by simp [IntKind.wrap, IntKind.bits, IntKind.signed]
theorem wrap_u16 (n : Int) : IntKind.u16.wrap n = n % 65536 := by simp [IntKind.wrap, IntKind.bits, IntKind.signed]
theorem wrap_u32 (n : Int) : IntKind.u32.wrap n = n % 4294967296 := by simp [IntKind.wrap, IntKind.bits, IntKind.signed]
theorem wrap_u64 (n : Int) : IntKind.u64.wrap n = n % 18446744073709551616 := by simp [IntKind.wrap, IntKind.bits, IntKind.signed]
theorem wrap_pos (k : IntKind) (m : Nat) (h : m ≤ kMax k) : k.wrap (.ofNat m) = .ofNat m := by
  have e : (Int.ofNat m) = (m : Int) := rfl
  rw [e]
  cases k
  · have h' : m ≤ 127 := h; rw [wrap_i8]; omega
  · have h' : m ≤ 32767 := h; rw [wrap_i16]; omega
  · have h' : m ≤ 2147483647 := h; rw [wrap_i32]; omega
  · have h' : m ≤ 9223372036854775807 := h; rw [wrap_i64]; omega
  · have h' : m ≤ 255 := h; rw [wrap_u8]; omega
  · have h' : m ≤ 65535 := h; rw [wrap_u16]; omega
  · have h' : m ≤ 4294967295 := h; rw [wrap_u32]; omega
  · have h' : m ≤ 18446744073709551615 := h; rw [wrap_u64]; omega
theorem wrap_neg (k : IntKind) (hs : k = .i8 ∨ k = .i16 ∨ k = .i32 ∨ k = .i64) (m : Nat) (h : m ≤ kMax k) : k.wrap (.negSucc m) = .negSucc m := by
  have e : (Int.negSucc m) = -((m : Int) + 1) := Int.negSucc_eq m
  rw [e]
  rcases hs with rfl | rfl | rfl | rfl
  · have h' : m ≤ 127 := h; rw [wrap_i8]; omega
  · have h' : m ≤ 32767 := h; rw [wrap_i16]; omega
  · have h' : m ≤ 2147483647 := h; rw [wrap_i32]; omega
  · have h' : m ≤ 9223372036854775807 := h; rw [wrap_i64]; omega
theorem wrS_eq (k : IntKind) (hs : k = .i8 ∨ k = .i16 ∨ k = .i32 ∨ k = .i64) (x : Int) : wrS k x = k.wrap x := by
  cases x with
  | ofNat m =>
    show Bool.rec (motive := fun _ => Int) (k.wrap (.ofNat m)) (.ofNat m) (Nat.ble m (kMax k)) = _
    cases hb : Nat.ble m (kMax k) with
    | false => rfl
    | true => exact (wrap_pos k m (Nat.le_of_ble_eq_true hb)).symm
  | negSucc m =>
    show Bool.rec (motive := fun _ => Int) (k.wrap (.negSucc m)) (.negSucc m) (Nat.ble m (kMax k)) = _
    cases hb : Nat.ble m (kMax k) with
    | false => rfl
    | true => exact (wrap_neg k hs m (Nat.le_of_ble_eq_true hb)).symm
theorem wrU_eq (k : IntKind) (x : Int) : wrU k x = k.wrap x := by
  cases x with
  | ofNat m =>
    show Bool.rec (motive := fun _ => Int) (k.wrap (.ofNat m)) (.ofNat m) (Nat.ble m (kMax k)) = _
    cases hb : Nat.ble m (kMax k) with
    | false => rfl
    | true => exact (wrap_pos k m (Nat.le_of_ble_eq_true hb)).symm
  | negSucc m => rfl
theorem wrF_eq (k : IntKind) (x : Int) : wrF k x = k.wrap x := by
  cases k
  · exact wrS_eq _ (by simp) x
  · exact wrS_eq _ (by simp) x
  · exact wrS_eq _ (by simp) x
  · exact wrS_eq _ (by simp) x
  all_goals exact wrU_eq _ x
theorem ble_dec (m n : Nat) : Nat.ble m n = decide (m ≤ n) := by
  cases h : Nat.ble m n with
  | true => exact (decide_eq_true (Nat.le_of_ble_eq_true h)).symm
  | false => exact (decide_eq_false (Nat.not_le_of_not_ble_eq_true (by rw [h]; simp))).symm
theorem beq_dec (m n : Nat) : Nat.beq m n = decide (m = n) := by
  cases h : Nat.beq m n with
  | true => exact (decide_eq_true (Nat.eq_of_beq_eq_true h)).symm
  | false => exact (decide_eq_false (Nat.ne_of_beq_eq_false h)).symm
theorem ltF_eq (x y : Int) : ltF x y = decide (x < y) := by
  cases x <;> cases y
  · rename_i m n; show Nat.ble (m + 1) n = _; rw [ble_dec]; exact decide_eq_decide.2 (by simp; omega)
  · rename_i m n; show false = _; exact (decide_eq_false (by simp [Int.negSucc_eq]; omega)).symm
  · rename_i m n; show true = _; exact (decide_eq_true (by simp [Int.negSucc_eq]; omega)).symm
  · rename_i m n; show Nat.ble (n + 1) m = _; rw [ble_dec]; exact decide_eq_decide.2 (by simp [Int.negSucc_eq]; omega)
theorem leF_eq (x y : Int) : leF x y = decide (x ≤ y) := by
  cases x <;> cases y
  · rename_i m n; show Nat.ble m n = _; rw [ble_dec]; exact decide_eq_decide.2 (by simp)
  · rename_i m n; show false = _; exact (decide_eq_false (by simp [Int.negSucc_eq]; omega)).symm
  · rename_i m n; show true = _; exact (decide_eq_true (by simp [Int.negSucc_eq]; omega)).symm
  · rename_i m n; show Nat.ble n m = _; rw [ble_dec]; exact decide_eq_decide.2 (by simp [Int.negSucc_eq])
theorem eqF_eq (x y : Int) : eqF x y = (x == y) := by
  have e : (x == y) = decide (x = y) := by by_cases h : x = y <;> simp [h]
  rw [e]
  cases x <;> cases y
  · rename_i m n; show Nat.beq m n = _; rw [beq_dec]; exact decide_eq_decide.2 ⟨fun h => by rw [h], fun h => Int.ofNat.inj h⟩
  · rename_i m n; show false = _; exact (decide_eq_false (by simp)).symm
  · rename_i m n; show false = _; exact (decide_eq_false (by simp)).symm
  · rename_i m n; show Nat.beq m n = _; rw [beq_dec]; exact decide_eq_decide.2 (by simp)
end Go.Vi
