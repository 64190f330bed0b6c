/- Vh5: values: numbers within their bounds, cells, rows. Vh6: rows: append, copy, slices of slices, literals. Vh7: stores, literals, tests: as functions of what stands there. Vh8: heaps that have grown; ranges over texts. Vh9: rows of one's own: made by append alone. -/
import Derived.Test.YtenhhbammadpbaaGreatDoorVgH
import Derived.Laws.RangeAny
import Derived.Laws.RangeString
namespace Go.Vi
theorem wr64 {x : Int} (h : -9223372036854775808 ≤ x) (h' : x ≤ 9223372036854775807) : IntKind.i64.wrap x = x := by rw [IntKind.wrap_i64]; omega
theorem wr32 {x : Int} (h : -2147483648 ≤ x) (h' : x ≤ 2147483647) : IntKind.i32.wrap x = x := by rw [IntKind.wrap_i32]; omega
theorem wru8 {x : Int} (h : 0 ≤ x) (h' : x ≤ 255) : IntKind.u8.wrap x = x := by rw [IntKind.wrap_u8]; omega
theorem wru32 {x : Int} (h : 0 ≤ x) (h' : x ≤ 4294967295) : IntKind.u32.wrap x = x := by rw [IntKind.wrap_u32]; omega
theorem wru64 {x : Int} (h : 0 ≤ x) (h' : x ≤ 18446744073709551615) : IntKind.u64.wrap x = x := by
  have e : IntKind.u64.wrap x = x % 18446744073709551616 := by simp [IntKind.wrap, IntKind.bits, IntKind.signed]
  rw [e]
  omega
theorem lss_t {k : IntKind} {a b : Int} (h : a < b) : arithV .lss k a b = some (.bool true) := by rw [ar_lss, decide_eq_true h]
theorem lss_f {k : IntKind} {a b : Int} (h : b ≤ a) : arithV .lss k a b = some (.bool false) := by rw [ar_lss, decide_eq_false (by omega)]
theorem leq_t {k : IntKind} {a b : Int} (h : a ≤ b) : arithV .leq k a b = some (.bool true) := by rw [ar_leq, decide_eq_true h]
theorem leq_f {k : IntKind} {a b : Int} (h : b < a) : arithV .leq k a b = some (.bool false) := by rw [ar_leq, decide_eq_false (by omega)]
theorem gtr_t {k : IntKind} {a b : Int} (h : b < a) : arithV .gtr k a b = some (.bool true) := by rw [ar_gtr, decide_eq_true h]
theorem gtr_f {k : IntKind} {a b : Int} (h : a ≤ b) : arithV .gtr k a b = some (.bool false) := by rw [ar_gtr, decide_eq_false (by omega)]
theorem geq_t {k : IntKind} {a b : Int} (h : b ≤ a) : arithV .geq k a b = some (.bool true) := by rw [ar_geq, decide_eq_true h]
theorem geq_f {k : IntKind} {a b : Int} (h : a < b) : arithV .geq k a b = some (.bool false) := by rw [ar_geq, decide_eq_false (by omega)]
theorem eql_t {k : IntKind} {a b : Int} (h : a = b) : arithV .eql k a b = some (.bool true) := by rw [ar_eql, h]; simp
theorem eql_f {k : IntKind} {a b : Int} (h : a ≠ b) : arithV .eql k a b = some (.bool false) := by rw [ar_eql]; simp [h]
theorem neq_t {k : IntKind} {a b : Int} (h : a ≠ b) : arithV .neq k a b = some (.bool true) := by rw [ar_neq]; simp [h]
theorem neq_f {k : IntKind} {a b : Int} (h : a = b) : arithV .neq k a b = some (.bool false) := by rw [ar_neq, h]; simp
theorem add64 {a b : Int} (h : -9223372036854775808 ≤ a + b) (h' : a + b ≤ 9223372036854775807) : arithV .add .i64 a b = some (.int .i64 (a + b)) := by rw [ar_add, wr64 h h']
theorem sub64 {a b : Int} (h : -9223372036854775808 ≤ a - b) (h' : a - b ≤ 9223372036854775807) : arithV .sub .i64 a b = some (.int .i64 (a - b)) := by rw [ar_sub, wr64 h h']
theorem mul64 {a b : Int} (h : -9223372036854775808 ≤ a * b) (h' : a * b ≤ 9223372036854775807) : arithV .mul .i64 a b = some (.int .i64 (a * b)) := by rw [ar_mul, wr64 h h']
theorem addu8 {a b : Int} (h : 0 ≤ a + b) (h' : a + b ≤ 255) : arithV .add .u8 a b = some (.int .u8 (a + b)) := by rw [ar_add, wru8 h h']
theorem subu8 {a b : Int} (h : 0 ≤ a - b) (h' : a - b ≤ 255) : arithV .sub .u8 a b = some (.int .u8 (a - b)) := by rw [ar_sub, wru8 h h']
theorem quo64 {a b : Int} (ha : 0 ≤ a) (hb : 0 < b) (h' : a ≤ 9223372036854775807) : arithV .quo .i64 a b = some (.int .i64 (a / b)) := by
  have h1 : a.tdiv b = a / b := Int.tdiv_eq_ediv_of_nonneg ha
  have h2 : 0 ≤ a / b := Int.ediv_nonneg ha (by omega)
  have h3 : a / b ≤ a := Int.ediv_le_self b ha
  unfold arithV
  simp only [h1, if_neg (show ¬ b = 0 by omega), wr64 (show -9223372036854775808 ≤ a / b by omega) (show a / b ≤ 9223372036854775807 by omega)]
theorem rem64 {a b : Int} (ha : 0 ≤ a) (hb : 0 < b) : arithV .rem .i64 a b = some (.int .i64 (a % b)) := by
  have h1 : a.tmod b = a % b := Int.tmod_eq_emod_of_nonneg ha
  unfold arithV
  simp only [h1, if_neg (show ¬ b = 0 by omega)]
theorem bin_str {E : Env} (op : BinOp) (t : TypeId) (c : Bool) (a b : ByteArray) : binV E op t c (.string a) (.string b) = strV op a b := by
  unfold binV
  rfl
theorem isB_tt : isB (.bool true) true = true := rfl
theorem isB_tf : isB (.bool true) false = false := rfl
theorem isB_ft : isB (.bool false) true = false := rfl
theorem isB_ff : isB (.bool false) false = true := rfl
theorem isB_undef (w : Bool) : isB undef w = false := rfl
theorem isC_tmp (i : Nat) : isConstO (.tmp i) = false := rfl
theorem isC_const (v : Value) : isConstO (.const v) = true := rfl
theorem bq_t (b : Bool) : (b == true) = b := by cases b <;> rfl
theorem bq_f (b : Bool) : (b == false) = !b := by cases b <;> rfl
theorem un_not (b : Bool) : unV .not (.bool b) = some (.bool !b) := rfl
theorem un_neg (k : IntKind) (n : Int) : unV .neg (.int k n) = some (.int k (k.wrap (0 - n))) := rfl
theorem pick_true (a b : Value) : pickK (.bool true) a b = some a := rfl
theorem pick_false (a b : Value) : pickK (.bool false) a b = some b := rfl
theorem nil_ptr (a : Addr) : nilK (.pointer (some a)) = some (.pointer (some a)) := rfl
theorem nil_iface (t : TypeId) (v : Value) : nilK (.iface t v) = some (.iface t v) := rfl
theorem nil_func (f : FuncId) (a c : Array Value) : nilK (.func (.func f) a c) = some (.func (.func f) a c) := rfl
theorem ext_0 (a : Value) (l : List Value) : extrK (.tuple ⟨a :: l⟩) 0 = some a := rfl
theorem ext_1 (a b : Value) (l : List Value) : extrK (.tuple ⟨a :: b :: l⟩) 1 = some b := rfl
theorem ext_2 (a b c : Value) (l : List Value) : extrK (.tuple ⟨a :: b :: c :: l⟩) 2 = some c := rfl
theorem ext_3 (a b c d : Value) (l : List Value) : extrK (.tuple ⟨a :: b :: c :: d :: l⟩) 3 = some d := rfl
theorem ot_one (v : Value) : oneOrTuple [v] = v := rfl
theorem ot_nil : oneOrTuple [] = .tuple ⟨[]⟩ := rfl
theorem ot_more (a b : Value) (l : List Value) : oneOrTuple (a :: b :: l) = .tuple ⟨a :: b :: l⟩ := rfl
theorem res_nil {E : Env} (ρ : Fr) (h : Heap) : resH E [] ρ h = some [] := rfl
def consR (v : Option Value) (l : Option (List Value)) : Option (List Value) := match v, l with
  | some v, some l => some (v :: l)
  | _, _ => none
theorem consR_some (v : Value) (l : List Value) : consR (some v) (some l) = some (v :: l) := rfl
theorem res_tmp {E : Env} (t : Nat) (r : List ResultVar) (ρ : Fr) (h : Heap) : resH E (.tmp t :: r) ρ h = consR (some (ρ t)) (resH E r ρ h) := by
  rw [resH]
  cases resH E r ρ h <;> rfl
theorem res_cell {E : Env} (a t : Nat) (r : List ResultVar) (ρ : Fr) (h : Heap) : resH E (.cell a t :: r) ρ h = consR (loadV E t (ρ a) h) (resH E r ρ h) := by
  rw [resH]
  cases loadV E t (ρ a) h <;> cases resH E r ρ h <;> rfl
theorem frA_at (l : List Value) (i : Nat) : frA l i = l.getD i undef := rfl
theorem map_toList (f : Operand → Value) (l : List Operand) : ((⟨l⟩ : Array Operand).map f).toList = l.map f := by simp
theorem strL_of (l : List UInt8) : strL (strOf l) = l := rfl
theorem size_of (l : List UInt8) : (strOf l).size = l.length := rfl
theorem str_eql (a b : List UInt8) : strV .eql (strOf a) (strOf b) = some (.bool (a == b)) := rfl
theorem str_neq (a b : List UInt8) : strV .neq (strOf a) (strOf b) = some (.bool !(a == b)) := rfl
theorem str_add {a b : List UInt8} (h : a.length + b.length ≤ 4611686018427387904) : strV .add (strOf a) (strOf b) = some (.string (strOf (a ++ b))) := by
  unfold strV
  simp only
  rw [if_pos (by rw [size_of, size_of]; exact h), strL_of, strL_of]
theorem next_set (h : Heap) (b : Nat) (o : Blk) : (h.set b o).next = h.next := rfl
theorem next_new (h : Heap) (o : Blk) : (h.new o).next = h.next + 1 := rfl
theorem next_kill (h : Heap) (b : Nat) : (h.kill b).next = h.next := rfl
theorem get_set_same (h : Heap) (b : Nat) (o : Blk) : (h.set b o).get b = some o := by rw [get_set, if_pos rfl]
theorem get_set_ne {h : Heap} {b c : Nat} {o : Blk} (hne : c ≠ b) : (h.set b o).get c = h.get c := by rw [get_set, if_neg hne]
theorem get_new_same (h : Heap) (o : Blk) : (h.new o).get h.next = some o := by rw [get_new, if_pos rfl]
theorem get_new_ne {h : Heap} {c : Nat} {o : Blk} (hne : c ≠ h.next) : (h.new o).get c = h.get c := by rw [get_new, if_neg hne]
theorem get_kill_ne {h : Heap} {b c : Nat} (hne : c ≠ b) : (h.kill b).get c = h.get c := by rw [get_kill, if_neg hne]
def ifG (p : Bool) (a : Option Blk) (h : Heap) (c : Nat) : Option Blk := match p with
  | true => a
  | false => h.get c
@[congr] theorem ifG_congr {p q : Bool} {a : Option Blk} {h : Heap} {c : Nat} (e : p = q) : ifG p a h c = ifG q a h c := by rw [e]
theorem ifG_true (a : Option Blk) (h : Heap) (c : Nat) : ifG true a h c = a := rfl
theorem ifG_false (a : Option Blk) (h : Heap) (c : Nat) : ifG false a h c = h.get c := rfl
theorem get_new_k (h : Heap) (o : Blk) (c : Nat) : (h.new o).get c = ifG (c == h.next) (some o) h c := by
  rw [get_new]
  by_cases e : c = h.next
  · subst e; simp [ifG]
  · have : (c == h.next) = false := by simpa using e
    rw [if_neg e, this]; rfl
theorem get_set_k (h : Heap) (b : Nat) (o : Blk) (c : Nat) : (h.set b o).get c = ifG (c == b) (some o) h c := by
  rw [get_set]
  by_cases e : c = b
  · subst e; simp [ifG]
  · have : (c == b) = false := by simpa using e
    rw [if_neg e, this]; rfl
theorem get_kill_k (h : Heap) (b : Nat) (c : Nat) : (h.kill b).get c = ifG (c == b) none h c := by
  rw [get_kill]
  by_cases e : c = b
  · subst e; simp [ifG]
  · have : (c == b) = false := by simpa using e
    rw [if_neg e, this]; rfl
theorem beqN_t {a b : Nat} (h : a = b) : (a == b) = true := by simp [h]
theorem beqN_f {a b : Nat} (h : a ≠ b) : (a == b) = false := by simp [h]
theorem add_at (b o n : Nat) : (⟨b, o, none⟩ : Addr).add n = ⟨b, o + n, none⟩ := by
  unfold Addr.add
  split
  · rename_i h; subst h; rfl
  · rfl
def cellAt (x : Option Blk) (o : Nat) : Option Value := match x with
  | some (.cells cs _ _) => cs[o]?
  | _ => none
theorem cellAt_some (cs : List Value) (wr : Bool) (p : Option (Nat × Nat)) (o : Nat) : cellAt (some (.cells cs wr p)) o = cs[o]? := rfl
def cellsAt (x : Option Blk) (o n : Nat) : Option (List Value) := match x with
  | some (.cells cs _ _) => if o + n ≤ cs.length then some ((cs.drop o).take n) else none
  | _ => none
theorem cellsAt_some (cs : List Value) (wr : Bool) (p : Option (Nat × Nat)) (o n : Nat) : cellsAt (some (.cells cs wr p)) o n = if o + n ≤ cs.length then some ((cs.drop o).take n) else none := rfl
theorem rdN_at (h : Heap) (b o n : Nat) : rdN h ⟨b, o, none⟩ n = cellsAt (h.get b) o n := by
  unfold rdN cellsAt
  simp only
  cases h.get b with
  | none => rfl
  | some x => cases x <;> rfl
def aggO (x : Option (List Value)) : Option Value := match x with
  | some l => some (.agg ⟨l⟩)
  | none => none
theorem aggO_some (l : List Value) : aggO (some l) = some (.agg ⟨l⟩) := rfl
section
variable {E : Env} {t : TypeId}
def Sc (E : Env) (t : TypeId) : Prop := (E.ty t).map (fun i => (i.agg, i.size)) = some (false, 1)
def Ag (E : Env) (t : TypeId) (n : Nat) : Prop := (E.ty t).map (fun i => (i.agg, i.size)) = some (true, n)
theorem ld1 (k : Sc E t) (b o : Nat) (h : Heap) : loadV E t (.pointer (some ⟨b, o, none⟩)) h = cellAt (h.get b) o := by
  obtain ⟨i, hi, he⟩ := Option.map_eq_some_iff.1 k
  simp only [Prod.mk.injEq] at he
  unfold loadV ptrOf
  simp only [hi, Option.bind_eq_bind, Option.bind_some, Option.isNone_none, if_true, he.1, he.2, Bool.false_eq_true, if_false, rdN_at]
  unfold cellsAt cellAt
  cases h.get b with
  | none => rfl
  | some x =>
    cases x with
    | cells cs wr p =>
      simp only
      rcases Nat.lt_or_ge o cs.length with hl | hl
      · rw [if_pos (by omega)]
        simp only [Option.bind_some]
        rw [List.drop_eq_getElem_cons hl, List.getElem?_eq_getElem hl]
        rfl
      · rw [if_neg (by omega), List.getElem?_eq_none hl]
        rfl
    | _ => rfl
theorem ldN {n : Nat} (k : Ag E t n) (b o : Nat) (h : Heap) : loadV E t (.pointer (some ⟨b, o, none⟩)) h = aggO (cellsAt (h.get b) o n) := by
  obtain ⟨i, hi, he⟩ := Option.map_eq_some_iff.1 k
  simp only [Prod.mk.injEq] at he
  unfold loadV ptrOf
  simp only [hi, Option.bind_eq_bind, Option.bind_some, Option.isNone_none, if_true, he.1, he.2, rdN_at]
  cases cellsAt (h.get b) o n <;> rfl
def putAt (h : Heap) (b o : Nat) (l : List Value) (x : Option Blk) : Option Heap := match x with
  | some (.cells cs true p) => if l.all oneCell ∧ o + l.length ≤ cs.length then some (h.set b (.cells (splice cs o l) true p)) else none
  | _ => none
theorem putAt_some {h : Heap} {b o : Nat} {l cs : List Value} {p : Option (Nat × Nat)} (ho : l.all oneCell = true) (hl : o + l.length ≤ cs.length) : putAt h b o l (some (.cells cs true p)) = some (h.set b (.cells (splice cs o l) true p)) := if_pos ⟨ho, hl⟩
theorem wrN_at (h : Heap) (b o : Nat) (l : List Value) (ho : l.all oneCell = true) : wrN h ⟨b, o, none⟩ l = putAt h b o l (h.get b) := by
  unfold wrN putAt
  simp only [ho, true_and]
  cases h.get b with
  | none => rfl
  | some x =>
    cases x with
    | cells cs wr p => cases wr <;> rfl
    | _ => rfl
theorem stN {n : Nat} (k : (E.ty t).map (fun i => i.size) = some n) {b o : Nat} {h : Heap} {v : Value} (hn : (cellsOf v).length = n) (ho : (cellsOf v).all oneCell = true) :
    storeV E t (.pointer (some ⟨b, o, none⟩)) v h = putAt h b o (cellsOf v) (h.get b) := by
  obtain ⟨i, hi, he⟩ := Option.map_eq_some_iff.1 k
  unfold storeV ptrOf
  simp only [hi, Option.bind_eq_bind, Option.bind_some, Option.isNone_none, if_true, he]
  rw [if_pos ⟨hn, ho⟩, wrN_at _ _ _ _ ho]
theorem st1 (k : (E.ty t).map (fun i => i.size) = some 1) {b o : Nat} {h : Heap} {v : Value} (hv : oneCell v = true) : storeV E t (.pointer (some ⟨b, o, none⟩)) v h = putAt h b o [v] (h.get b) := by
  have hc : cellsOf v = [v] := by cases v <;> first | rfl | cases hv
  rw [stN k (by rw [hc]; rfl) (by rw [hc]; simp [hv]), hc]
theorem put1 {h : Heap} {b o : Nat} {v : Value} {cs : List Value} {p : Option (Nat × Nat)} (hv : oneCell v = true) (hl : o < cs.length) : putAt h b o [v] (some (.cells cs true p)) = some (h.set b (.cells (cs.set o v) true p)) := by
  rw [putAt_some (by simp [hv]) (by simp; omega)]
  unfold splice
  congr 3
  rw [List.set_eq_take_append_cons_drop, if_pos hl]
  simp
def Sl (E : Env) (t : TypeId) (n : Nat) : Prop := ∃ i e j, E.ty t = some i ∧ i.under = .slice e ∧ E.ty e = some j ∧ j.size = n ∧ n ≠ 0
theorem ixS {n : Nat} (k : Sl E t n) {b o len cap : Nat} {q : IntKind} {x : Int} (h0 : 0 ≤ x) (h1 : x < len) : indexAddrV E t (.slice (some ⟨b, o, none⟩) len cap) (.int q x) = some (.pointer (some ⟨b, o + x.toNat * n, none⟩)) := by
  obtain ⟨i, e, j, hi, hu, hj, hn, hz⟩ := k
  unfold indexAddrV intOf
  simp only [hi, Option.bind_eq_bind, Option.bind_some, hu, hj, hn]
  rw [if_pos ⟨h0, h1, hz⟩, add_at]
def Tx (E : Env) (t : TypeId) : Prop := (E.ty t).map (fun i => i.under) = some .string
theorem ixT (k : Tx E t) {l : List UInt8} {q : IntKind} {x : Int} {c : UInt8} (h0 : 0 ≤ x) (hc : l[x.toNat]? = some c) : indexV E t (.string (strOf l)) (.int q x) = some (byteV c) := by
  obtain ⟨i, hi, hu⟩ := Option.map_eq_some_iff.1 k
  unfold indexV intOf
  simp only [hi, Option.bind_eq_bind, Option.bind_some, hu]
  rw [if_pos h0, strL_of, hc]
  rfl
theorem boundV_ok {q : IntKind} {x : Int} {y : Nat} (h0 : 0 ≤ x) (h1 : x ≤ y) : boundV (.int q x) y = some x.toNat := by
  unfold boundV intOf
  simp only [Option.bind_eq_bind, Option.bind_some]
  rw [if_pos ⟨h0, h1⟩]
theorem slT (k : Tx E t) {l : List UInt8} {q q' : IntKind} {x y : Int} (h0 : 0 ≤ x) (h1 : x ≤ y) (h2 : y ≤ l.length) : sliceV E t (.string (strOf l)) (some (.int q x)) (some (.int q' y)) none = some (.string (strOf ((l.drop x.toNat).take (y.toNat - x.toNat)))) := by
  obtain ⟨i, hi, hu⟩ := Option.map_eq_some_iff.1 k
  unfold sliceV boundsV mxB hiB loB
  simp only [hi, Option.bind_eq_bind, Option.bind_some, hu, size_of, Option.isSome_none, Bool.false_eq_true, if_false]
  rw [boundV_ok (by omega) h2]
  simp only [Option.bind_some]
  rw [boundV_ok h0 (by omega)]
  rfl
theorem slTl (k : Tx E t) {l : List UInt8} {q : IntKind} {x : Int} (h0 : 0 ≤ x) (h1 : x ≤ l.length) : sliceV E t (.string (strOf l)) (some (.int q x)) none none = some (.string (strOf (l.drop x.toNat))) := by
  obtain ⟨i, hi, hu⟩ := Option.map_eq_some_iff.1 k
  unfold sliceV boundsV mxB hiB loB
  simp only [hi, Option.bind_eq_bind, Option.bind_some, hu, size_of, Option.isSome_none, Bool.false_eq_true, if_false]
  rw [boundV_ok h0 h1]
  simp only [Option.bind_some, strL_of]
  rw [List.take_of_length_le (by rw [List.length_drop]; omega)]
theorem slTh (k : Tx E t) {l : List UInt8} {q : IntKind} {y : Int} (h0 : 0 ≤ y) (h1 : y ≤ l.length) : sliceV E t (.string (strOf l)) none (some (.int q y)) none = some (.string (strOf (l.take y.toNat))) := by
  obtain ⟨i, hi, hu⟩ := Option.map_eq_some_iff.1 k
  unfold sliceV boundsV mxB hiB loB
  simp only [hi, Option.bind_eq_bind, Option.bind_some, hu, size_of, Option.isSome_none, Bool.false_eq_true, if_false]
  rw [boundV_ok h0 h1]
  simp only [Option.bind_some, strL_of, List.drop_zero, Nat.sub_zero]
end
theorem same_some (v u : Value) : sameAs v (some u) = veq 100000 u v := rfl
theorem veqN_int (n : Nat) (k : IntKind) (a : Int) : veq (n + 1) (.int k a) (.int k a) = true := by simp [veq]
theorem veqN_bool (n : Nat) (b : Bool) : veq (n + 1) (.bool b) (.bool b) = true := by simp [veq]
theorem veqN_str (n : Nat) (s : ByteArray) : veq (n + 1) (.string s) (.string s) = true := by simp [veq]
theorem veqN_ptr (n : Nat) (a : Option Addr) : veq (n + 1) (.pointer a) (.pointer a) = true := by simp [veq]
theorem veqN_slice (n : Nat) (a : Option Addr) (l c : Nat) : veq (n + 1) (.slice a l c) (.slice a l c) = true := by simp [veq]
theorem veqN_map (n : Nat) (a : Option Nat) : veq (n + 1) (.map a) (.map a) = true := by simp [veq]
theorem veqN_nilI (n : Nat) : veq (n + 1) .nilIface .nilIface = true := by simp [veq]
theorem veqN_nilF (n : Nat) : veq (n + 1) .nilFunc .nilFunc = true := by simp [veq]
theorem veqN_iface (n : Nat) (t : TypeId) (u v : Value) : veq (n + 1) (.iface t u) (.iface t v) = veq n u v := by simp [veq]
theorem veqN_agg (n : Nat) (l m : List Value) : veq (n + 1) (.agg ⟨l⟩) (.agg ⟨m⟩) = veqs n l m := by simp [veq]
theorem veqs_nil (n : Nat) : veqs (n + 1) [] [] = true := by simp [veqs]
theorem veqs_cons (n : Nat) (x y : Value) (r s : List Value) : veqs (n + 1) (x :: r) (y :: s) = (veq n x y && veqs n r s) := by simp [veqs]
end Go.Vi
namespace Go.Vi
section
variable {E : Env} {t : TypeId}
structure SlIs (E : Env) (t : TypeId) (elem : TypeId) (z bytes : Nat) : Prop where
  ex : ∃ i e, E.ty t = some i ∧ i.under = .slice elem ∧ E.ty elem = some e ∧ e.size = z ∧ e.bytes = bytes ∧ (e.zero.map fun x => (cellsOf x).length) = some z
  pos : z ≠ 0
theorem SlIs.sl {elem z bytes : Nat} (k : SlIs E t elem z bytes) : Sl E t z := by
  obtain ⟨⟨i, e, hi, hu, he, hz, _⟩, hp⟩ := k
  exact ⟨i, elem, e, hi, hu, he, hz, hp⟩
def okB (n z : Nat) (x : Option (List Value)) : Option (List Value) := match x with
  | some l => if l.length = n * z ∧ l.all oneCell then some l else none
  | none => none
theorem okB_some {n z : Nat} {l : List Value} (h : l.length = n * z) (ho : l.all oneCell = true) : okB n z (some l) = some l := if_pos ⟨h, ho⟩
theorem okB_eq (n z : Nat) (l : List Value) : okB n z (some l) = if l.length = n * z ∧ l.all oneCell = true then some l else none := rfl
theorem okB_no {n z : Nat} {l : List Value} (h : ¬ (l.length = n * z ∧ l.all oneCell = true)) : okB n z (some l) = none := if_neg h
def appK (z bytes elem : Nat) (h : Heap) (b o len cap : Nat) (x : Option Blk) (n : Nat) (new : Option (List Value)) : Option (Value × Heap) := match new with
  | none => none
  | some new =>
    if len + n ≤ cap then
      if n = 0 then some (.slice (some ⟨b, o, none⟩) len cap, h) else
      match putAt h b (o + len * z) new x with
      | some h' => some (.slice (some ⟨b, o, none⟩) (len + n) cap, h')
      | none => none
    else if (len + n) * bytes > 2 ^ 36 ∨ len + n > 2 ^ 36 then none else
    match x with
    | some (.cells cs wr p) =>
      if o + len * z ≤ cs.length then
        match p with
        | none => some (.slice (some ⟨h.next, 0, none⟩) (len + n) (len + n), h.new (.cells ((cs.drop o).take (len * z) ++ new) true (some (z, elem))))
        | some q => if q = (z, elem) ∧ wr then some (.slice (some ⟨h.next, 0, none⟩) (len + n) (len + n), (h.new (.cells ((cs.drop o).take (len * z) ++ new) true (some (z, elem)))).kill b) else none
      else none
    | _ => none
theorem app_aux {elem z bytes : Nat} (k : SlIs E t elem z bytes) {xt : Option TypeId} {okx : Bool} (hx : okSrc E xt = some okx) {b o len cap : Nat} {x : Value} {h : Heap} {n : Nat} {new : Option (List Value)}
    (hs : ∀ e : Ty, e.size = z → srcA okx e x h = new.map fun l => (n, l)) :
    appendV E t xt (.slice (some ⟨b, o, none⟩) len cap) x h = appK z bytes elem h b o len cap (h.get b) n (okB n z new) := by
  obtain ⟨⟨i, e, hi, hu, he, hz, hb, hzz⟩, hp⟩ := k
  unfold appendV appK
  simp only [hi, Option.bind_eq_bind, Option.bind_some, hu, he, hx, hs e hz, hz, hb, hzz]
  cases new with
  | none => rfl
  | some new =>
    simp only [Option.map_some, Option.bind_some]
    have hz0 : (z == 0) = false := by simpa using hp
    by_cases h1 : new.length = n * z
    · by_cases h2 : new.all oneCell = true
      · rw [okB_some h1 h2]
        simp only [decide_eq_false hp, h1, h2, ne_eq, not_true_eq_false, decide_false, Bool.or_self, Bool.not_true, Bool.false_eq_true, if_false, or_false]
        have hadd : (⟨b, o, none⟩ : Addr).add (len * z) = ⟨b, o + len * z, none⟩ := add_at _ _ _
        split
        · split
          · rfl
          · rw [hadd, wrN_at _ _ _ _ h2]
            cases putAt h b (o + len * z) new (h.get b) <;> rfl
        · split
          · rfl
          · cases h.get b with
            | none => rfl
            | some y =>
              cases y with
              | cells cs wr p => rfl
              | _ => rfl
      · rw [okB_no (fun q => h2 q.2)]
        simp [h2]
    · rw [okB_no (fun q => h1 q.1)]
      simp [h1]
def appN (z bytes elem : Nat) (h : Heap) (n : Nat) (new : Option (List Value)) : Option (Value × Heap) := match new with
  | none => none
  | some new => if n = 0 then some (.slice none 0 0, h) else if n * bytes > 2 ^ 36 ∨ n > 2 ^ 36 then none else some (.slice (some ⟨h.next, 0, none⟩) n n, h.new (.cells new true (some (z, elem))))
theorem appn_aux {elem z bytes : Nat} (k : SlIs E t elem z bytes) {xt : Option TypeId} {okx : Bool} (hx : okSrc E xt = some okx) {x : Value} {h : Heap} {n : Nat} {new : Option (List Value)}
    (hs : ∀ e : Ty, e.size = z → srcA okx e x h = new.map fun l => (n, l)) :
    appendV E t xt (.slice none 0 0) x h = appN z bytes elem h n (okB n z new) := by
  obtain ⟨⟨i, e, hi, hu, he, hz, hb, hzz⟩, hp⟩ := k
  unfold appendV appN
  simp only [hi, Option.bind_eq_bind, Option.bind_some, hu, he, hx, hs e hz, hz, hb, hzz]
  cases new with
  | none => rfl
  | some new =>
    simp only [Option.map_some, Option.bind_some]
    by_cases h1 : new.length = n * z
    · by_cases h2 : new.all oneCell = true
      · rw [okB_some h1 h2]
        simp only [decide_eq_false hp, h1, h2, ne_eq, not_true_eq_false, decide_false, Bool.or_self, Bool.not_true, Bool.false_eq_true, if_false, or_false, Nat.zero_add, Nat.le_zero_eq, if_true]
        split <;> rfl
      · rw [okB_no (fun q => h2 q.2)]
        simp [h2]
    · rw [okB_no (fun q => h1 q.1)]
      simp [h1]
theorem srcA_row {e : Ty} {z : Nat} (hz : e.size = z) {b o n cap : Nat} {h : Heap} : srcA true e (.slice (some ⟨b, o, none⟩) n cap) h = (if n = 0 then some [] else cellsAt (h.get b) o (n * z)).map fun l => (n, l) := by
  unfold srcA srcV
  simp only [if_true, hz, rdN_at]
  split
  · rename_i h0; subst h0; rfl
  · rfl
theorem srcA_nil {e : Ty} {l c : Nat} {h : Heap} : srcA true e (.slice none l c) h = (some []).map fun l => (0, l) := rfl
theorem app_row {elem z bytes : Nat} (k : SlIs E t elem z bytes) {xt : TypeId} (hx : okSrc E (some xt) = some true) {b o len cap b2 o2 n cap2 : Nat} {h : Heap} :
    appendV E t (some xt) (.slice (some ⟨b, o, none⟩) len cap) (.slice (some ⟨b2, o2, none⟩) n cap2) h = appK z bytes elem h b o len cap (h.get b) n (okB n z (if n = 0 then some [] else cellsAt (h.get b2) o2 (n * z))) :=
  app_aux k hx fun _ hz => srcA_row hz
theorem app_nil {elem z bytes : Nat} (k : SlIs E t elem z bytes) {xt : TypeId} (hx : okSrc E (some xt) = some true) {b o len cap l c : Nat} {h : Heap} :
    appendV E t (some xt) (.slice (some ⟨b, o, none⟩) len cap) (.slice none l c) h = appK z bytes elem h b o len cap (h.get b) 0 (okB 0 z (some [])) := app_aux k hx fun _ _ => srcA_nil
theorem app0_row {elem z bytes : Nat} (k : SlIs E t elem z bytes) {xt : TypeId} (hx : okSrc E (some xt) = some true) {b2 o2 n cap2 : Nat} {h : Heap} :
    appendV E t (some xt) (.slice none 0 0) (.slice (some ⟨b2, o2, none⟩) n cap2) h = appN z bytes elem h n (okB n z (if n = 0 then some [] else cellsAt (h.get b2) o2 (n * z))) := appn_aux k hx fun _ hz => srcA_row hz
theorem app0_nil {elem z bytes : Nat} (k : SlIs E t elem z bytes) {xt : TypeId} (hx : okSrc E (some xt) = some true) {l c : Nat} {h : Heap} :
    appendV E t (some xt) (.slice none 0 0) (.slice none l c) h = appN z bytes elem h 0 (okB 0 z (some [])) := appn_aux k hx fun _ _ => srcA_nil
theorem appK_own {z bytes elem : Nat} {h : Heap} {b len n : Nat} {cs new : List Value} (hn : 0 < n) (hc : len * z = cs.length) (hb : (len + n) * bytes ≤ 68719476736) (hl : len + n ≤ 68719476736) :
    appK z bytes elem h b 0 len len (some (.cells cs true (some (z, elem)))) n (some new) = some (.slice (some ⟨h.next, 0, none⟩) (len + n) (len + n), (h.new (.cells (cs ++ new) true (some (z, elem)))).kill b) := by
  unfold appK
  simp only
  rw [if_neg (by omega), if_neg (by omega), if_pos (by omega), if_pos (by simp), List.drop_zero, List.take_of_length_le (by omega)]
theorem appK_lit {z bytes elem : Nat} {h : Heap} {b len n : Nat} {wr : Bool} {cs new : List Value} (hn : 0 < n) (hc : len * z = cs.length) (hb : (len + n) * bytes ≤ 68719476736) (hl : len + n ≤ 68719476736) :
    appK z bytes elem h b 0 len len (some (.cells cs wr none)) n (some new) = some (.slice (some ⟨h.next, 0, none⟩) (len + n) (len + n), h.new (.cells (cs ++ new) true (some (z, elem)))) := by
  unfold appK
  simp only
  rw [if_neg (by omega), if_neg (by omega), if_pos (by omega), List.drop_zero, List.take_of_length_le (by omega)]
theorem appK_zero {z bytes elem : Nat} {h : Heap} {b o len cap : Nat} {x : Option Blk} {new : List Value} (hl : len ≤ cap) : appK z bytes elem h b o len cap x 0 (some new) = some (.slice (some ⟨b, o, none⟩) len cap, h) := by
  unfold appK
  simp only [if_true]
  rw [if_pos (by omega)]
theorem appN_zero {z bytes elem : Nat} {h : Heap} {new : List Value} : appN z bytes elem h 0 (some new) = some (.slice none 0 0, h) := rfl
theorem appN_some {z bytes elem : Nat} {h : Heap} {n : Nat} {new : List Value} (hn : 0 < n) (hb : n * bytes ≤ 68719476736) (hl : n ≤ 68719476736) : appN z bytes elem h n (some new) = some (.slice (some ⟨h.next, 0, none⟩) n n, h.new (.cells new true (some (z, elem)))) := by
  unfold appN
  simp only
  rw [if_neg (by omega), if_neg (by omega)]
theorem boundsV_lh {q q' : IntKind} {x y : Int} {len cap : Nat} (h0 : 0 ≤ x) (h1 : x ≤ y) (h2 : y ≤ cap) : boundsV len cap (some (.int q x)) (some (.int q' y)) none = some (x.toNat, y.toNat, cap) := by
  unfold boundsV mxB hiB loB
  simp only [Option.bind_some]
  rw [boundV_ok (by omega) h2]
  simp only [Option.bind_some]
  rw [boundV_ok h0 (by omega)]
  rfl
theorem boundsV_l {q : IntKind} {x : Int} {len cap : Nat} (h0 : 0 ≤ x) (h1 : x ≤ len) : boundsV len cap (some (.int q x)) none none = some (x.toNat, len, cap) := by
  unfold boundsV mxB hiB loB
  simp only [Option.bind_some, Option.isSome_none, Bool.false_eq_true, if_false]
  rw [boundV_ok h0 h1]
  rfl
theorem boundsV_h {q : IntKind} {y : Int} {len cap : Nat} (h0 : 0 ≤ y) (h1 : y ≤ cap) : boundsV len cap none (some (.int q y)) none = some (0, y.toNat, cap) := by
  unfold boundsV mxB hiB loB
  simp only [Option.bind_some]
  rw [boundV_ok h0 h1]
  rfl
theorem boundsV_0 {len cap : Nat} : boundsV len cap none none none = some (0, len, cap) := rfl
theorem boundsV_lhm {q q' q2 : IntKind} {x y m : Int} {len cap : Nat} (h0 : 0 ≤ x) (h1 : x ≤ y) (h2 : y ≤ m) (h3 : m ≤ cap) : boundsV len cap (some (.int q x)) (some (.int q' y)) (some (.int q2 m)) = some (x.toNat, y.toNat, m.toNat) := by
  unfold boundsV mxB hiB loB
  simp only
  rw [boundV_ok (by omega) h3]
  simp only [Option.bind_some]
  rw [boundV_ok (by omega) (by omega)]
  simp only [Option.bind_some]
  rw [boundV_ok h0 (by omega)]
  rfl
def cutK (z b o : Nat) (x : Option Blk) (y : Option (Nat × Nat × Nat)) : Option Value := match y, x with
  | some (l, hi, m), some (.cells _ _ p) => if p = none ∨ p.map (·.1) = some z then some (.slice (some ⟨b, if m = l then o else o + l * z, none⟩) (hi - l) (m - l)) else none
  | _, _ => none
theorem cutK_closed {z b o : Nat} {cs : List Value} {wr : Bool} {l hi m : Nat} : cutK z b o (some (.cells cs wr none)) (some (l, hi, m)) = some (.slice (some ⟨b, if m = l then o else o + l * z, none⟩) (hi - l) (m - l)) := by
  unfold cutK; simp
theorem cutK_open {z b o e : Nat} {cs : List Value} {wr : Bool} {l hi m : Nat} : cutK z b o (some (.cells cs wr (some (z, e)))) (some (l, hi, m)) = some (.slice (some ⟨b, if m = l then o else o + l * z, none⟩) (hi - l) (m - l)) := by
  unfold cutK; simp
theorem fill_nil (place : Nat → Option (Nat × Nat)) (cs : List Value) : fillV place cs [] = some cs := by rw [fillV]
theorem cells_int (k : IntKind) (n : Int) : cellsOf (.int k n) = [.int k n] := rfl
theorem cells_bool (b : Bool) : cellsOf (.bool b) = [.bool b] := rfl
theorem cells_str (s : ByteArray) : cellsOf (.string s) = [.string s] := rfl
theorem cells_ptr (a : Option Addr) : cellsOf (.pointer a) = [.pointer a] := rfl
theorem cells_slice (a : Option Addr) (l c : Nat) : cellsOf (.slice a l c) = [.slice a l c] := rfl
theorem cells_map (a : Option Nat) : cellsOf (.map a) = [.map a] := rfl
theorem cells_func (f : Fn) (a c : Array Value) : cellsOf (.func f a c) = [.func f a c] := rfl
theorem cells_nilFunc : cellsOf .nilFunc = [.nilFunc] := rfl
theorem cells_iface (t : TypeId) (v : Value) : cellsOf (.iface t v) = [.iface t v] := rfl
theorem cells_nilIface : cellsOf .nilIface = [.nilIface] := rfl
theorem cells_agg (l : List Value) : cellsOf (.agg ⟨l⟩) = l := rfl
theorem one_int (k : IntKind) (n : Int) : oneCell (.int k n) = true := rfl
theorem one_bool (b : Bool) : oneCell (.bool b) = true := rfl
theorem one_str (s : ByteArray) : oneCell (.string s) = true := rfl
theorem one_ptr (a : Option Addr) : oneCell (.pointer a) = true := rfl
theorem one_slice (a : Option Addr) (l c : Nat) : oneCell (.slice a l c) = true := rfl
theorem one_map (a : Option Nat) : oneCell (.map a) = true := rfl
theorem one_func (f : Fn) (a c : Array Value) : oneCell (.func f a c) = true := rfl
theorem one_nilFunc : oneCell .nilFunc = true := rfl
theorem one_iface (t : TypeId) (v : Value) : oneCell (.iface t v) = true := rfl
theorem one_nilIface : oneCell .nilIface = true := rfl
theorem one_byte (l : List UInt8) : (l.map byteV).all oneCell = true := List.all_eq_true.2 fun x hx => by obtain ⟨b, _, rfl⟩ := List.mem_map.1 hx; rfl
theorem parts_eq (ev : Operand → Value) (l : List (Nat × Operand)) : partsV ev ⟨l⟩ = l.map fun p => (p.1, ev p.2) := rfl
end
end Go.Vi
namespace Go.Vi
def putB (h : Heap) (b o : Nat) (v : Value) (x : Option Blk) : Option Heap := match x with
  | some (.cells cs true p) => if o < cs.length then some (h.set b (.cells (cs.set o v) true p)) else none
  | _ => none
theorem putB_some (h : Heap) (b o : Nat) (v : Value) (cs : List Value) (p : Option (Nat × Nat)) : putB h b o v (some (.cells cs true p)) = if o < cs.length then some (h.set b (.cells (cs.set o v) true p)) else none := rfl
def putL (h : Heap) (b o n : Nat) (l : List Value) (x : Option Blk) : Option Heap := match x with
  | some (.cells cs true p) => if l.length = n ∧ l.all oneCell = true ∧ o + n ≤ cs.length then some (h.set b (.cells (splice cs o l) true p)) else none
  | _ => none
theorem putL_some (h : Heap) (b o n : Nat) (l cs : List Value) (p : Option (Nat × Nat)) : putL h b o n l (some (.cells cs true p)) = if l.length = n ∧ l.all oneCell = true ∧ o + n ≤ cs.length then some (h.set b (.cells (splice cs o l) true p)) else none := rfl
theorem splice_eq (cs : List Value) (o : Nat) (l : List Value) : splice cs o l = cs.take o ++ l ++ cs.drop (o + l.length) := rfl
section
variable {E : Env} {t : TypeId}
theorem stB (k : (E.ty t).map (fun i => i.size) = some 1) {b o : Nat} {h : Heap} {v : Value} (hv : oneCell v = true) : storeV E t (.pointer (some ⟨b, o, none⟩)) v h = putB h b o v (h.get b) := by
  rw [st1 k hv]
  cases h.get b with
  | none => rfl
  | some x =>
    cases x with
    | cells cs wr p =>
      cases wr with
      | false => rfl
      | true =>
        rw [putB_some]
        split
        · rename_i hl; rw [put1 hv hl]
        · rename_i hl
          exact if_neg (fun q => hl (by have := q.2; simp at this; omega))
    | _ => rfl
end
def fillG (pl : List (Nat × Nat)) (cs : List Value) (r : List (Nat × Value)) : Option (List Value) := fillV (fun i => pl[i]?) cs r
def fillG1 (pl : List (Nat × Nat)) (cs : List Value) (r : List (Nat × Value)) (l : List Value) (x : Option (Nat × Nat)) : Option (List Value) := match x with
  | some (off, size) => if l.length = size ∧ off + size ≤ cs.length then fillG pl (splice cs off l) r else none
  | none => none
theorem fillG_nil (pl : List (Nat × Nat)) (cs : List Value) : fillG pl cs [] = some cs := fill_nil _ _
theorem fillG_cons (pl : List (Nat × Nat)) (cs : List Value) (i : Nat) (v : Value) (r : List (Nat × Value)) : fillG pl cs ((i, v) :: r) = fillG1 pl cs r (cellsOf v) pl[i]? := by
  unfold fillG fillG1
  rw [fillV]
  simp only
  cases pl[i]? <;> rfl
theorem fillG1_some (pl : List (Nat × Nat)) (cs : List Value) (r : List (Nat × Value)) (l : List Value) (off size : Nat) : fillG1 pl cs r l (some (off, size)) = if l.length = size ∧ off + size ≤ cs.length then fillG pl (splice cs off l) r else none := rfl
def fillS (z : Nat) (cs : List Value) (r : List (Nat × Value)) : Option (List Value) := fillV (fun i => some (i * z, z)) cs r
theorem fillS_nil (z : Nat) (cs : List Value) : fillS z cs [] = some cs := fill_nil _ _
theorem fillS_cons (z : Nat) (cs : List Value) (i : Nat) (v : Value) (r : List (Nat × Value)) : fillS z cs ((i, v) :: r) = if (cellsOf v).length = z ∧ i * z + z ≤ cs.length then fillS z (splice cs (i * z) (cellsOf v)) r else none := by
  unfold fillS
  rw [fillV]
def aggK (x : Option (List Value)) : Option Value := match x with
  | some l => some (.agg ⟨l⟩)
  | none => none
theorem aggK_some (l : List Value) : aggK (some l) = some (.agg ⟨l⟩) := rfl
theorem build_of {E : Env} {t : TypeId} {pl : List (Nat × Nat)} {z : List Value} (h : ∀ ps, buildV E t ps = (fillV (fun i => pl[i]?) z ps).map aggOf) (ps : List (Nat × Value)) : buildV E t ps = aggK (fillG pl z ps) := by
  rw [h]
  unfold fillG
  cases fillV (fun i => pl[i]?) z ps <;> rfl
def litK (n : Nat) (x : Option (List Value)) : Option (Blk × Mk) := match x with
  | some cs => some (.cells cs true none, .slice n n)
  | none => none
theorem litK_some (n : Nat) (cs : List Value) : litK n (some cs) = some (.cells cs true none, .slice n n) := rfl
theorem bslice_of {E : Env} {t : TypeId} {n z : Nat} {cs : List Value} (h : ∀ ps, bsliceK E t n ps = (fillV (fun i => some (i * z, z)) cs ps).bind fun cs => some (.cells cs true none, .slice n n)) (ps : List (Nat × Value)) : bsliceK E t n ps = litK n (fillS z cs ps) := by
  rw [h]
  unfold fillS
  cases fillV (fun i => some (i * z, z)) cs ps <;> rfl
theorem mk_ptr (id : Nat) : Mk.val .ptr id = .pointer (some ⟨id, 0, none⟩) := rfl
theorem mk_slice (l c id : Nat) : Mk.val (.slice l c) id = .slice (some ⟨id, 0, none⟩) l c := rfl
theorem mk_map (id : Nat) : Mk.val .map id = .map (some id) := rfl
theorem rep_one (n : Nat) (v : Value) : rep n [v] = List.replicate n v := by
  unfold rep
  induction n with
  | zero => rfl
  | succ n ih => rw [List.replicate_succ, List.flatten_cons, ih, List.replicate_succ]; rfl
theorem ifo_pos {α : Sort _} {c : Prop} [Decidable c] {a b : α} (h : c) : (if c then a else b) = a := if_pos h
theorem ifo_neg {α : Sort _} {c : Prop} [Decidable c] {a b : α} (h : ¬ c) : (if c then a else b) = b := if_neg h
def textC (x : Option (List Value)) : Option Value := match x with
  | some l => match unbytes l with
    | some b => some (.string (strOf b))
    | none => none
  | none => none
theorem unbytes_map (l : List UInt8) : unbytes (l.map byteV) = some l := by
  induction l with
  | nil => rfl
  | cons b l ih =>
    rw [List.map_cons, unbytes, ih]
    have : unbyte (byteV b) = some b := by
      unfold unbyte byteV
      simp only
      congr 1
      simp
    rw [this]
theorem textC_bytes (l : List UInt8) : textC (some (l.map byteV)) = some (.string (strOf l)) := by
  unfold textC
  simp only [unbytes_map]
section
variable {E : Env} {s d e : TypeId}
structure BtIs (E : Env) (s d e : TypeId) : Prop where
  s : (E.ty s).map (·.under) = some (.slice e)
  d : (E.ty d).map (·.under) = some .string
  e : (E.ty e).map (·.under) = some (.int .u8)
end
def dTy : Ty := { under := .bool, agg := false, size := 0, bytes := 0, zero := none, eqg := false, held := false, cmp := false, places := none }
noncomputable def dFun : Fun := ⟨default, .skip, fun _ => none⟩
end Go.Vi
namespace Go.Vi
structure Grow (h h' : Heap) : Prop where
  next : h.next ≤ h'.next
  get : ∀ b, b < h.next → h'.get b = h.get b
theorem Grow.refl (h : Heap) : Grow h h := ⟨Nat.le_refl _, fun _ _ => rfl⟩
theorem Grow.trans {a b c : Heap} (h : Grow a b) (k : Grow b c) : Grow a c := ⟨Nat.le_trans h.next k.next, fun x hx => (k.get x (Nat.lt_of_lt_of_le hx h.next)).trans (h.get x hx)⟩
theorem Grow.new (h : Heap) (o : Blk) : Grow h (h.new o) := ⟨Nat.le_succ _, fun b hb => get_new_ne (by omega)⟩
theorem Grow.set {a h : Heap} (k : Grow a h) {b : Nat} (hb : a.next ≤ b) (o : Blk) : Grow a (h.set b o) := ⟨k.next, fun x hx => (get_set_ne (by omega)).trans (k.get x hx)⟩
theorem Grow.kill {a h : Heap} (k : Grow a h) {b : Nat} (hb : a.next ≤ b) : Grow a (h.kill b) := ⟨k.next, fun x hx => (get_kill_ne (by omega)).trans (k.get x hx)⟩
theorem Grow.more {a h : Heap} (k : Grow a h) (o : Blk) : Grow a (h.new o) := k.trans (.new h o)
section
variable {E : Env} {t : TypeId}
def nextK (h : Heap) (r : Nat) (x : Option Blk) : Option (Value × Heap) := match x with
  | some (.sit s pos) => if pos < s.size then some (.tuple ⟨[.bool true, .int .i64 pos, .int .i32 (Utf8.decode s pos).1]⟩, h.set r (.sit s (pos + (Utf8.decode s pos).2))) else some (.tuple ⟨[.bool false]⟩, h)
  | _ => none
theorem nextT (r : Nat) (h : Heap) : nextV (.pointer (some ⟨r, 0, none⟩)) true h = nextK h r (h.get r) := by
  unfold nextV nextK
  simp only
  cases h.get r with
  | none => rfl
  | some x =>
    cases x with
    | sit s pos => rfl
    | mit m a b c => cases m <;> rfl
    | _ => rfl
theorem nextK_end (h : Heap) (r : Nat) (l : List UInt8) : nextK h r (some (.sit (strOf l) l.length)) = some (.tuple ⟨[.bool false]⟩, h) := by
  unfold nextK
  simp only
  rw [if_neg]
  rw [size_of]; omega
end
end Go.Vi
namespace Go.Vi
def blkOf : Value → Option Nat
  | .slice (some a) _ _ => some a.block
  | .pointer (some a) => some a.block
  | _ => none
def Own (h0 h : Heap) (z elem : Nat) (d : Value) (l : List Value) : Prop :=
  (d = .slice none 0 0 ∧ l = []) ∨ ∃ b n, d = .slice (some ⟨b, 0, none⟩) n n ∧ 0 < n ∧ n * z = l.length ∧ h0.next ≤ b ∧ b < h.next ∧ h.get b = some (.cells l true (some (z, elem)))
theorem Own.nil (h0 h : Heap) (z elem : Nat) : Own h0 h z elem (.slice none 0 0) [] := .inl ⟨rfl, rfl⟩
theorem Own.grow {h0 h h' : Heap} {z elem : Nat} {d : Value} {l : List Value} (o : Own h0 h z elem d l) (g : Grow h h') : Own h0 h' z elem d l := by
  rcases o with o | ⟨b, n, hd, hn, hl, hb, hb2, hg⟩
  · exact .inl o
  · exact .inr ⟨b, n, hd, hn, hl, hb, Nat.lt_of_lt_of_le hb2 g.next, by rw [g.get b hb2]; exact hg⟩
theorem Own.keep {h0 h h' : Heap} {z elem : Nat} {d : Value} {l : List Value} (o : Own h0 h z elem d l) (hn : h.next ≤ h'.next) (g : ∀ b, blkOf d = some b → h'.get b = h.get b) : Own h0 h' z elem d l := by
  rcases o with o | ⟨b, n, hd, hp, hl, hb, hb2, hg⟩
  · exact .inl o
  · exact .inr ⟨b, n, hd, hp, hl, hb, Nat.lt_of_lt_of_le hb2 hn, by rw [g b (by rw [hd]; rfl)]; exact hg⟩
theorem Own.since {h0 h1 h : Heap} {z elem : Nat} {d : Value} {l : List Value} (o : Own h1 h z elem d l) (g : h0.next ≤ h1.next) : Own h0 h z elem d l := by
  rcases o with o | ⟨b, n, hd, hn, hl, hb, hb2, hg⟩
  · exact .inl o
  · exact .inr ⟨b, n, hd, hn, hl, Nat.le_trans g hb, hb2, hg⟩
theorem Own.lt {h0 h : Heap} {z elem : Nat} {d : Value} {l : List Value} (o : Own h0 h z elem d l) {b : Nat} (hb : blkOf d = some b) : h0.next ≤ b ∧ b < h.next := by
  rcases o with ⟨rfl, _⟩ | ⟨c, n, rfl, _, _, h1, h2, _⟩
  · cases hb
  · cases hb; exact ⟨h1, h2⟩
section
variable {E : Env} {t elem z bytes : Nat}
theorem own_app (k : SlIs E t elem z bytes) {xt : TypeId} (hx : okSrc E (some xt) = some true) {h0 h : Heap} {d : Value} {l : List Value} (o : Own h0 h z elem d l) (g : Grow h0 h) {b2 o2 n c2 : Nat} {new : List Value}
    (hs : cellsAt (h.get b2) o2 (n * z) = some new) (hn : 0 < n) (hall : new.all oneCell = true) (hl : l.length + new.length ≤ 1000000000) (hb : bytes ≤ 60) :
    ∃ d' h', appendV E t (some xt) d (.slice (some ⟨b2, o2, none⟩) n c2) h = some (d', h') ∧ Own h0 h' z elem d' (l ++ new) ∧ Grow h0 h' ∧ h'.next = h.next + 1 ∧ blkOf d' = some h.next ∧ ∀ c, c < h.next → blkOf d ≠ some c → h'.get c = h.get c := by
  have hp := k.pos
  have hlen : new.length = n * z := by
    unfold cellsAt at hs
    split at hs
    · split at hs
      · cases hs; simp only [List.length_take, List.length_drop]; omega
      · cases hs
    · cases hs
  have hnz : n ≤ n * z := Nat.le_mul_of_pos_right _ (by omega)
  have hn0 : ¬ n = 0 := by omega
  have hbn : ∀ m : Nat, m ≤ 1000000000 → m * bytes ≤ 68719476736 := fun m hm => by
    have := Nat.mul_le_mul hm hb
    omega
  rcases o with ⟨rfl, rfl⟩ | ⟨b, m, rfl, hm, hml, hb0, hb1, hg⟩
  · refine ⟨.slice (some ⟨h.next, 0, none⟩) n n, h.new (.cells new true (some (z, elem))), ?_, .inr ⟨h.next, n, rfl, hn, by simp [hlen], g.next, Nat.lt_succ_self _, get_new_same _ _⟩, g.more _, rfl, rfl, fun c hc _ => get_new_ne (by omega)⟩
    rw [app0_row k hx, if_neg hn0, hs, okB_some hlen hall, appN_some hn (hbn _ (by simp at hl; omega)) (by simp at hl; omega)]
  · have hmz : m ≤ m * z := Nat.le_mul_of_pos_right _ (by omega)
    refine ⟨.slice (some ⟨h.next, 0, none⟩) (m + n) (m + n), (h.new (.cells (l ++ new) true (some (z, elem)))).kill b, ?_, .inr ⟨h.next, m + n, rfl, by omega, by rw [Nat.add_mul, List.length_append]; omega, g.next, Nat.lt_succ_self _, ?_⟩, (g.more _).kill hb0, rfl, rfl, fun c hc hne => ?_⟩
    · rw [app_row k hx, if_neg hn0, hs, okB_some hlen hall, hg, appK_own hn hml (hbn _ (by omega)) (by omega)]
    · rw [get_kill_ne (by omega), get_new_same]
    · have hcb : c ≠ b := fun e => hne (by rw [e]; rfl)
      rw [get_kill_ne hcb, get_new_ne (by omega)]
end
end Go.Vi
