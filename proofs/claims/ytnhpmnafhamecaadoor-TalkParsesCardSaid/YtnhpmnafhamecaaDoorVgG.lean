/- Vh6: rows: append, copy, slices of slices, literals. Vh7: stores, literals, tests: as functions of what stands there. Vh8: heaps that have grown; ranges over texts. Vh9: rows of one's own: made by append alone. Vb0: contracts of Go calls, told to the interpreter; and what the interpreter says, as a contract. Vb1: rows, as a Go call sees them; a row that a call has made. Vq: the rules of the logic, as a few. -/
import Derived.Test.YtnhpmnafhamecaaDoorVgF
import Derived.Laws.RangeAny
import Derived.Laws.RangeString
import Derived.Test.YtnhpmnafhamecaaDoorVgE
namespace Go.Vi
section
variable {E : Env} {t : TypeId}
/-- a type of slices whose elements are of so many cells, and bytes. -/
structure SlIs (E : Env) (t : TypeId) (elem : TypeId) (z bytes : Nat) : Prop where
  ex : ∃ i e, E.ty t = some i ∧ i.under = .slice elem ∧ E.ty elem = some e ∧ e.size = z ∧ e.bytes = bytes ∧ (e.zero.map fun x => (cellsOf x).length) = some z
  pos : z ≠ 0
theorem SlIs.sl {elem z bytes : Nat} (k : SlIs E t elem z bytes) : Sl E t z := by
  obtain ⟨⟨i, e, hi, hu, he, hz, _⟩, hp⟩ := k
  exact ⟨i, elem, e, hi, hu, he, hz, hp⟩
def okB (n z : Nat) (x : Option (List Value)) : Option (List Value) := match x with
  | some l => if l.length = n * z ∧ l.all oneCell then some l else none
  | none => none
theorem okB_some {n z : Nat} {l : List Value} (h : l.length = n * z) (ho : l.all oneCell = true) : okB n z (some l) = some l := if_pos ⟨h, ho⟩
theorem okB_eq (n z : Nat) (l : List Value) : okB n z (some l) = if l.length = n * z ∧ l.all oneCell = true then some l else none := rfl
theorem okB_no {n z : Nat} {l : List Value} (h : ¬ (l.length = n * z ∧ l.all oneCell = true)) : okB n z (some l) = none := if_neg h
/-- append: to a row that lies in a block; what is appended is known. -/
def appK (z bytes elem : Nat) (h : Heap) (b o len cap : Nat) (x : Option Blk) (n : Nat) (new : Option (List Value)) : Option (Value × Heap) := match new with
  | none => none
  | some new =>
    if len + n ≤ cap then
      if n = 0 then some (.slice (some ⟨b, o, none⟩) len cap, h) else
      match putAt h b (o + len * z) new x with
      | some h' => some (.slice (some ⟨b, o, none⟩) (len + n) cap, h')
      | none => none
    else if (len + n) * bytes > 2 ^ 36 ∨ len + n > 2 ^ 36 then none else
    match x with
    | some (.cells cs wr p) =>
      if o + len * z ≤ cs.length then
        match p with
        | none => some (.slice (some ⟨h.next, 0, none⟩) (len + n) (len + n), h.new (.cells ((cs.drop o).take (len * z) ++ new) true (some (z, elem))))
        | some q => if q = (z, elem) ∧ wr then some (.slice (some ⟨h.next, 0, none⟩) (len + n) (len + n), (h.new (.cells ((cs.drop o).take (len * z) ++ new) true (some (z, elem)))).kill b) else none
      else none
    | _ => none
theorem app_aux {elem z bytes : Nat} (k : SlIs E t elem z bytes) {xt : Option TypeId} {okx : Bool} (hx : okSrc E xt = some okx) {b o len cap : Nat} {x : Value} {h : Heap} {n : Nat} {new : Option (List Value)}
    (hs : ∀ e : Ty, e.size = z → srcA okx e x h = new.map fun l => (n, l)) :
    appendV E t xt (.slice (some ⟨b, o, none⟩) len cap) x h = appK z bytes elem h b o len cap (h.get b) n (okB n z new) := by
  obtain ⟨⟨i, e, hi, hu, he, hz, hb, hzz⟩, hp⟩ := k
  unfold appendV appK
  simp only [hi, Option.bind_eq_bind, Option.bind_some, hu, he, hx, hs e hz, hz, hb, hzz]
  cases new with
  | none => rfl
  | some new =>
    simp only [Option.map_some, Option.bind_some]
    have hz0 : (z == 0) = false := by simpa using hp
    by_cases h1 : new.length = n * z
    · by_cases h2 : new.all oneCell = true
      · rw [okB_some h1 h2]
        simp only [decide_eq_false hp, h1, h2, ne_eq, not_true_eq_false, decide_false, Bool.or_self, Bool.not_true, Bool.false_eq_true, if_false, or_false]
        have hadd : (⟨b, o, none⟩ : Addr).add (len * z) = ⟨b, o + len * z, none⟩ := add_at _ _ _
        split
        · split
          · rfl
          · rw [hadd, wrN_at _ _ _ _ h2]
            cases putAt h b (o + len * z) new (h.get b) <;> rfl
        · split
          · rfl
          · cases h.get b with
            | none => rfl
            | some y =>
              cases y with
              | cells cs wr p => rfl
              | _ => rfl
      · rw [okB_no (fun q => h2 q.2)]
        simp [h2]
    · rw [okB_no (fun q => h1 q.1)]
      simp [h1]
/-- append to nothing. -/
def appN (z bytes elem : Nat) (h : Heap) (n : Nat) (new : Option (List Value)) : Option (Value × Heap) := match new with
  | none => none
  | some new => if n = 0 then some (.slice none 0 0, h) else if n * bytes > 2 ^ 36 ∨ n > 2 ^ 36 then none else some (.slice (some ⟨h.next, 0, none⟩) n n, h.new (.cells new true (some (z, elem))))
theorem appn_aux {elem z bytes : Nat} (k : SlIs E t elem z bytes) {xt : Option TypeId} {okx : Bool} (hx : okSrc E xt = some okx) {x : Value} {h : Heap} {n : Nat} {new : Option (List Value)}
    (hs : ∀ e : Ty, e.size = z → srcA okx e x h = new.map fun l => (n, l)) :
    appendV E t xt (.slice none 0 0) x h = appN z bytes elem h n (okB n z new) := by
  obtain ⟨⟨i, e, hi, hu, he, hz, hb, hzz⟩, hp⟩ := k
  unfold appendV appN
  simp only [hi, Option.bind_eq_bind, Option.bind_some, hu, he, hx, hs e hz, hz, hb, hzz]
  cases new with
  | none => rfl
  | some new =>
    simp only [Option.map_some, Option.bind_some]
    by_cases h1 : new.length = n * z
    · by_cases h2 : new.all oneCell = true
      · rw [okB_some h1 h2]
        simp only [decide_eq_false hp, h1, h2, ne_eq, not_true_eq_false, decide_false, Bool.or_self, Bool.not_true, Bool.false_eq_true, if_false, or_false, Nat.zero_add, Nat.le_zero_eq, if_true]
        split <;> rfl
      · rw [okB_no (fun q => h2 q.2)]
        simp [h2]
    · rw [okB_no (fun q => h1 q.1)]
      simp [h1]
/-- what is appended: a row; nothing; a text. -/
theorem srcA_row {e : Ty} {z : Nat} (hz : e.size = z) {b o n cap : Nat} {h : Heap} : srcA true e (.slice (some ⟨b, o, none⟩) n cap) h = (if n = 0 then some [] else cellsAt (h.get b) o (n * z)).map fun l => (n, l) := by
  unfold srcA srcV
  simp only [if_true, hz, rdN_at]
  split
  · rename_i h0; subst h0; rfl
  · rfl
theorem srcA_nil {e : Ty} {l c : Nat} {h : Heap} : srcA true e (.slice none l c) h = (some []).map fun l => (0, l) := rfl
theorem srcA_str {e : Ty} {s : List UInt8} {h : Heap} : srcA true e (.string (strOf s)) h = (some (s.map byteV)).map fun l => (s.length, l) := rfl
theorem app_row {elem z bytes : Nat} (k : SlIs E t elem z bytes) {xt : TypeId} (hx : okSrc E (some xt) = some true) {b o len cap b2 o2 n cap2 : Nat} {h : Heap} :
    appendV E t (some xt) (.slice (some ⟨b, o, none⟩) len cap) (.slice (some ⟨b2, o2, none⟩) n cap2) h = appK z bytes elem h b o len cap (h.get b) n (okB n z (if n = 0 then some [] else cellsAt (h.get b2) o2 (n * z))) :=
  app_aux k hx fun _ hz => srcA_row hz
theorem app_nil {elem z bytes : Nat} (k : SlIs E t elem z bytes) {xt : TypeId} (hx : okSrc E (some xt) = some true) {b o len cap l c : Nat} {h : Heap} :
    appendV E t (some xt) (.slice (some ⟨b, o, none⟩) len cap) (.slice none l c) h = appK z bytes elem h b o len cap (h.get b) 0 (okB 0 z (some [])) := app_aux k hx fun _ _ => srcA_nil
theorem app_str {elem z bytes : Nat} (k : SlIs E t elem z bytes) {xt : TypeId} (hx : okSrc E (some xt) = some true) {b o len cap : Nat} {s : List UInt8} {h : Heap} :
    appendV E t (some xt) (.slice (some ⟨b, o, none⟩) len cap) (.string (strOf s)) h = appK z bytes elem h b o len cap (h.get b) s.length (okB s.length z (some (s.map byteV))) := app_aux k hx fun _ _ => srcA_str
theorem app0_row {elem z bytes : Nat} (k : SlIs E t elem z bytes) {xt : TypeId} (hx : okSrc E (some xt) = some true) {b2 o2 n cap2 : Nat} {h : Heap} :
    appendV E t (some xt) (.slice none 0 0) (.slice (some ⟨b2, o2, none⟩) n cap2) h = appN z bytes elem h n (okB n z (if n = 0 then some [] else cellsAt (h.get b2) o2 (n * z))) := appn_aux k hx fun _ hz => srcA_row hz
theorem app0_nil {elem z bytes : Nat} (k : SlIs E t elem z bytes) {xt : TypeId} (hx : okSrc E (some xt) = some true) {l c : Nat} {h : Heap} :
    appendV E t (some xt) (.slice none 0 0) (.slice none l c) h = appN z bytes elem h 0 (okB 0 z (some [])) := appn_aux k hx fun _ _ => srcA_nil
theorem app0_str {elem z bytes : Nat} (k : SlIs E t elem z bytes) {xt : TypeId} (hx : okSrc E (some xt) = some true) {s : List UInt8} {h : Heap} :
    appendV E t (some xt) (.slice none 0 0) (.string (strOf s)) h = appN z bytes elem h s.length (okB s.length z (some (s.map byteV))) := appn_aux k hx fun _ _ => srcA_str
/-- a row of its own: its capacity is its length. -/
theorem appK_own {z bytes elem : Nat} {h : Heap} {b len n : Nat} {cs new : List Value} (hn : 0 < n) (hc : len * z = cs.length) (hb : (len + n) * bytes ≤ 68719476736) (hl : len + n ≤ 68719476736) :
    appK z bytes elem h b 0 len len (some (.cells cs true (some (z, elem)))) n (some new) = some (.slice (some ⟨h.next, 0, none⟩) (len + n) (len + n), (h.new (.cells (cs ++ new) true (some (z, elem)))).kill b) := by
  unfold appK
  simp only
  rw [if_neg (by omega), if_neg (by omega), if_pos (by omega), if_pos (by simp), List.drop_zero, List.take_of_length_le (by omega)]
/-- a row that was laid as a literal. -/
theorem appK_lit {z bytes elem : Nat} {h : Heap} {b len n : Nat} {wr : Bool} {cs new : List Value} (hn : 0 < n) (hc : len * z = cs.length) (hb : (len + n) * bytes ≤ 68719476736) (hl : len + n ≤ 68719476736) :
    appK z bytes elem h b 0 len len (some (.cells cs wr none)) n (some new) = some (.slice (some ⟨h.next, 0, none⟩) (len + n) (len + n), h.new (.cells (cs ++ new) true (some (z, elem)))) := by
  unfold appK
  simp only
  rw [if_neg (by omega), if_neg (by omega), if_pos (by omega), List.drop_zero, List.take_of_length_le (by omega)]
theorem appK_zero {z bytes elem : Nat} {h : Heap} {b o len cap : Nat} {x : Option Blk} {new : List Value} (hl : len ≤ cap) : appK z bytes elem h b o len cap x 0 (some new) = some (.slice (some ⟨b, o, none⟩) len cap, h) := by
  unfold appK
  simp only [if_true]
  rw [if_pos (by omega)]
theorem appN_zero {z bytes elem : Nat} {h : Heap} {new : List Value} : appN z bytes elem h 0 (some new) = some (.slice none 0 0, h) := rfl
theorem appN_some {z bytes elem : Nat} {h : Heap} {n : Nat} {new : List Value} (hn : 0 < n) (hb : n * bytes ≤ 68719476736) (hl : n ≤ 68719476736) : appN z bytes elem h n (some new) = some (.slice (some ⟨h.next, 0, none⟩) n n, h.new (.cells new true (some (z, elem)))) := by
  unfold appN
  simp only
  rw [if_neg (by omega), if_neg (by omega)]
/-! ## Slices of slices -/
theorem boundsV_lh {q q' : IntKind} {x y : Int} {len cap : Nat} (h0 : 0 ≤ x) (h1 : x ≤ y) (h2 : y ≤ cap) : boundsV len cap (some (.int q x)) (some (.int q' y)) none = some (x.toNat, y.toNat, cap) := by
  unfold boundsV mxB hiB loB
  simp only [Option.bind_some]
  rw [boundV_ok (by omega) h2]
  simp only [Option.bind_some]
  rw [boundV_ok h0 (by omega)]
  rfl
theorem boundsV_l {q : IntKind} {x : Int} {len cap : Nat} (h0 : 0 ≤ x) (h1 : x ≤ len) : boundsV len cap (some (.int q x)) none none = some (x.toNat, len, cap) := by
  unfold boundsV mxB hiB loB
  simp only [Option.bind_some, Option.isSome_none, Bool.false_eq_true, if_false]
  rw [boundV_ok h0 h1]
  rfl
theorem boundsV_h {q : IntKind} {y : Int} {len cap : Nat} (h0 : 0 ≤ y) (h1 : y ≤ cap) : boundsV len cap none (some (.int q y)) none = some (0, y.toNat, cap) := by
  unfold boundsV mxB hiB loB
  simp only [Option.bind_some]
  rw [boundV_ok h0 h1]
  rfl
theorem boundsV_0 {len cap : Nat} : boundsV len cap none none none = some (0, len, cap) := rfl
theorem boundsV_lhm {q q' q2 : IntKind} {x y m : Int} {len cap : Nat} (h0 : 0 ≤ x) (h1 : x ≤ y) (h2 : y ≤ m) (h3 : m ≤ cap) : boundsV len cap (some (.int q x)) (some (.int q' y)) (some (.int q2 m)) = some (x.toNat, y.toNat, m.toNat) := by
  unfold boundsV mxB hiB loB
  simp only
  rw [boundV_ok (by omega) h3]
  simp only [Option.bind_some]
  rw [boundV_ok (by omega) (by omega)]
  simp only [Option.bind_some]
  rw [boundV_ok h0 (by omega)]
  rfl
def cutK (z b o : Nat) (x : Option Blk) (y : Option (Nat × Nat × Nat)) : Option Value := match y, x with
  | some (l, hi, m), some (.cells _ _ p) => if p = none ∨ p.map (·.1) = some z then some (.slice (some ⟨b, if m = l then o else o + l * z, none⟩) (hi - l) (m - l)) else none
  | _, _ => none
theorem cutK_closed {z b o : Nat} {cs : List Value} {wr : Bool} {l hi m : Nat} : cutK z b o (some (.cells cs wr none)) (some (l, hi, m)) = some (.slice (some ⟨b, if m = l then o else o + l * z, none⟩) (hi - l) (m - l)) := by
  unfold cutK; simp
theorem cutK_open {z b o e : Nat} {cs : List Value} {wr : Bool} {l hi m : Nat} : cutK z b o (some (.cells cs wr (some (z, e)))) (some (l, hi, m)) = some (.slice (some ⟨b, if m = l then o else o + l * z, none⟩) (hi - l) (m - l)) := by
  unfold cutK; simp
theorem slS {elem z bytes : Nat} (k : SlIs E t elem z bytes) {b o len cap : Nat} {lo hi mx : Option Value} {h : Heap} : orK (sliceV E t (.slice (some ⟨b, o, none⟩) len cap) lo hi mx) (sliceS E t (.slice (some ⟨b, o, none⟩) len cap) lo hi mx h) = cutK z b o (h.get b) (boundsV len cap lo hi mx) := by
  obtain ⟨⟨i, e, hi', hu, he, hz, hb, hzz⟩, hp⟩ := k
  have h1 : sliceV E t (.slice (some ⟨b, o, none⟩) len cap) lo hi mx = none := by
    unfold sliceV
    simp only [hi', Option.bind_eq_bind, Option.bind_some, hu]
  rw [h1]
  unfold sliceS cutK orK okSize
  simp only [hi', Option.bind_eq_bind, Option.bind_some, hu, he, hz, hp, if_false]
  cases boundsV len cap lo hi mx with
  | none => rfl
  | some y =>
    obtain ⟨l, hi, m⟩ := y
    simp only [Option.bind_some]
    have hadd : (if m = l then (⟨b, o, none⟩ : Addr) else (⟨b, o, none⟩ : Addr).add (l * z)) = ⟨b, if m = l then o else o + l * z, none⟩ := by
      split
      · rfl
      · exact add_at _ _ _
    rw [hadd]
    cases h.get b with
    | none => simp
    | some y =>
      cases y with
      | cells cs wr p =>
        cases p with
        | none => simp
        | some p => simp
      | _ => simp
def cut0 (y : Option (Nat × Nat × Nat)) : Option Value := match y with
  | some (l, hi, m) => if m = l then some (.slice none (hi - l) (m - l)) else none
  | none => none
theorem slN {elem z bytes : Nat} (k : SlIs E t elem z bytes) {len cap : Nat} {lo hi mx : Option Value} {h : Heap} : orK (sliceV E t (.slice none len cap) lo hi mx) (sliceS E t (.slice none len cap) lo hi mx h) = cut0 (boundsV len cap lo hi mx) := by
  obtain ⟨⟨i, e, hi', hu, he, hz, hb, hzz⟩, hp⟩ := k
  have h1 : sliceV E t (.slice none len cap) lo hi mx = none := by
    unfold sliceV
    simp only [hi', Option.bind_eq_bind, Option.bind_some, hu]
  rw [h1]
  unfold sliceS cut0 orK
  simp only [hi', Option.bind_eq_bind, Option.bind_some, hu, he, hz, hp, if_false]
  cases boundsV len cap lo hi mx <;> rfl
/-! ## What is known of a type's literals -/
def fillK (place : Nat → Option (Nat × Nat)) (cs : List Value) (r : List (Nat × Value)) : Option (List Value) := fillV place cs r
theorem fill_nil (place : Nat → Option (Nat × Nat)) (cs : List Value) : fillV place cs [] = some cs := by rw [fillV]
theorem fill_cons {place : Nat → Option (Nat × Nat)} {cs : List Value} {i off size : Nat} {v : Value} {r : List (Nat × Value)} (hp : place i = some (off, size)) (hl : (cellsOf v).length = size) (ho : off + size ≤ cs.length) :
    fillV place cs ((i, v) :: r) = fillV place (splice cs off (cellsOf v)) r := by
  rw [fillV]
  simp only [hp]
  rw [if_pos ⟨hl, ho⟩]
theorem cells_int (k : IntKind) (n : Int) : cellsOf (.int k n) = [.int k n] := rfl
theorem cells_bool (b : Bool) : cellsOf (.bool b) = [.bool b] := rfl
theorem cells_str (s : ByteArray) : cellsOf (.string s) = [.string s] := rfl
theorem cells_ptr (a : Option Addr) : cellsOf (.pointer a) = [.pointer a] := rfl
theorem cells_slice (a : Option Addr) (l c : Nat) : cellsOf (.slice a l c) = [.slice a l c] := rfl
theorem cells_map (a : Option Nat) : cellsOf (.map a) = [.map a] := rfl
theorem cells_func (f : Fn) (a c : Array Value) : cellsOf (.func f a c) = [.func f a c] := rfl
theorem cells_nilFunc : cellsOf .nilFunc = [.nilFunc] := rfl
theorem cells_iface (t : TypeId) (v : Value) : cellsOf (.iface t v) = [.iface t v] := rfl
theorem cells_nilIface : cellsOf .nilIface = [.nilIface] := rfl
theorem cells_agg (l : List Value) : cellsOf (.agg ⟨l⟩) = l := rfl
theorem one_int (k : IntKind) (n : Int) : oneCell (.int k n) = true := rfl
theorem one_bool (b : Bool) : oneCell (.bool b) = true := rfl
theorem one_str (s : ByteArray) : oneCell (.string s) = true := rfl
theorem one_ptr (a : Option Addr) : oneCell (.pointer a) = true := rfl
theorem one_slice (a : Option Addr) (l c : Nat) : oneCell (.slice a l c) = true := rfl
theorem one_map (a : Option Nat) : oneCell (.map a) = true := rfl
theorem one_func (f : Fn) (a c : Array Value) : oneCell (.func f a c) = true := rfl
theorem one_nilFunc : oneCell .nilFunc = true := rfl
theorem one_iface (t : TypeId) (v : Value) : oneCell (.iface t v) = true := rfl
theorem one_nilIface : oneCell .nilIface = true := rfl
theorem one_byte (l : List UInt8) : (l.map byteV).all oneCell = true := List.all_eq_true.2 fun x hx => by obtain ⟨b, _, rfl⟩ := List.mem_map.1 hx; rfl
theorem parts_eq (ev : Operand → Value) (l : List (Nat × Operand)) : partsV ev ⟨l⟩ = l.map fun p => (p.1, ev p.2) := rfl
end
end Go.Vi
namespace Go.Vi
/-- one cell is written. -/
def putB (h : Heap) (b o : Nat) (v : Value) (x : Option Blk) : Option Heap := match x with
  | some (.cells cs true p) => if o < cs.length then some (h.set b (.cells (cs.set o v) true p)) else none
  | _ => none
theorem putB_some (h : Heap) (b o : Nat) (v : Value) (cs : List Value) (p : Option (Nat × Nat)) : putB h b o v (some (.cells cs true p)) = if o < cs.length then some (h.set b (.cells (cs.set o v) true p)) else none := rfl
def putL (h : Heap) (b o n : Nat) (l : List Value) (x : Option Blk) : Option Heap := match x with
  | some (.cells cs true p) => if l.length = n ∧ l.all oneCell = true ∧ o + n ≤ cs.length then some (h.set b (.cells (splice cs o l) true p)) else none
  | _ => none
theorem putL_some (h : Heap) (b o n : Nat) (l cs : List Value) (p : Option (Nat × Nat)) : putL h b o n l (some (.cells cs true p)) = if l.length = n ∧ l.all oneCell = true ∧ o + n ≤ cs.length then some (h.set b (.cells (splice cs o l) true p)) else none := rfl
theorem splice_eq (cs : List Value) (o : Nat) (l : List Value) : splice cs o l = cs.take o ++ l ++ cs.drop (o + l.length) := rfl
section
variable {E : Env} {t : TypeId}
theorem stB (k : (E.ty t).map (fun i => i.size) = some 1) {b o : Nat} {h : Heap} {v : Value} (hv : oneCell v = true) : storeV E t (.pointer (some ⟨b, o, none⟩)) v h = putB h b o v (h.get b) := by
  rw [st1 k hv]
  cases h.get b with
  | none => rfl
  | some x =>
    cases x with
    | cells cs wr p =>
      cases wr with
      | false => rfl
      | true =>
        rw [putB_some]
        split
        · rename_i hl; rw [put1 hv hl]
        · rename_i hl
          exact if_neg (fun q => hl (by have := q.2; simp at this; omega))
    | _ => rfl
theorem stL {n : Nat} (k : (E.ty t).map (fun i => i.size) = some n) {b o : Nat} {h : Heap} {l : List Value} : storeV E t (.pointer (some ⟨b, o, none⟩)) (.agg ⟨l⟩) h = putL h b o n l (h.get b) := by
  obtain ⟨i, hi, he⟩ := Option.map_eq_some_iff.1 k
  have hc : cellsOf (.agg ⟨l⟩) = l := rfl
  unfold storeV ptrOf
  simp only [hi, Option.bind_eq_bind, Option.bind_some, Option.isNone_none, if_true, he, hc]
  by_cases h1 : l.length = n ∧ l.all oneCell = true
  · rw [if_pos h1, wrN_at _ _ _ _ h1.2]
    cases h.get b with
    | none => rfl
    | some x =>
      cases x with
      | cells cs wr p =>
        cases wr with
        | false => rfl
        | true =>
          rw [putL_some]
          unfold putAt
          simp only [h1.1, h1.2, true_and]
      | _ => rfl
  · rw [if_neg h1]
    cases h.get b with
    | none => rfl
    | some x =>
      cases x with
      | cells cs wr p =>
        cases wr with
        | false => rfl
        | true => rw [putL_some, if_neg (fun q => h1 ⟨q.1, q.2.1⟩)]
      | _ => rfl
end
/-! ## Literals -/
def fillG (pl : List (Nat × Nat)) (cs : List Value) (r : List (Nat × Value)) : Option (List Value) := fillV (fun i => pl[i]?) cs r
def fillG1 (pl : List (Nat × Nat)) (cs : List Value) (r : List (Nat × Value)) (l : List Value) (x : Option (Nat × Nat)) : Option (List Value) := match x with
  | some (off, size) => if l.length = size ∧ off + size ≤ cs.length then fillG pl (splice cs off l) r else none
  | none => none
theorem fillG_nil (pl : List (Nat × Nat)) (cs : List Value) : fillG pl cs [] = some cs := fill_nil _ _
theorem fillG_cons (pl : List (Nat × Nat)) (cs : List Value) (i : Nat) (v : Value) (r : List (Nat × Value)) : fillG pl cs ((i, v) :: r) = fillG1 pl cs r (cellsOf v) pl[i]? := by
  unfold fillG fillG1
  rw [fillV]
  simp only
  cases pl[i]? <;> rfl
theorem fillG1_some (pl : List (Nat × Nat)) (cs : List Value) (r : List (Nat × Value)) (l : List Value) (off size : Nat) : fillG1 pl cs r l (some (off, size)) = if l.length = size ∧ off + size ≤ cs.length then fillG pl (splice cs off l) r else none := rfl
def fillS (z : Nat) (cs : List Value) (r : List (Nat × Value)) : Option (List Value) := fillV (fun i => some (i * z, z)) cs r
theorem fillS_nil (z : Nat) (cs : List Value) : fillS z cs [] = some cs := fill_nil _ _
theorem fillS_cons (z : Nat) (cs : List Value) (i : Nat) (v : Value) (r : List (Nat × Value)) : fillS z cs ((i, v) :: r) = if (cellsOf v).length = z ∧ i * z + z ≤ cs.length then fillS z (splice cs (i * z) (cellsOf v)) r else none := by
  unfold fillS
  rw [fillV]
def aggK (x : Option (List Value)) : Option Value := match x with
  | some l => some (.agg ⟨l⟩)
  | none => none
theorem aggK_some (l : List Value) : aggK (some l) = some (.agg ⟨l⟩) := rfl
theorem build_of {E : Env} {t : TypeId} {pl : List (Nat × Nat)} {z : List Value} (h : ∀ ps, buildV E t ps = (fillV (fun i => pl[i]?) z ps).map aggOf) (ps : List (Nat × Value)) : buildV E t ps = aggK (fillG pl z ps) := by
  rw [h]
  unfold fillG
  cases fillV (fun i => pl[i]?) z ps <;> rfl
theorem buildA_of {E : Env} {t : TypeId} {n : Nat} {z : List Value} (h : ∀ ps, buildV E t ps = (fillV (fun i => some (i * n, n)) z ps).map aggOf) (ps : List (Nat × Value)) : buildV E t ps = aggK (fillS n z ps) := by
  rw [h]
  unfold fillS
  cases fillV (fun i => some (i * n, n)) z ps <;> rfl
def litK (n : Nat) (x : Option (List Value)) : Option (Blk × Mk) := match x with
  | some cs => some (.cells cs true none, .slice n n)
  | none => none
theorem litK_some (n : Nat) (cs : List Value) : litK n (some cs) = some (.cells cs true none, .slice n n) := rfl
theorem bslice_of {E : Env} {t : TypeId} {n z : Nat} {cs : List Value} (h : ∀ ps, bsliceK E t n ps = (fillV (fun i => some (i * z, z)) cs ps).bind fun cs => some (.cells cs true none, .slice n n)) (ps : List (Nat × Value)) : bsliceK E t n ps = litK n (fillS z cs ps) := by
  rw [h]
  unfold fillS
  cases fillV (fun i => some (i * z, z)) cs ps <;> rfl
theorem mk_ptr (id : Nat) : Mk.val .ptr id = .pointer (some ⟨id, 0, none⟩) := rfl
theorem mk_slice (l c id : Nat) : Mk.val (.slice l c) id = .slice (some ⟨id, 0, none⟩) l c := rfl
theorem mk_map (id : Nat) : Mk.val .map id = .map (some id) := rfl
theorem mks_ok {E : Env} {t elem z bytes : Nat} (k : SlIs E t elem z bytes) {v : Value} (hz : ∀ e, E.ty elem = some e → e.zero = some v) {q q' : IntKind} {l c : Int} (h0 : 0 ≤ l) (h1 : l ≤ c) (h2 : c < 4611686018427387904) (h3 : bytes * c ≤ 281474976710656) :
    mksliceK E t (.int q l) (.int q' c) = some (.cells (rep c.toNat (cellsOf v)) true none, .slice l.toNat c.toNat) := by
  obtain ⟨⟨i, e, hi, hu, he, hs, hb, hzz⟩, hp⟩ := k
  unfold mksliceK intOf
  simp only [hi, Option.bind_eq_bind, Option.bind_some, hu, he]
  rw [if_pos ⟨h0, h1, by omega, by rw [hb]; omega⟩]
  unfold zeros
  rw [hz e he] at hzz
  simp only [hz e he, Option.bind_eq_bind, Option.bind_some]
  have hl : (cellsOf v).length = e.size := by
    simp only [Option.map_some, Option.some.injEq] at hzz
    omega
  rw [if_pos hl]
  rfl
theorem rep_one (n : Nat) (v : Value) : rep n [v] = List.replicate n v := by
  unfold rep
  induction n with
  | zero => rfl
  | succ n ih => rw [List.replicate_succ, List.flatten_cons, ih, List.replicate_succ]; rfl
theorem ifo_pos {α : Sort _} {c : Prop} [Decidable c] {a b : α} (h : c) : (if c then a else b) = a := if_pos h
theorem ifo_neg {α : Sort _} {c : Prop} [Decidable c] {a b : α} (h : ¬ c) : (if c then a else b) = b := if_neg h
/-! ## Bytes and texts -/
def textC (x : Option (List Value)) : Option Value := match x with
  | some l => match unbytes l with
    | some b => some (.string (strOf b))
    | none => none
  | none => none
theorem unbytes_map (l : List UInt8) : unbytes (l.map byteV) = some l := by
  induction l with
  | nil => rfl
  | cons b l ih =>
    rw [List.map_cons, unbytes, ih]
    have : unbyte (byteV b) = some b := by
      unfold unbyte byteV
      simp only
      congr 1
      simp
    rw [this]
theorem textC_bytes (l : List UInt8) : textC (some (l.map byteV)) = some (.string (strOf l)) := by
  unfold textC
  simp only [unbytes_map]
section
variable {E : Env} {s d e : TypeId}
structure BtIs (E : Env) (s d e : TypeId) : Prop where
  s : (E.ty s).map (·.under) = some (.slice e)
  d : (E.ty d).map (·.under) = some .string
  e : (E.ty e).map (·.under) = some (.int .u8)
theorem text_cells (k : BtIs E s d e) (b o len cap : Nat) (h : Heap) :
    orK (atH h (orK (convV E s d (.slice (some ⟨b, o, none⟩) len cap)) (convR E s d (.slice (some ⟨b, o, none⟩) len cap) h))) (newK h (convN E s d (.slice (some ⟨b, o, none⟩) len cap))) = atH h (textC (cellsAt (h.get b) o len)) := by
  obtain ⟨i, hi, hu⟩ := Option.map_eq_some_iff.1 k.s
  obtain ⟨j, hj, hv⟩ := Option.map_eq_some_iff.1 k.d
  obtain ⟨q, hq, hw⟩ := Option.map_eq_some_iff.1 k.e
  unfold convV convR convN textC
  simp only [hi, hj, Option.bind_eq_bind, Option.bind_some, hu, hv, hq, hw, rdN_at]
  cases cellsAt (h.get b) o len with
  | none => rfl
  | some l =>
    simp only [Option.bind_some]
    cases unbytes l <;> rfl
theorem text_none (k : BtIs E s d e) (l c : Nat) (h : Heap) :
    orK (atH h (orK (convV E s d (.slice none l c)) (convR E s d (.slice none l c) h))) (newK h (convN E s d (.slice none l c))) = some (.string (strOf []), h) := by
  obtain ⟨i, hi, hu⟩ := Option.map_eq_some_iff.1 k.s
  obtain ⟨j, hj, hv⟩ := Option.map_eq_some_iff.1 k.d
  obtain ⟨q, hq, hw⟩ := Option.map_eq_some_iff.1 k.e
  unfold convV convR convN
  simp only [hi, hj, Option.bind_eq_bind, Option.bind_some, hu, hv, hq, hw]
  rfl
end
def dTy : Ty := { under := .bool, agg := false, size := 0, bytes := 0, zero := none, eqg := false, held := false, cmp := false, places := none }
noncomputable def dFun : Fun := ⟨default, .skip, fun _ => none⟩
end Go.Vi
namespace Go.Vi
/-- what was there stands. -/
structure Grow (h h' : Heap) : Prop where
  next : h.next ≤ h'.next
  get : ∀ b, b < h.next → h'.get b = h.get b
theorem Grow.refl (h : Heap) : Grow h h := ⟨Nat.le_refl _, fun _ _ => rfl⟩
theorem Grow.trans {a b c : Heap} (h : Grow a b) (k : Grow b c) : Grow a c := ⟨Nat.le_trans h.next k.next, fun x hx => (k.get x (Nat.lt_of_lt_of_le hx h.next)).trans (h.get x hx)⟩
theorem Grow.new (h : Heap) (o : Blk) : Grow h (h.new o) := ⟨Nat.le_succ _, fun b hb => get_new_ne (by omega)⟩
theorem Grow.set {a h : Heap} (k : Grow a h) {b : Nat} (hb : a.next ≤ b) (o : Blk) : Grow a (h.set b o) := ⟨k.next, fun x hx => (get_set_ne (by omega)).trans (k.get x hx)⟩
theorem Grow.kill {a h : Heap} (k : Grow a h) {b : Nat} (hb : a.next ≤ b) : Grow a (h.kill b) := ⟨k.next, fun x hx => (get_kill_ne (by omega)).trans (k.get x hx)⟩
theorem Grow.more {a h : Heap} (k : Grow a h) (o : Blk) : Grow a (h.new o) := k.trans (.new h o)
section
variable {E : Env} {t : TypeId}
theorem rangeT (k : (E.ty t).map (fun i => i.under) = some .string) (s : ByteArray) (h : Heap) : rangeV E t (.string s) h = some (.pointer (some ⟨h.next, 0, none⟩), h.new (.sit s 0)) := by
  obtain ⟨i, hi, hu⟩ := Option.map_eq_some_iff.1 k
  unfold rangeV
  simp only [hi, Option.bind_eq_bind, Option.bind_some, hu]
def nextK (h : Heap) (r : Nat) (x : Option Blk) : Option (Value × Heap) := match x with
  | some (.sit s pos) => if pos < s.size then some (.tuple ⟨[.bool true, .int .i64 pos, .int .i32 (Utf8.decode s pos).1]⟩, h.set r (.sit s (pos + (Utf8.decode s pos).2))) else some (.tuple ⟨[.bool false]⟩, h)
  | _ => none
theorem nextT (r : Nat) (h : Heap) : nextV (.pointer (some ⟨r, 0, none⟩)) true h = nextK h r (h.get r) := by
  unfold nextV nextK
  simp only
  cases h.get r with
  | none => rfl
  | some x =>
    cases x with
    | sit s pos => rfl
    | mit m a b c => cases m <;> rfl
    | _ => rfl
theorem nextK_end (h : Heap) (r : Nat) (l : List UInt8) : nextK h r (some (.sit (strOf l) l.length)) = some (.tuple ⟨[.bool false]⟩, h) := by
  unfold nextK
  simp only
  rw [if_neg]
  rw [size_of]; omega
theorem nextK_ascii (h : Heap) (r : Nat) {l : List UInt8} {pos : Nat} {c : UInt8} (hc : l[pos]? = some c) (ha : c.toNat < 128) :
    nextK h r (some (.sit (strOf l) pos)) = some (.tuple ⟨[.bool true, .int .i64 pos, .int .i32 c.toNat]⟩, h.set r (.sit (strOf l) (pos + 1))) := by
  obtain ⟨hlt, rfl⟩ := List.getElem?_eq_some_iff.1 hc
  have hs : pos < (strOf l).size := by rw [size_of]; exact hlt
  have he : (strOf l)[pos]'hs = l[pos] := rfl
  unfold nextK
  simp only
  rw [if_pos hs, decode_ascii _ pos hs (by rw [he]; exact ha), he]
  rfl
theorem nextK_high (h : Heap) (r : Nat) {l : List UInt8} {pos : Nat} {c : UInt8} (hc : l[pos]? = some c) (ha : 128 ≤ c.toNat) :
    ∃ x w : Nat, 128 ≤ x ∧ x ≤ 2147483647 ∧ nextK h r (some (.sit (strOf l) pos)) = some (.tuple ⟨[.bool true, .int .i64 pos, .int .i32 x]⟩, h.set r (.sit (strOf l) (pos + w))) := by
  obtain ⟨hlt, rfl⟩ := List.getElem?_eq_some_iff.1 hc
  have hs : pos < (strOf l).size := by rw [size_of]; exact hlt
  have he : (strOf l)[pos]'hs = l[pos] := rfl
  have hh := decode_high (strOf l) pos hs (by rw [he]; exact ha)
  refine ⟨(Utf8.decode (strOf l) pos).1, (Utf8.decode (strOf l) pos).2, hh.1, decode_le _ _, ?_⟩
  unfold nextK
  simp only
  rw [if_pos hs]
end
end Go.Vi
namespace Go.Vi
def blkOf : Value → Option Nat
  | .slice (some a) _ _ => some a.block
  | .pointer (some a) => some a.block
  | _ => none
/-- a row that append has made since h0. -/
def Own (h0 h : Heap) (z elem : Nat) (d : Value) (l : List Value) : Prop :=
  (d = .slice none 0 0 ∧ l = []) ∨ ∃ b n, d = .slice (some ⟨b, 0, none⟩) n n ∧ 0 < n ∧ n * z = l.length ∧ h0.next ≤ b ∧ b < h.next ∧ h.get b = some (.cells l true (some (z, elem)))
theorem Own.nil (h0 h : Heap) (z elem : Nat) : Own h0 h z elem (.slice none 0 0) [] := .inl ⟨rfl, rfl⟩
theorem Own.grow {h0 h h' : Heap} {z elem : Nat} {d : Value} {l : List Value} (o : Own h0 h z elem d l) (g : Grow h h') : Own h0 h' z elem d l := by
  rcases o with o | ⟨b, n, hd, hn, hl, hb, hb2, hg⟩
  · exact .inl o
  · exact .inr ⟨b, n, hd, hn, hl, hb, Nat.lt_of_lt_of_le hb2 g.next, by rw [g.get b hb2]; exact hg⟩
theorem Own.keep {h0 h h' : Heap} {z elem : Nat} {d : Value} {l : List Value} (o : Own h0 h z elem d l) (hn : h.next ≤ h'.next) (g : ∀ b, blkOf d = some b → h'.get b = h.get b) : Own h0 h' z elem d l := by
  rcases o with o | ⟨b, n, hd, hp, hl, hb, hb2, hg⟩
  · exact .inl o
  · exact .inr ⟨b, n, hd, hp, hl, hb, Nat.lt_of_lt_of_le hb2 hn, by rw [g b (by rw [hd]; rfl)]; exact hg⟩
theorem Own.since {h0 h1 h : Heap} {z elem : Nat} {d : Value} {l : List Value} (o : Own h1 h z elem d l) (g : h0.next ≤ h1.next) : Own h0 h z elem d l := by
  rcases o with o | ⟨b, n, hd, hn, hl, hb, hb2, hg⟩
  · exact .inl o
  · exact .inr ⟨b, n, hd, hn, hl, Nat.le_trans g hb, hb2, hg⟩
theorem Own.lt {h0 h : Heap} {z elem : Nat} {d : Value} {l : List Value} (o : Own h0 h z elem d l) {b : Nat} (hb : blkOf d = some b) : h0.next ≤ b ∧ b < h.next := by
  rcases o with ⟨rfl, _⟩ | ⟨c, n, rfl, _, _, h1, h2, _⟩
  · cases hb
  · cases hb; exact ⟨h1, h2⟩
section
variable {E : Env} {t elem z bytes : Nat}
theorem own_app (k : SlIs E t elem z bytes) {xt : TypeId} (hx : okSrc E (some xt) = some true) {h0 h : Heap} {d : Value} {l : List Value} (o : Own h0 h z elem d l) (g : Grow h0 h) {b2 o2 n c2 : Nat} {new : List Value}
    (hs : cellsAt (h.get b2) o2 (n * z) = some new) (hn : 0 < n) (hall : new.all oneCell = true) (hl : l.length + new.length ≤ 1000000000) (hb : bytes ≤ 60) :
    ∃ d' h', appendV E t (some xt) d (.slice (some ⟨b2, o2, none⟩) n c2) h = some (d', h') ∧ Own h0 h' z elem d' (l ++ new) ∧ Grow h0 h' ∧ h'.next = h.next + 1 ∧ blkOf d' = some h.next ∧ ∀ c, c < h.next → blkOf d ≠ some c → h'.get c = h.get c := by
  have hp := k.pos
  have hlen : new.length = n * z := by
    unfold cellsAt at hs
    split at hs
    · split at hs
      · cases hs; simp only [List.length_take, List.length_drop]; omega
      · cases hs
    · cases hs
  have hnz : n ≤ n * z := Nat.le_mul_of_pos_right _ (by omega)
  have hn0 : ¬ n = 0 := by omega
  have hbn : ∀ m : Nat, m ≤ 1000000000 → m * bytes ≤ 68719476736 := fun m hm => by
    have := Nat.mul_le_mul hm hb
    omega
  rcases o with ⟨rfl, rfl⟩ | ⟨b, m, rfl, hm, hml, hb0, hb1, hg⟩
  · refine ⟨.slice (some ⟨h.next, 0, none⟩) n n, h.new (.cells new true (some (z, elem))), ?_, .inr ⟨h.next, n, rfl, hn, by simp [hlen], g.next, Nat.lt_succ_self _, get_new_same _ _⟩, g.more _, rfl, rfl, fun c hc _ => get_new_ne (by omega)⟩
    rw [app0_row k hx, if_neg hn0, hs, okB_some hlen hall, appN_some hn (hbn _ (by simp at hl; omega)) (by simp at hl; omega)]
  · have hmz : m ≤ m * z := Nat.le_mul_of_pos_right _ (by omega)
    refine ⟨.slice (some ⟨h.next, 0, none⟩) (m + n) (m + n), (h.new (.cells (l ++ new) true (some (z, elem)))).kill b, ?_, .inr ⟨h.next, m + n, rfl, by omega, by rw [Nat.add_mul, List.length_append]; omega, g.next, Nat.lt_succ_self _, ?_⟩, (g.more _).kill hb0, rfl, rfl, fun c hc hne => ?_⟩
    · rw [app_row k hx, if_neg hn0, hs, okB_some hlen hall, hg, appK_own hn hml (hbn _ (by omega)) (by omega)]
    · rw [get_kill_ne (by omega), get_new_same]
    · have hcb : c ≠ b := fun e => hne (by rw [e]; rfl)
      rw [get_kill_ne hcb, get_new_ne (by omega)]
end
end Go.Vi
namespace Go.Vi
/-- a world's elder part stands. -/
def KeptW (w w' : World) : Prop := w'.os = w.os ∧ w'.output = w.output ∧ w.heap.size ≤ w'.heap.size ∧ ∀ k, k < w.heap.size → w'.heap[k]? = w.heap[k]?
theorem KeptW.refl (w : World) : KeptW w w := ⟨rfl, rfl, Nat.le_refl _, fun _ _ => rfl⟩
theorem KeptW.trans {a b c : World} (h : KeptW a b) (k : KeptW b c) : KeptW a c := ⟨k.1.trans h.1, k.2.1.trans h.2.1, Nat.le_trans h.2.2.1 k.2.2.1, fun i hi => (k.2.2.2 i (Nat.lt_of_lt_of_le hi h.2.2.1)).trans (h.2.2.2 i hi)⟩
theorem KeptW.may {w w' : World} (h : KeptW w w') (may : MemPlace → Prop) : w.keptBut w' may := ⟨h.1, h.2.1, fun i hi => by
  rw [h.2.2.2 i hi]
  split <;> simp_all⟩
/-- what is known of some blocks that no step touches. -/
def knownOf (n : Nat) (I : World → Prop) (hI : ∀ w w' : World, (∀ g, g < n → w'.heap[g]? = w.heap[g]?) → I w → I w') : Known where
  is ρ w := I w ∧ n ≤ w.heap.size ∧ ∀ g, g < n → ∀ b i, ρ b = some i → i.blk ≠ g
  keep := by
    intro ρ ρ' w w' e grow fr fromN ⟨hi, hn, hg⟩
    refine ⟨hI w w' (fun g h => fr g (by omega) (hg g h)) hi, by omega, fun g h b i hb => ?_⟩
    cases hq : ρ b with
    | some j => have := e _ _ hq; rw [hb] at this; cases this; exact hg g h b _ hq
    | none =>
      rcases fromN b i hq hb with h1 | ⟨c, j, hc, he⟩
      · omega
      · rw [← he]; exact hg g h c j hc
  down := fun ⟨a, b, _⟩ => ⟨a, b, fun _ _ _ _ h => nomatch h⟩
/-- a contract of plain values, which leaves what was there. -/
theorem ext_kept {K : Known} {P : Program} {f : FuncId} {g : List Value → Heap → Option (Value × Heap)} (hE : Enters P f)
    (hg : ∀ args h v h', g args h = some (v, h') → h' = h ∧ args.all (plainB 100) = true ∧ plainB 100 v = true ∧ ∀ ρ w, K.is ρ w → Calls P f ⟨args⟩ w fun e w' => e = .returned v ∧ KeptW w w') : ExtOk K P f g := by
  intro args h v h' hm
  obtain ⟨rfl, hp, hv, hc⟩ := hg _ _ _ _ hm
  refine ⟨hE, Nat.le_refl _, fun ρ w args' gd _ hargs => ?_⟩
  have ha : args' = ⟨args⟩ := by
    apply Array.ext'
    exact plains_inv (n := 100) (fun v v' => plain_inv 100 v v') args _ hp hargs
  subst ha
  refine (hc ρ w gd.known).mono ?_
  rintro e w' ⟨rfl, k1, k2, k3, k4⟩
  obtain ⟨g2, s2⟩ := step_grow gd ⟨k3, k1, k2⟩ k4
  exact ⟨ρ, v, rfl, plain_rel 100 v hv, g2, s2⟩
theorem entersV {P : Program} {f : FuncId} {fn : Func} (hf : P.funcs[f]? = some fn) (hn : (fn.name == "runtime.NumGoroutine") = false) (hb : fn.body.isSome = true) : Enters P f :=
  ⟨fn, hf, fun e => by rw [e] at hn; exact absurd hn (by decide), fun e => by rw [e] at hb; exact absurd hb (by decide)⟩
/-- plain arguments, a plain answer. -/
theorem calls_ret {K : Known} {P : Program} {E : Env} (ok : EnvOk K P E) {f : FuncId} (hr : E.row f = none) {args : List Value} {v : Value} (hp : args.all (plainB 100) = true) (hq : plainB 100 v = true) (r : Ret E f args h0 fun u _ => u = v) (w : World)
    (kn : K.is (fun _ => none) w) : Calls P f ⟨args⟩ w fun e w' => e = .returned v ∧ KeptW w w' := by
  obtain ⟨n, u, h', hv, rfl⟩ := r.callV hr
  refine ((call_ok ok n).calls f args h0 _ h' hv (fun _ => none) w ⟨args⟩ (good0' kn) (fun _ _ _ => rfl) (plain_rels (fun v => plain_rel 100 v) args hp)).mono ?_
  rintro e w' ⟨ρ', v', rfl, rv, g', s⟩
  have := plain_inv 100 _ _ hq rv
  subst this
  exact ⟨rfl, s.side.1, s.side.2, s.grow, fun k hk => s.rframe k hk (fun _ _ h => (nomatch h))⟩
end Go.Vi
namespace Go.Vi
theorem slice_real {K : Known} {ρ : Map} {h : Heap} {w : World} (gd : Good K ρ h w) {b o n c : Nat} {cs : List Value} {wr : Bool} {p : Option (Nat × Nat)} {v' : Value} (hget : h.get b = some (.cells cs wr p)) (hn : o + n ≤ cs.length)
    (hv : VRel ρ (.slice (some ⟨b, o, none⟩) n c) v') :
    ∃ B o' c', v' = .slice (some ⟨B, o', none⟩) n c' ∧ n ≤ c' ∧ B < w.heap.size ∧ ∀ (j : Nat) (v : Value), j < n → cs[o + j]? = some v → plainB 100 v = true → w.cell? ⟨B, o' + j, none⟩ = some v := by
  cases hv with
  | slice _ _ _ _ i o' c' hi hl ho hc hnn hr =>
    refine ⟨i.blk, o', c', rfl, by omega, gd.lt _ _ hi, fun j v hj hcs hp => ?_⟩
    have ho' : o' = i.base + o := by
      rcases ho with ho | ⟨h0, _⟩
      · exact ho
      · omega
    obtain ⟨l', rel, hlen, hall⟩ := rd_real gd (a := ⟨b, o, none⟩) (n := n) (l := (cs.drop o).take n) hi (by rw [rdN_at, hget, cellsAt_some, if_pos hn]) o' ho'
    have hj' : ((cs.drop o).take n)[j]? = some v := by
      rw [List.getElem?_take, if_pos hj, List.getElem?_drop]
      exact hcs
    obtain ⟨u, hu, hru⟩ := rel.get hj'
    have := plain_inv 100 _ _ hp hru
    subst this
    have := hall j u hu
    rwa [add_at] at this
/-- a row that a call has made: the world has grown by it alone. -/
theorem post_row {K : Known} {ρ : Map} {h : Heap} {w : World} (gd : Good K ρ h w) {l : List Value} {t : TypeId} (hp : l.all (plainB 100) = true) (hw : ρ h.next = none) :
    Post K ρ h w (.slice (some ⟨h.next, 0, none⟩) l.length l.length) (h.new (.cells l true none)) (.returned (.slice (some ⟨w.heap.size, 0, none⟩) l.length l.length)) (w.alloc (.cells l.toArray t)) := by
  have rel : VRels (upd ρ h.next { blk := w.heap.size, base := 0, opn := none, tot := l.length }) l l := plain_rels (fun v => plain_rel 100 v) l hp
  obtain ⟨g', s'⟩ := step_new (o := .cells l true none) (i := { blk := w.heap.size, base := 0, opn := none, tot := l.length }) (w' := w.alloc (.cells l.toArray t)) gd hw rfl ⟨by rw [World.size_alloc], rfl, rfl⟩
    (fun r hr => alloc_old w _ r hr) ⟨rfl, l.toArray, t, (0, 0), alloc_new w _, by simp, by simp, by simpa using rel, fun _ j _ _ hh => by simp at hh, fun z hz => by cases hz⟩
  exact ⟨_, _, rfl, .slice _ _ _ _ _ _ _ upd_self (Nat.le_refl _) (.inl (by simp)) (Nat.le_refl _) (fun _ => rfl) (fun z hz => by cases hz), g', s'⟩
end Go.Vi
namespace Go.Vi
def vq0 := And.intro @r_skip <| And.intro @r_exit <| And.intro @r_ret <| And.intro @r_seq <| And.intro @r_cond <| And.intro @r_block <| And.intro @r_list <| And.intro @r_drawn <| And.intro @seqQ_normal <| And.intro @seqQ_exit <| And.intro @seqQ_ret <| And.intro @blockQ_normal <| And.intro @blockQ_exit <| And.intro @blockQ_ret <| And.intro @condQ_true <| And.intro @condQ_false <| And.intro @loopQ_normal <| And.intro @loopQ_exit <| And.intro @loopQ_ret <| And.intro @endQ_normal <| And.intro @endQ_ret <| And.intro @retK_some <| And.intro @res_nil <| And.intro @res_tmp <| And.intro @res_cell <| And.intro @consR_some <| And.intro @l_nil <| And.intro @l_guard <| And.intro @l_move <| And.intro @l_assign <| And.intro @l_pick <| And.intro @l_bin <| And.intro @l_un <| And.intro @l_build <| And.intro @l_nilCheck <| And.intro @l_makeI <| And.intro @l_makeF <| And.intro @l_fieldAddr <| And.intro @l_field <| And.intro @l_indexAddr <| And.intro @l_index <| And.intro @l_assert <| And.intro @l_extract <| And.intro @l_load <| And.intro @l_lookup <| And.intro @l_store <| And.intro @l_mapUpdate <| And.intro @l_insert <| And.intro @l_mapEntry <| And.intro @l_entryStore <| And.intro @l_alloc <| And.intro @l_box <| And.intro @l_bslice <| And.intro @l_mkslice <| And.intro @l_mkmap <| And.intro @l_slice <| And.intro @l_call <| And.intro @l_callt <| And.intro @l_len <| @l_cap
def vq1 := And.intro @l_min <| And.intro @l_max <| And.intro @l_append <| And.intro @l_copy <| And.intro @l_clear <| And.intro @l_delete <| And.intro @l_range <| And.intro @l_next <| And.intro @l_entry <| And.intro @l_same <| And.intro @hvq <| And.intro @sa_nil <| And.intro @sa_cons <| And.intro @d_nil <| And.intro @d_guard <| And.intro @d_move <| And.intro @d_assign <| And.intro @d_pick <| And.intro @d_bin <| And.intro @d_un <| And.intro @d_build <| And.intro @d_nilCheck <| And.intro @d_fieldAddr <| And.intro @d_field <| And.intro @d_indexAddr <| And.intro @d_index <| And.intro @d_extract <| And.intro @d_makeI <| And.intro @d_load <| And.intro @d_lookup <| And.intro @d_store <| And.intro @d_alloc <| And.intro @d_box <| And.intro @d_bslice <| And.intro @d_mkslice <| And.intro @d_append <| And.intro @d_copy <| And.intro @d_call <| And.intro @d_len <| And.intro @d_slice <| And.intro @dlenQ_some <| And.intro @dsliceQ_some <| And.intro @dsliceQ_none <| And.intro @dvalQ_some <| And.intro @dreadQ_some <| And.intro @dresQ_some <| And.intro @dcallQ_eq <| And.intro @dwantQ_true <| And.intro @dwantQ_false <| And.intro @seen_load <| And.intro @seen_lookup <| And.intro @seen_slice <| And.intro @seenAt_zero <| And.intro @seenAt_succ <| And.intro @same_some <| And.intro @veqN_int <| And.intro @veqN_bool <| And.intro @veqN_str <| And.intro @veqN_ptr <| @veqN_slice
def vq2 := And.intro @veqN_map <| And.intro @veqN_nilI <| And.intro @veqN_nilF <| And.intro @veqN_iface <| And.intro @veqN_agg <| And.intro @veqs_nil <| And.intro @veqs_cons <| And.intro @resQ_some <| And.intro @valQ_some <| And.intro @heapQ_some <| And.intro @newQ_some <| And.intro @callQ_eq <| And.intro @funQ_func <| And.intro @wantQ_true <| And.intro @wantQ_false <| And.intro @putH_some <| And.intro @putH_none <| And.intro @up_at <| And.intro @selK_true <| And.intro @selK_false <| And.intro @evH_tmp <| And.intro @evH_int <| And.intro @evH_bool <| And.intro @evH_str <| And.intro @evH_ptr0 <| And.intro @evH_slice0 <| And.intro @evH_map0 <| And.intro @evH_nilFunc <| And.intro @evH_nilIface <| And.intro @evH_func <| And.intro @isB_tt <| And.intro @isB_tf <| And.intro @isB_ft <| And.intro @isB_ff <| And.intro @isB_undef <| And.intro @isC_tmp <| And.intro @isC_const <| And.intro @atH_some <| And.intro @orK_some <| And.intro @orK_none <| And.intro @heapK_some <| And.intro @newK_some <| And.intro @bin_int <| And.intro @bin_str <| And.intro @un_not <| And.intro @un_neg <| And.intro @pick_true <| And.intro @pick_false <| And.intro @nil_ptr <| And.intro @nil_iface <| And.intro @nil_func <| And.intro @ext_0 <| And.intro @ext_1 <| And.intro @ext_2 <| And.intro @ext_3 <| And.intro @ot_one <| And.intro @ot_nil <| And.intro @ot_more <| And.intro @frA_at <| @map_toList
def vq3 := And.intro @parts_eq <| And.intro @mk_ptr <| And.intro @mk_slice <| And.intro @mk_map <| And.intro @wr64 <| And.intro @wr32 <| And.intro @wru8 <| And.intro @wru32 <| And.intro @wru64 <| And.intro @lss_t <| And.intro @lss_f <| And.intro @leq_t <| And.intro @leq_f <| And.intro @gtr_t <| And.intro @gtr_f <| And.intro @geq_t <| And.intro @geq_f <| And.intro @eql_t <| And.intro @eql_f <| And.intro @neq_t <| And.intro @neq_f <| And.intro @add64 <| And.intro @sub64 <| And.intro @mul64 <| And.intro @quo64 <| And.intro @rem64 <| And.intro @addu8 <| And.intro @subu8 <| And.intro @str_add <| And.intro @str_eql <| And.intro @str_neq <| And.intro @nextT <| And.intro @nextK_end <| And.intro @next_set <| And.intro @next_new <| And.intro @next_kill <| And.intro @get_set_k <| And.intro @get_new_k <| And.intro @get_kill_k <| And.intro @ifG_true <| And.intro @ifG_false <| And.intro @beqN_t <| And.intro @beqN_f <| And.intro @add_at <| And.intro @cellAt_some <| And.intro @cellsAt_some <| And.intro @aggO_some <| And.intro @putB_some <| And.intro @putL_some <| And.intro @splice_eq <| And.intro @okB_eq <| And.intro @appK_own <| And.intro @appK_lit <| And.intro @appK_zero <| And.intro @appN_zero <| And.intro @appN_some <| And.intro @boundsV_lh <| And.intro @boundsV_l <| And.intro @boundsV_h <| @boundsV_0
def vq4 := And.intro @boundsV_lhm <| And.intro @cutK_closed <| And.intro @cutK_open <| And.intro @fillG_nil <| And.intro @fillG_cons <| And.intro @fillG1_some <| And.intro @fillS_nil <| And.intro @fillS_cons <| And.intro @aggK_some <| And.intro @litK_some <| And.intro @cells_int <| And.intro @cells_bool <| And.intro @cells_str <| And.intro @cells_ptr <| And.intro @cells_slice <| And.intro @cells_map <| And.intro @cells_func <| And.intro @cells_nilFunc <| And.intro @cells_iface <| And.intro @cells_nilIface <| And.intro @cells_agg <| And.intro @one_int <| And.intro @one_bool <| And.intro @one_str <| And.intro @one_ptr <| And.intro @one_slice <| And.intro @one_map <| And.intro @one_func <| And.intro @one_nilFunc <| And.intro @one_iface <| And.intro @one_nilIface <| And.intro @one_byte <| And.intro @textC_bytes <| And.intro @rep_one <| And.intro @ifo_pos.{1} <| And.intro @ifo_neg.{1} <| And.intro @List.map_cons.{0, 0} <| And.intro @List.map_nil.{0, 0} <| And.intro @List.getD_cons_zero.{0} <| And.intro @List.getD_cons_succ.{0} <| And.intro @List.getElem?_cons_zero.{0} <| And.intro @List.getElem?_cons_succ.{0} <| And.intro @List.set_cons_zero.{0} <| And.intro @List.set_cons_succ.{0} <| And.intro @List.length_cons.{0} <| And.intro @List.length_nil.{0} <| And.intro @List.length_set.{0} <| And.intro @List.length_map.{0, 0} <| And.intro @List.all_cons.{0} <| And.intro @List.all_nil.{0} <| And.intro @List.take_succ_cons.{0} <| And.intro @List.take_zero.{0} <| And.intro @List.take_nil.{0} <| And.intro @List.drop_zero.{0} <| And.intro @List.drop_succ_cons.{0} <| And.intro @List.drop_nil.{0} <| And.intro @List.append_nil.{0} <| And.intro @List.nil_append.{0} <| And.intro @List.cons_append.{0} <| @Option.map_some.{0, 0}
def vq5 := And.intro @Option.map_none.{0, 0} <| And.intro @Option.bind_some.{0, 0} <| And.intro @Bool.and_self <| And.intro @Bool.and_true <| And.intro @Bool.true_and <| And.intro @Bool.and_false <| And.intro @Bool.false_and <| And.intro @Bool.not_true <| And.intro @Bool.not_false <| And.intro @Bool.or_true <| And.intro @Bool.true_or <| And.intro @Bool.or_false <| And.intro @Bool.false_or <| And.intro @beq_self_eq_true.{0} <| And.intro @bq_t <| And.intro @bq_f <| And.intro @Nat.zero_add <| And.intro @Nat.add_zero <| And.intro @Nat.mul_one <| And.intro @Nat.one_mul <| And.intro @Nat.zero_mul <| And.intro @Int.toNat_natCast <| And.intro @Int.toNat_zero <| And.intro @eq_self.{1} <| And.intro @ne_eq.{1} <| And.intro @not_true_eq_false <| And.intro @not_false_eq_true <| And.intro @and_self <| And.intro @and_true <| And.intro @true_and <| And.intro @if_true.{1} <| And.intro @if_false.{1} <| And.intro @Bool.true_eq_false <| And.intro @Bool.false_eq_true <| And.intro @true_or <| And.intro @or_true <| And.intro @false_or <| @or_false
end Go.Vi
