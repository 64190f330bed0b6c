/- Ms: diffs, in plain words: records, what a good diff is. Sh: sheets: rows that are given point by point. Pl: the plain law: two good diffs put together are a good diff, that makes of bytes what they make, one behind the other. Wr: numbers as bytes, and back; what is read of bytes. No program in sight. Ws: a diff's stream. No program in sight. Wp: a diff's stream, read. No program in sight. Bn: bundles, in plain words. No program in sight. Bp: rows of parts, rows of diffs. Bt: a bundle's stream, read. No program in sight. Bu: a good bundle is known by its stream. No program in sight. -/
import Derived.Test.YtdmakachnphddaaVgI
import Derived.Laws.BitsLemmas
open Go Go.Vi
namespace Go.Bm
structure Rec where
  at_ : Int
  len : Int
  zero : Bool
  data : List UInt8
  deriving DecidableEq
structure Dif where
  fr : Int
  to : Int
  recs : List Rec
  deriving DecidableEq
def goodR (to a : Int) (r : Rec) : Bool := decide (a ≤ r.at_ ∧ 1 ≤ r.len ∧ r.len ≤ to ∧ r.at_ ≤ to - r.len ∧ (r.data.length : Int) = if r.zero then 0 else r.len)
def goodL (to : Int) : Int → List Rec → Bool
  | _, [] => true
  | a, r :: rs => goodR to a r && goodL to (r.at_ + r.len) rs
def sizedB (n : Int) : Bool := decide (0 ≤ n ∧ n ≤ 4096)
def goodD (d : Dif) : Bool := sizedB d.fr && (sizedB d.to && goodL d.to 0 d.recs)
def in64 (n : Int) : Prop := -9223372036854775808 ≤ n ∧ n ≤ 9223372036854775807
structure RecOk (r : Rec) : Prop where
  at_ : in64 r.at_
  len : in64 r.len
structure DifOk (d : Dif) : Prop where
  fr : in64 d.fr
  to : in64 d.to
  recs : ∀ r ∈ d.recs, RecOk r
def recC (p : Rec × Value) : List Value := [.int .i64 p.1.at_, .int .i64 p.1.len, .bool p.1.zero, p.2]
def difC (d : Dif) (v : Value) : List Value := [.int .i64 d.fr, .int .i64 d.to, v]
theorem recC_len (p : Rec × Value) : (recC p).length = 4 := rfl
def DRow (h : Heap) (v : Value) (recs : List Rec) : Prop := ∃ items : List (Rec × Value), items.map (·.1) = recs ∧ RowV h 4 v (items.flatMap recC) ∧ ∀ p ∈ items, BRow h p.2 p.1.data
theorem DRow.grow {h h' : Heap} {v : Value} {recs : List Rec} (x : DRow h v recs) (g : Grow h h') : DRow h' v recs := by
  obtain ⟨items, h1, h2, h3⟩ := x
  exact ⟨items, h1, h2.grow g, fun p hp => RowV.grow (h3 p hp) g⟩
theorem DRow.nil (h : Heap) : DRow h (.slice none 0 0) [] := ⟨[], rfl, .nil h 4, fun _ h => nomatch h⟩
theorem DRow.one {h : Heap} {v : Value} {recs : List Rec} (x : DRow h v recs) : oneCell v = true := by
  obtain ⟨items, h1, h2, h3⟩ := x
  exact h2.one
theorem DRow.is {h : Heap} {v : Value} {recs : List Rec} (x : DRow h v recs) : ∃ a c, v = .slice a recs.length c := by
  obtain ⟨items, rfl, h2, h3⟩ := x
  obtain ⟨a, n, c, rfl, hn, _⟩ := h2.is
  rw [flat_len (fun p _ => recC_len p)] at hn
  rw [List.length_map]
  exact ⟨a, c, by rw [show n = items.length by omega]⟩
def DNew (base : Nat) (h : Heap) (v : Value) (recs : List Rec) : Prop := ∃ items : List (Rec × Value), items.map (·.1) = recs ∧ RowV h 4 v (items.flatMap recC) ∧ (∀ b, blkOf v = some b → base ≤ b) ∧ ∀ p ∈ items, BRow h p.2 p.1.data ∧ ∀ b, blkOf p.2 = some b → base ≤ b
theorem DNew.row {base : Nat} {h : Heap} {v : Value} {recs : List Rec} (x : DNew base h v recs) : DRow h v recs := by
  obtain ⟨items, h1, h2, _, h3⟩ := x
  exact ⟨items, h1, h2, fun p hp => (h3 p hp).1⟩
theorem DNew.set {base : Nat} {h : Heap} {v : Value} {recs : List Rec} (x : DNew base h v recs) {c : Nat} (hc : c < base) (o : Blk) : DNew base (h.set c o) v recs := by
  obtain ⟨items, h1, h2, h4, h3⟩ := x
  exact ⟨items, h1, RowV.keep h2 (Nat.le_refl _) fun b hb _ => get_set_ne (by have := h4 b hb; omega), h4, fun p hp => ⟨RowV.keep (h3 p hp).1 (Nat.le_refl _) fun b hb _ => get_set_ne (by have := (h3 p hp).2 b hb; omega), (h3 p hp).2⟩⟩
theorem DRow.elems {h : Heap} {v : Value} {recs : List Rec} (x : DRow h v recs) (hr : recs ≠ []) : ∃ b o c, v = .slice (some ⟨b, o, none⟩) recs.length c ∧ b < h.next ∧
    ∀ (i : Nat) (r : Rec), recs[i]? = some r → ∃ d, cellsAt (h.get b) (o + i * 4) 4 = some [.int .i64 r.at_, .int .i64 r.len, .bool r.zero, d] ∧ BRow h d r.data := by
  obtain ⟨items, rfl, h2, h3⟩ := x
  have hl := flat_len (z := 4) (f := recC) (xs := items) (fun p _ => recC_len p)
  have hp : 0 < items.length := List.length_pos_iff.2 fun e => hr (by rw [e]; rfl)
  obtain ⟨b, o, n, c, rfl, hb, hn, _, _⟩ := h2.elem (i := 0) (by omega) (by omega)
  have hni : n = items.length := by omega
  subst hni
  refine ⟨b, o, c, by rw [List.length_map], hb, fun i r hi => ?_⟩
  rw [List.getElem?_map] at hi
  obtain ⟨p, hpi, rfl⟩ := Option.map_eq_some_iff.1 hi
  have hil : i < items.length := (List.getElem?_eq_some_iff.1 hpi).1
  obtain ⟨b', o', n', c', he, _, _, _, hc⟩ := h2.elem (i := i) (by omega) (by omega)
  cases he
  rw [flat_elem (fun p _ => recC_len p) hpi] at hc
  exact ⟨p.2, hc, h3 p (List.mem_of_getElem? hpi)⟩
theorem goodR_of {to a : Int} {r : Rec} (h : goodR to a r = true) : a ≤ r.at_ ∧ 1 ≤ r.len ∧ r.len ≤ to ∧ r.at_ ≤ to - r.len ∧ (r.data.length : Int) = if r.zero then 0 else r.len := of_decide_eq_true h
theorem goodL_at {to : Int} : ∀ {a : Int} {rs : List Rec}, goodL to a rs = true → 0 ≤ a → ∀ r ∈ rs, 0 ≤ r.at_ ∧ 1 ≤ r.len ∧ r.at_ + r.len ≤ to ∧ (r.data.length : Int) = if r.zero then 0 else r.len
  | _, [], _, _, _, h => by cases h
  | a, r :: rs, h, ha, x, hx => by
    rw [goodL, Bool.and_eq_true] at h
    obtain ⟨g1, g2, g3, g4, g5⟩ := goodR_of h.1
    rcases List.mem_cons.1 hx with rfl | hx
    · exact ⟨by omega, g2, by omega, g5⟩
    · exact goodL_at h.2 (by omega) x hx
end Go.Bm
open Go Go.Vi
namespace Go.Bm
def tab (n : Nat) (f : Nat → Value) : List Value := (List.range n).map f
theorem tab_len (n : Nat) (f : Nat → Value) : (tab n f).length = n := by unfold tab; simp
theorem tab_get (n : Nat) (f : Nat → Value) {i : Nat} (h : i < n) : (tab n f)[i]? = some (f i) := by
  unfold tab
  rw [List.getElem?_map, List.getElem?_range h]
  rfl
theorem tab_congr {n : Nat} {f g : Nat → Value} (h : ∀ i, i < n → f i = g i) : tab n f = tab n g := by
  unfold tab
  exact List.map_congr_left fun i hi => h i (List.mem_range.1 hi)
theorem tab_set (n : Nat) (f : Nat → Value) (i : Nat) (v : Value) : (tab n f).set i v = tab n fun j => if j = i then v else f j := by
  refine List.ext_getElem? fun j => ?_
  rw [List.getElem?_set, tab_len]
  by_cases hj : j < n
  · rw [tab_get n _ hj]
    by_cases e : i = j
    · subst e; rw [if_pos rfl, if_pos hj, tab_get n _ hj, if_pos rfl]
    · rw [if_neg e, tab_get n _ hj, if_neg fun x => e x.symm]
  · by_cases e : i = j
    · subst e; rw [if_pos rfl, if_neg hj, List.getElem?_eq_none (by rw [tab_len]; omega)]
    · rw [if_neg e, List.getElem?_eq_none (by rw [tab_len]; omega), List.getElem?_eq_none (by rw [tab_len]; omega)]
structure Sheet (h : Heap) (b t s n : Nat) (S : Nat → Option UInt8) : Prop where
  hs : h.get b = some (.cells [.slice (some ⟨t, 0, none⟩) n n, .slice (some ⟨s, 0, none⟩) n n] true none)
  ht : h.get t = some (.cells (tab n fun j => .bool (S j).isSome) true none)
  hb : h.get s = some (.cells (tab n fun j => byteV ((S j).getD 0)) true none)
  ne : b ≠ t ∧ b ≠ s ∧ t ≠ s
  lt : b < h.next ∧ t < h.next ∧ s < h.next
structure But (x y : Nat) (h h' : Heap) : Prop where
  next : h.next ≤ h'.next
  get : ∀ c, c < h.next → c ≠ x → c ≠ y → h'.get c = h.get c
theorem But.refl (x y : Nat) (h : Heap) : But x y h h := ⟨Nat.le_refl _, fun _ _ _ _ => rfl⟩
theorem But.trans {x y : Nat} {a b c : Heap} (h : But x y a b) (k : But x y b c) : But x y a c := ⟨Nat.le_trans h.next k.next, fun z hz h1 h2 => (k.get z (Nat.lt_of_lt_of_le hz h.next) h1 h2).trans (h.get z hz h1 h2)⟩
theorem But.of {x y : Nat} {h h' : Heap} (g : Grow h h') : But x y h h' := ⟨g.next, fun c hc _ _ => g.get c hc⟩
theorem But.setx {x y : Nat} {a h : Heap} (k : But x y a h) (o : Blk) : But x y a (h.set x o) := ⟨k.next, fun c hc h1 h2 => (get_set_ne h1).trans (k.get c hc h1 h2)⟩
theorem But.grow {x y : Nat} {a h : Heap} (k : But x y a h) (hx : a.next ≤ x) (hy : a.next ≤ y) : Grow a h := ⟨k.next, fun c hc => k.get c hc (by omega) (by omega)⟩
theorem Sheet.tell {h : Heap} {b t s n : Nat} {S : Nat → Option UInt8} (x : Sheet h b t s n S) (i : Nat) (c : UInt8) :
    Sheet ((h.set t (.cells ((tab n fun j => .bool (S j).isSome).set i (.bool true)) true none)).set s (.cells ((tab n fun j => byteV ((S j).getD 0)).set i (byteV c)) true none)) b t s n (fun j => if j = i then some c else S j) := by
  obtain ⟨n1, n2, n3⟩ := x.ne
  refine ⟨?_, ?_, ?_, x.ne, x.lt⟩
  · rw [get_set_ne n2, get_set_ne n1]; exact x.hs
  · rw [get_set_ne n3, get_set_same, tab_set]
    congr 2
    refine tab_congr fun j _ => ?_
    by_cases e : j = i
    · rw [if_pos e, if_pos e]; rfl
    · rw [if_neg e, if_neg e]
  · rw [get_set_same, tab_set]
    congr 2
    refine tab_congr fun j _ => ?_
    by_cases e : j = i
    · rw [if_pos e, if_pos e]; rfl
    · rw [if_neg e, if_neg e]
theorem Sheet.congr {h : Heap} {b t s n : Nat} {S S' : Nat → Option UInt8} (x : Sheet h b t s n S) (e : ∀ j, j < n → S j = S' j) : Sheet h b t s n S' := by
  refine ⟨x.hs, ?_, ?_, x.ne, x.lt⟩
  · rw [x.ht]; congr 2; exact tab_congr fun j hj => by rw [e j hj]
  · rw [x.hb]; congr 2; exact tab_congr fun j hj => by rw [e j hj]
theorem Sheet.grow {h h' : Heap} {b t s n : Nat} {S : Nat → Option UInt8} (x : Sheet h b t s n S) (g : Grow h h') : Sheet h' b t s n S := by
  obtain ⟨l1, l2, l3⟩ := x.lt
  have := g.next
  exact ⟨by rw [g.get b l1]; exact x.hs, by rw [g.get t l2]; exact x.ht, by rw [g.get s l3]; exact x.hb, x.ne, by omega, by omega, by omega⟩
end Go.Bm
open Go Go.Vi
namespace Go.Bm
theorem sized_of {n : Int} (h : sizedB n = true) : 0 ≤ n ∧ n ≤ 4096 := of_decide_eq_true h
theorem good_of {d : Dif} (h : goodD d = true) : (0 ≤ d.fr ∧ d.fr ≤ 4096) ∧ (0 ≤ d.to ∧ d.to ≤ 4096) ∧ goodL d.to 0 d.recs = true := by
  unfold goodD at h
  simp only [Bool.and_eq_true] at h
  exact ⟨sized_of h.1, sized_of h.2.1, h.2.2⟩
end Go.Bm
namespace Go.Bm
open Go Go.Vi
def u64 (n : Int) : Nat := (n % 18446744073709551616).toNat
def numB (n : Int) : List UInt8 := (List.range 8).map fun i => UInt8.ofNat (u64 n / 256 ^ i)
theorem numB_len (n : Int) : (numB n).length = 8 := by unfold numB; simp
def valN : List UInt8 → Nat
  | [] => 0
  | b :: l => b.toNat + 256 * valN l
def intN (l : List UInt8) : Int := IntKind.i64.wrap (valN l)
theorem valN_snoc (l : List UInt8) (b : UInt8) : valN (l ++ [b]) = valN l + b.toNat * 256 ^ l.length := by
  induction l with
  | nil => simp [valN]
  | cons c l ih =>
    rw [List.cons_append, valN, valN, ih, List.length_cons, Nat.pow_succ]
    rw [Nat.mul_add, ← Nat.add_assoc]
    congr 1
    rw [Nat.mul_comm (256 ^ l.length) 256, ← Nat.mul_assoc, ← Nat.mul_assoc, Nat.mul_comm 256 b.toNat]
theorem valN_lt (l : List UInt8) : valN l < 256 ^ l.length := by
  induction l with
  | nil => simp [valN]
  | cons c l ih =>
    rw [valN, List.length_cons, Nat.pow_succ]
    have := c.toNat_lt
    omega
theorem numB_eight (n : Int) : numB n = [UInt8.ofNat (u64 n), UInt8.ofNat (u64 n / 256), UInt8.ofNat (u64 n / 65536), UInt8.ofNat (u64 n / 16777216), UInt8.ofNat (u64 n / 4294967296), UInt8.ofNat (u64 n / 1099511627776), UInt8.ofNat (u64 n / 281474976710656), UInt8.ofNat (u64 n / 72057594037927936)] := by
  unfold numB
  rw [show List.range 8 = [0, 1, 2, 3, 4, 5, 6, 7] from rfl]
  simp only [List.map_cons, List.map_nil, Nat.pow_zero, Nat.div_one, Nat.reducePow]
theorem u64_lt (n : Int) : u64 n < 18446744073709551616 := by unfold u64; omega
theorem valN_numB (n : Int) : valN (numB n) = u64 n := by
  have := u64_lt n
  rw [numB_eight]
  simp only [valN, UInt8.toNat_ofNat']
  omega
theorem intN_numB {n : Int} (h0 : -9223372036854775808 ≤ n) (h1 : n ≤ 9223372036854775807) : intN (numB n) = n := by
  unfold intN
  rw [valN_numB, IntKind.wrap_i64]
  unfold u64
  omega
theorem numB_get (n : Int) {i : Nat} (h : i < 8) : (numB n)[i]? = some (UInt8.ofNat (u64 n / 256 ^ i)) := by
  unfold numB
  rw [List.getElem?_map, List.getElem?_range h]
  rfl
theorem shr_byte (n : Int) {i : Nat} (h : i < 8) : IntKind.u8.wrap (n.fdiv (2 ^ (min (8 * (i : Int)).toNat 64))) = ((UInt8.ofNat (u64 n / 256 ^ i)).toNat : Int) := by
  rw [Int.fdiv_eq_ediv_of_nonneg _ (Int.pow_nonneg (by decide)), IntKind.wrap_u8, UInt8.toNat_ofNat']
  unfold u64
  match i, h with
  | 0, _ => simp only [show (2 : Int) ^ (min (8 * ((0 : Nat) : Int)).toNat 64) = 1 from rfl, Nat.pow_zero]; omega
  | 1, _ => simp only [show (2 : Int) ^ (min (8 * ((1 : Nat) : Int)).toNat 64) = 256 from rfl, Nat.reducePow]; omega
  | 2, _ => simp only [show (2 : Int) ^ (min (8 * ((2 : Nat) : Int)).toNat 64) = 65536 from rfl, Nat.reducePow]; omega
  | 3, _ => simp only [show (2 : Int) ^ (min (8 * ((3 : Nat) : Int)).toNat 64) = 16777216 from rfl, Nat.reducePow]; omega
  | 4, _ => simp only [show (2 : Int) ^ (min (8 * ((4 : Nat) : Int)).toNat 64) = 4294967296 from rfl, Nat.reducePow]; omega
  | 5, _ => simp only [show (2 : Int) ^ (min (8 * ((5 : Nat) : Int)).toNat 64) = 1099511627776 from rfl, Nat.reducePow]; omega
  | 6, _ => simp only [show (2 : Int) ^ (min (8 * ((6 : Nat) : Int)).toNat 64) = 281474976710656 from rfl, Nat.reducePow]; omega
  | 7, _ => simp only [show (2 : Int) ^ (min (8 * ((7 : Nat) : Int)).toNat 64) = 72057594037927936 from rfl, Nat.reducePow]; omega
  | k + 8, h => omega
theorem bv_nat (n : Nat) (h : n < 18446744073709551616) : (BitVec.ofInt 64 (IntKind.i64.wrap (n : Int))).toNat = n := by
  rw [BitVec.toNat_ofInt, IntKind.wrap_i64, show ((2 ^ 64 : Nat) : Int) = 18446744073709551616 from rfl]
  omega
theorem or_byte (l : List UInt8) (b : UInt8) (h : l.length < 8) :
    bitV .or .i64 (intN l) (IntKind.i64.wrap ((b.toNat : Int) * 2 ^ (min (8 * (l.length : Int)).toNat 64))) = some (.int .i64 (intN (l ++ [b]))) := by
  have hb := b.toNat_lt
  have hv := valN_lt l
  have e8 : min (8 * (l.length : Int)).toNat 64 = 8 * l.length := by omega
  have hs := valN_snoc l b
  have hor := fun (hx : valN l < 2 ^ (8 * l.length)) => Nat.two_pow_add_eq_or_of_lt hx b.toNat
  have hp : 2 ^ (8 * l.length) ≤ 72057594037927936 := by
    rw [show (72057594037927936 : Nat) = 2 ^ 56 from rfl]
    exact Nat.pow_le_pow_right (by decide) (by omega)
  have ec : ((b.toNat : Int) * 2 ^ (8 * l.length)) = ((2 ^ (8 * l.length) * b.toNat : Nat) : Int) := by rw [Int.natCast_mul, Int.natCast_pow, Int.mul_comm]; rfl
  rw [show (256 : Nat) ^ l.length = 2 ^ (8 * l.length) by rw [Nat.pow_mul]] at hv hs
  rw [e8, ec]
  generalize 2 ^ (8 * l.length) = p at hv hs hor hp
  have hor := hor hv
  have hm : p * b.toNat ≤ 72057594037927936 * 255 := Nat.mul_le_mul hp (by omega)
  rw [Nat.mul_comm] at hs
  generalize p * b.toNat = q at hs hor hm
  have ha : (BitVec.ofInt 64 (intN l)).toNat = valN l := bv_nat _ (by omega)
  have hc : (BitVec.ofInt 64 (IntKind.i64.wrap (q : Int))).toNat = q := bv_nat _ (by omega)
  have hsum : ((BitVec.ofInt 64 (intN l)) ||| (BitVec.ofInt 64 (IntKind.i64.wrap (q : Int)))).toNat = valN (l ++ [b]) := by
    rw [BitVec.or_comm, BitVec.toNat_or, ha, hc, ← hor, hs, Nat.add_comm]
  show some (Value.int .i64 (IntKind.i64.wrap (((BitVec.ofInt 64 (intN l)) ||| (BitVec.ofInt 64 (IntKind.i64.wrap (q : Int)))).toNat : Int))) = _
  rw [hsum]
  rfl
abbrev Rd := Option (List UInt8)
def tkR (r : Rd) (n : Int) : List UInt8 × Rd := match r with
  | none => ([], none)
  | some l => if n < 0 ∨ (l.length : Int) < n then ([], none) else (l.take n.toNat, some (l.drop n.toNat))
def numR (r : Rd) : Int × Rd := match r with
  | none => (0, none)
  | some l => if l.length < 8 then (0, none) else (intN (l.take 8), some (l.drop 8))
def byteR (r : Rd) : UInt8 × Rd := match r with
  | none => (0, none)
  | some [] => (0, none)
  | some (b :: l) => (b, some l)
def flagR (r : Rd) : Bool × Rd := if (byteR r).1.toNat > 1 then (false, none) else ((byteR r).1 == 1, (byteR r).2)
def bytesR (r : Rd) : List UInt8 × Rd := tkR (numR r).2 (numR r).1
def bytesB (l : List UInt8) : List UInt8 := numB l.length ++ l
def flagB (b : Bool) : UInt8 := if b then 1 else 0
theorem numR_put {n : Int} (h0 : -9223372036854775808 ≤ n) (h1 : n ≤ 9223372036854775807) (l : List UInt8) : numR (some (numB n ++ l)) = (n, some l) := by
  have h8 := numB_len n
  unfold numR
  simp only [List.length_append, h8]
  rw [if_neg (by omega), List.take_append_of_le_length (by omega), List.take_of_length_le (by omega), intN_numB h0 h1, List.drop_append_of_le_length (by omega), List.drop_of_length_le (by omega), List.nil_append]
theorem flagR_put (b : Bool) (l : List UInt8) : flagR (some (flagB b :: l)) = (b, some l) := by cases b <;> rfl
theorem bytesR_put {d : List UInt8} (h : d.length ≤ 9223372036854775807) (l : List UInt8) : bytesR (some (bytesB d ++ l)) = (d, some l) := by
  unfold bytesR bytesB
  rw [List.append_assoc, numR_put (by omega) (by omega)]
  unfold tkR
  simp only [List.length_append]
  rw [if_neg (by omega)]
  simp
end Go.Bm
namespace Go.Bm
open Go Go.Vi
def titleD : List UInt8 := [108, 97, 109, 105, 110, 97, 32, 100, 105, 102, 102, 32, 49]
def putR (r : Rec) : List UInt8 := numB r.at_ ++ (numB r.len ++ (flagB r.zero :: if r.zero then [] else bytesB r.data))
def headD (d : Dif) : List UInt8 := bytesB titleD ++ (numB d.fr ++ (numB d.to ++ numB d.recs.length))
def putD (d : Dif) : List UInt8 := headD d ++ (d.recs.flatMap putR ++ [69])
theorem headD_len (d : Dif) : (headD d).length = 45 := by unfold headD bytesB; simp [numB_len, titleD]
theorem putR_len (r : Rec) : (putR r).length ≤ 25 + r.data.length := by
  unfold putR bytesB
  split <;> simp [numB_len] <;> omega
theorem recs_len {to : Int} : ∀ {a : Int} {rs : List Rec}, goodL to a rs = true → ((rs.flatMap putR).length : Int) ≤ 26 * (max to a - a)
  | a, [], _ => by simp; omega
  | a, r :: rs, h => by
    rw [goodL, Bool.and_eq_true] at h
    obtain ⟨h1, h2⟩ := h
    obtain ⟨q1, q2, q3, q4, q5⟩ := goodR_of h1
    have := recs_len h2
    have hr := putR_len r
    rw [List.flatMap_cons, List.length_append]
    have : (r.data.length : Int) ≤ r.len := by rw [q5]; split <;> omega
    omega
end Go.Bm
namespace Go.Bm
open Go Go.Vi
def restD (rs : List Rec) : List UInt8 := rs.flatMap putR ++ [69]
theorem putD_eq (d : Dif) : putD d = bytesB titleD ++ (numB d.fr ++ (numB d.to ++ (numB d.recs.length ++ restD d.recs))) := by unfold putD headD restD; simp
def recR (r : Rd) : Rec × Rd :=
  if (flagR (numR (numR r).2).2).1 = true then (⟨(numR r).1, (numR (numR r).2).1, true, []⟩, (flagR (numR (numR r).2).2).2)
  else (⟨(numR r).1, (numR (numR r).2).1, false, (bytesR (flagR (numR (numR r).2).2).2).1⟩, (bytesR (flagR (numR (numR r).2).2).2).2)
theorem recR_put {r : Rec} (h : 0 ≤ r.at_ ∧ 1 ≤ r.len ∧ r.at_ + r.len ≤ 4096 ∧ (r.data.length : Int) = if r.zero then 0 else r.len) (l : List UInt8) : recR (some (putR r ++ l)) = (r, some l) := by
  obtain ⟨h1, h2, h3, h4⟩ := h
  unfold recR putR
  simp only [List.append_assoc, List.cons_append]
  rw [numR_put (by omega) (by omega)]
  simp only []
  rw [numR_put (by omega) (by omega)]
  simp only []
  rw [flagR_put]
  obtain ⟨a, n, z, d⟩ := r
  have h1 : 0 ≤ a := h1
  have h2 : 1 ≤ n := h2
  have h3 : a + n ≤ 4096 := h3
  cases z
  · have h4 : (d.length : Int) = n := h4
    simp only [Bool.false_eq_true, if_false]
    rw [bytesR_put (by omega)]
  · have h4 : (d.length : Int) = 0 := h4
    have hd : d = [] := List.eq_nil_of_length_eq_zero (by omega)
    simp only [if_true, hd, List.nil_append]
def lf : Rd → Nat
  | none => 0
  | some l => l.length + 1
theorem lf_left (r : Rd) : (r.getD []).length = lf r - 1 := by cases r <;> rfl
theorem tkR_lf (r : Rd) (n : Int) : lf (tkR r n).2 ≤ lf r := by
  cases r with
  | none => exact Nat.le_refl _
  | some l =>
    unfold tkR
    simp only []
    split
    · exact Nat.zero_le _
    · show (l.drop n.toNat).length + 1 ≤ l.length + 1
      rw [List.length_drop]
      omega
theorem numR_lf (r : Rd) : lf (numR r).2 ≤ lf r - 1 := by
  cases r with
  | none => exact Nat.le_refl _
  | some l =>
    unfold numR
    simp only []
    split
    · exact Nat.zero_le _
    · show (l.drop 8).length + 1 ≤ l.length + 1 - 1
      rw [List.length_drop]
      omega
theorem byteR_lf (r : Rd) : lf (byteR r).2 ≤ lf r := by
  match r with
  | none => exact Nat.le_refl _
  | some [] => exact Nat.zero_le _
  | some (b :: l) => show l.length + 1 ≤ (b :: l).length + 1; rw [List.length_cons]; omega
theorem flagR_lf (r : Rd) : lf (flagR r).2 ≤ lf r := by
  unfold flagR
  split
  · exact Nat.zero_le _
  · exact byteR_lf r
theorem bytesR_lf (r : Rd) : lf (bytesR r).2 ≤ lf r := by
  have := tkR_lf (numR r).2 (numR r).1
  have := numR_lf r
  unfold bytesR
  omega
theorem recR_lf (r : Rd) : lf (recR r).2 ≤ lf r - 1 := by
  have h1 := numR_lf r
  have h2 := numR_lf (numR r).2
  have h3 := flagR_lf (numR (numR r).2).2
  have h4 := bytesR_lf (flagR (numR (numR r).2).2).2
  unfold recR
  split
  · show lf (flagR (numR (numR r).2).2).2 ≤ _
    omega
  · show lf (bytesR (flagR (numR (numR r).2).2).2).2 ≤ _
    omega
theorem putD_le {d : Dif} (h : goodD d = true) : (putD d).length ≤ 200000 := by
  obtain ⟨⟨f0, f1⟩, ⟨t0, t1⟩, hg⟩ := good_of h
  have h1 := recs_len hg
  unfold putD
  rw [List.length_append, headD_len, List.length_append, List.length_singleton]
  omega
def Rdn (b : List UInt8) (fr to n : Int) (recs : List Rec) (r : Rd) : Prop :=
  ∀ d, goodD d = true → putD d = b → d.fr = fr ∧ d.to = to ∧ (d.recs.length : Int) = n ∧ ∃ rest, d.recs = recs ++ rest ∧ r = some (restD rest)
theorem recs_fit {d : Dif} (h : goodD d = true) : d.recs.length ≤ 4096 ∧ ∀ r ∈ d.recs, 0 ≤ r.at_ ∧ 1 ≤ r.len ∧ r.at_ + r.len ≤ 4096 ∧ (r.data.length : Int) = if r.zero then 0 else r.len := by
  obtain ⟨⟨f0, f1⟩, ⟨t0, t1⟩, hg⟩ := good_of h
  have ha : ∀ {to : Int} {a : Int} {rs : List Rec}, goodL to a rs = true → a ≤ to → (rs.length : Int) ≤ to - a := by
    intro to a rs
    induction rs generalizing a with
    | nil => intro _ h; rw [List.length_nil]; omega
    | cons r rs ih =>
      intro h _
      rw [goodL, Bool.and_eq_true] at h
      obtain ⟨q1, q2, q3, q4, q5⟩ := goodR_of h.1
      have := ih h.2 (by omega)
      rw [List.length_cons]
      omega
  have h1 := ha hg t0
  refine ⟨by omega, fun r hr => ?_⟩
  obtain ⟨q1, q2, q3, q4⟩ := goodL_at hg (Int.le_refl 0) r hr
  exact ⟨q1, q2, by omega, q4⟩
theorem Rdn.start {b : List UInt8} : (∀ d, goodD d = true → putD d = b → (bytesR (some b)).1 = titleD) ∧ Rdn b (numR (bytesR (some b)).2).1 (numR (numR (bytesR (some b)).2).2).1 (numR (numR (numR (bytesR (some b)).2).2).2).1 [] (numR (numR (numR (bytesR (some b)).2).2).2).2 := by
  have key : ∀ d, goodD d = true → putD d = b → bytesR (some b) = (titleD, some (numB d.fr ++ (numB d.to ++ (numB d.recs.length ++ restD d.recs)))) := fun d _ hb => by
    rw [← hb, putD_eq, bytesR_put (by decide)]
  refine ⟨fun d hd hb => by rw [key d hd hb], fun d hd hb => ?_⟩
  have hf := (recs_fit hd).1
  obtain ⟨⟨f0, f1⟩, ⟨t0, t1⟩, hg⟩ := good_of hd
  rw [key d hd hb]
  simp only []
  rw [numR_put (by omega) (by omega)]
  simp only []
  rw [numR_put (by omega) (by omega)]
  simp only []
  rw [numR_put (by omega) (by omega)]
  exact ⟨trivial, trivial, rfl, _, rfl, rfl⟩
theorem Rdn.step {b : List UInt8} {fr to n : Int} {recs : List Rec} {r : Rd} (x : Rdn b fr to n recs r) (hn : (recs.length : Int) < n) : Rdn b fr to n (recs ++ [(recR r).1]) (recR r).2 := by
  intro d hd hb
  obtain ⟨h1, h2, h3, rest, h4, h5⟩ := x d hd hb
  refine ⟨h1, h2, h3, ?_⟩
  cases rest with
  | nil => rw [h4, List.append_nil] at h3; omega
  | cons y ys =>
    have hy := (recs_fit hd).2 y (by rw [h4]; simp)
    have he : restD (y :: ys) = putR y ++ restD ys := by unfold restD; simp
    rw [h5, he, recR_put hy]
    exact ⟨ys, by rw [h4]; simp, rfl⟩
theorem Rdn.stop {b : List UInt8} {fr to n : Int} {recs : List Rec} {r : Rd} (x : Rdn b fr to n recs r) (hn : n ≤ recs.length ∨ (r.getD []).length = 0) (d : Dif) (hd : goodD d = true) (hb : putD d = b) : d = ⟨fr, to, recs⟩ ∧ byteR r = (69, some []) := by
  obtain ⟨h1, h2, h3, rest, h4, h5⟩ := x d hd hb
  have hr : rest = [] := by
    rcases hn with q | q
    · rw [h4, List.length_append] at h3
      exact List.eq_nil_of_length_eq_zero (by omega)
    · rw [h5] at q
      unfold restD at q
      simp at q
  subst hr
  rw [List.append_nil] at h4
  refine ⟨?_, by rw [h5]; rfl⟩
  cases d
  simp only at h1 h2 h4
  rw [h1, h2, h4]
theorem recs_inj {x y : List UInt8} : ∀ {rs1 rs2 : List Rec}, (∀ r ∈ rs1, 0 ≤ r.at_ ∧ 1 ≤ r.len ∧ r.at_ + r.len ≤ 4096 ∧ (r.data.length : Int) = if r.zero then 0 else r.len) → (∀ r ∈ rs2, 0 ≤ r.at_ ∧ 1 ≤ r.len ∧ r.at_ + r.len ≤ 4096 ∧ (r.data.length : Int) = if r.zero then 0 else r.len) →
    rs1.length = rs2.length → rs1.flatMap putR ++ x = rs2.flatMap putR ++ y → rs1 = rs2 ∧ x = y
  | [], [], _, _, _, h => ⟨rfl, h⟩
  | [], _ :: _, _, _, h, _ => by cases h
  | _ :: _, [], _, _, h, _ => by cases h
  | r :: rs, s :: ss, h1, h2, hl, h => by
    have e1 := recR_put (h1 r (List.mem_cons_self ..)) (rs.flatMap putR ++ x)
    have e2 := recR_put (h2 s (List.mem_cons_self ..)) (ss.flatMap putR ++ y)
    rw [List.flatMap_cons, List.flatMap_cons, List.append_assoc, List.append_assoc] at h
    rw [h] at e1
    rw [e1] at e2
    injection e2 with e3 e4
    injection e4 with e4
    obtain ⟨q1, q2⟩ := recs_inj (fun r hr => h1 r (List.mem_cons_of_mem _ hr)) (fun r hr => h2 r (List.mem_cons_of_mem _ hr)) (by simpa using hl) e4
    exact ⟨by rw [e3, q1], q2⟩
theorem dif_ext {c d : Dif} (h1 : c.fr = d.fr) (h2 : c.to = d.to) (h3 : c.recs = d.recs) : c = d := by
  cases c
  cases d
  cases h1
  cases h2
  cases h3
  rfl
theorem rdn_inj {b : List UInt8} {fr to n : Int} {r : Rd} (x : Rdn b fr to n [] r) {c d : Dif} (hc : goodD c = true) (hd : goodD d = true) (h1 : putD c = b) (h2 : putD d = b) : c = d := by
  obtain ⟨a1, a2, a3, r1, a4, a5⟩ := x d hd h2
  obtain ⟨b1, b2, b3, r2, b4, b5⟩ := x c hc h1
  rw [List.nil_append] at a4 b4
  subst a4 b4
  rw [a5] at b5
  injection b5 with b5
  unfold restD at b5
  obtain ⟨e, _⟩ := recs_inj (recs_fit hd).2 (recs_fit hc).2 (by omega) b5
  exact dif_ext (b1.trans a1.symm) (b2.trans a2.symm) e.symm
theorem putD_inj {c d : Dif} (hc : goodD c = true) (hd : goodD d = true) (h : putD c = putD d) : c = d :=
  rdn_inj (Rdn.start (b := putD d)).2 hc hd h rfl
end Go.Bm
namespace Go.Bm
open Go Go.Vi
def okN (b : UInt8) : Bool := decide (97 ≤ b.toNat ∧ b.toNat ≤ 122) || decide (48 ≤ b.toNat ∧ b.toNat ≤ 57) || decide (b.toNat = 45)
def namedB (l : List UInt8) : Bool := decide (1 ≤ l.length) && decide (l.length ≤ 20) && l.all okN
structure Part where
  name : List UInt8
  prot : Bool
  diff : Dif
structure Bun where
  object : Int
  parts : List Part
  last : Dif
def objB (n : Int) : Bool := decide (n = 16 ∨ n = 32 ∨ n = 64 ∨ n = 128 ∨ n = 256)
def namesB : List (List UInt8) → List (List UInt8) → Bool
  | _, [] => true
  | seen, n :: ns => namedB n && (!seen.contains n && namesB (seen ++ [n]) ns)
def chainB : Int → List Dif → Bool
  | _, [] => true
  | z, d :: ds => goodD d && (decide (d.fr = z) && chainB d.to ds)
def Bun.diffs (b : Bun) : List Dif := b.parts.map (·.diff) ++ [b.last]
def goodBun (b : Bun) : Bool := objB b.object && (decide (b.parts.length ≤ 16) && (namesB [] (b.parts.map (·.name)) && chainB 0 b.diffs))
def titleB : List UInt8 := [108, 97, 109, 105, 110, 97, 32, 98, 117, 110, 100, 108, 101, 32, 49]
def putP (p : Part) : List UInt8 := bytesB p.name ++ (flagB p.prot :: bytesB (putD p.diff))
def headBun (b : Bun) : List UInt8 := bytesB titleB ++ (numB b.object ++ numB b.parts.length)
def putBun (b : Bun) : List UInt8 := headBun b ++ (b.parts.flatMap putP ++ (bytesB (putD b.last) ++ [66]))
structure PartOk (p : Part) : Prop where
  name : p.name.length ≤ 100000000
  diff : p.diff.recs.length ≤ 100000000
theorem names_mem : ∀ {seen ns : List (List UInt8)}, namesB seen ns = true → ∀ n ∈ ns, namedB n = true
  | _, [], _, _, h => by cases h
  | seen, m :: ms, h, n, hn => by
    rw [namesB, Bool.and_eq_true, Bool.and_eq_true] at h
    rcases List.mem_cons.1 hn with rfl | hn
    · exact h.1
    · exact names_mem h.2.2 n hn
theorem chain_mem : ∀ {z : Int} {ds : List Dif}, chainB z ds = true → ∀ d ∈ ds, goodD d = true
  | _, [], _, _, h => by cases h
  | z, c :: cs, h, d, hd => by
    rw [chainB, Bool.and_eq_true, Bool.and_eq_true] at h
    rcases List.mem_cons.1 hd with rfl | hd
    · exact h.1
    · exact chain_mem h.2.2 d hd
structure GoodP (b : Bun) : Prop where
  obj : objB b.object = true
  n : b.parts.length ≤ 16
  name : ∀ p ∈ b.parts, p.name.length ≤ 20
  diff : ∀ p ∈ b.parts, goodD p.diff = true
  last : goodD b.last = true
theorem goodP_of {b : Bun} (h : goodBun b = true) : GoodP b := by
  unfold goodBun at h
  rw [Bool.and_eq_true, Bool.and_eq_true, Bool.and_eq_true, decide_eq_true_eq] at h
  obtain ⟨h1, h2, h3, h4⟩ := h
  have hm := chain_mem h4
  refine ⟨h1, h2, fun p hp => ?_, fun p hp => hm _ ?_, hm _ ?_⟩
  · have := names_mem h3 p.name (List.mem_map_of_mem hp)
    unfold namedB at this
    rw [Bool.and_eq_true, Bool.and_eq_true, decide_eq_true_eq, decide_eq_true_eq] at this
    exact this.1.2
  · unfold Bun.diffs; exact List.mem_append_left _ (List.mem_map_of_mem hp)
  · unfold Bun.diffs; simp
theorem bytesB_len (l : List UInt8) : (bytesB l).length = 8 + l.length := by unfold bytesB; rw [List.length_append, numB_len]
theorem putP_le {p : Part} (h1 : p.name.length ≤ 20) (h2 : goodD p.diff = true) : (putP p).length ≤ 300000 := by
  have := putD_le h2
  unfold putP
  rw [List.length_append, List.length_cons, bytesB_len, bytesB_len]
  omega
theorem flat_le {α : Type} {f : α → List UInt8} {z : Nat} : ∀ {xs : List α}, (∀ x ∈ xs, (f x).length ≤ z) → (xs.flatMap f).length ≤ xs.length * z
  | [], _ => Nat.zero_le _
  | x :: xs, h => by
    have h1 := h x (List.mem_cons_self ..)
    have h2 := flat_le (xs := xs) fun y hy => h y (List.mem_cons_of_mem _ hy)
    rw [List.flatMap_cons, List.length_append, List.length_cons, Nat.succ_mul]
    omega
theorem headBun_len (b : Bun) : (headBun b).length = 39 := by unfold headBun; rw [List.length_append, List.length_append, bytesB_len, numB_len, numB_len]; rfl
theorem parts_le {b : Bun} (g : GoodP b) (i : Nat) : (headBun b ++ (b.parts.take i).flatMap putP).length ≤ 5000000 := by
  have := flat_le (f := putP) (z := 300000) (xs := b.parts.take i) fun p hp => putP_le (g.name p (List.mem_of_mem_take hp)) (g.diff p (List.mem_of_mem_take hp))
  have h2 : (b.parts.take i).length ≤ 16 := by rw [List.length_take]; have := g.n; omega
  have := Nat.mul_le_mul_right 300000 h2
  rw [List.length_append, headBun_len]
  omega
theorem putBun_le {b : Bun} (h : goodBun b = true) : (putBun b).length ≤ 6000000 := by
  have g := goodP_of h
  have := parts_le g b.parts.length
  rw [List.take_length] at this
  have := putD_le g.last
  unfold putBun
  rw [← List.append_assoc, List.length_append, List.length_append (as := bytesB _), bytesB_len, List.length_singleton]
  omega
end Go.Bm
namespace Go.Bm
open Go Go.Vi
def partC (p : Part × Value) : List Value := [.string (strOf p.1.name), .bool p.1.prot, .int .i64 p.1.diff.fr, .int .i64 p.1.diff.to, p.2]
theorem partC_len (p : Part × Value) : (partC p).length = 5 := rfl
def PRow (h : Heap) (v : Value) (parts : List Part) : Prop := ∃ items : List (Part × Value), items.map (·.1) = parts ∧ RowV h 5 v (items.flatMap partC) ∧ ∀ p ∈ items, DRow h p.2 p.1.diff.recs
theorem PRow.grow {h h' : Heap} {v : Value} {parts : List Part} (x : PRow h v parts) (g : Grow h h') : PRow h' v parts := by
  obtain ⟨items, h1, h2, h3⟩ := x
  exact ⟨items, h1, h2.grow g, fun p hp => (h3 p hp).grow g⟩
theorem PRow.nil (h : Heap) : PRow h (.slice none 0 0) [] := ⟨[], rfl, .nil h 5, fun _ h => nomatch h⟩
theorem PRow.one {h : Heap} {v : Value} {parts : List Part} (x : PRow h v parts) : oneCell v = true := by
  obtain ⟨items, h1, h2, h3⟩ := x
  exact h2.one
theorem PRow.is {h : Heap} {v : Value} {parts : List Part} (x : PRow h v parts) : ∃ a c, v = .slice a parts.length c := by
  obtain ⟨items, rfl, h2, h3⟩ := x
  obtain ⟨a, n, c, rfl, hn, _⟩ := h2.is
  rw [flat_len (fun p _ => partC_len p)] at hn
  rw [List.length_map]
  exact ⟨a, c, by rw [show n = items.length by omega]⟩
theorem PRow.elems {h : Heap} {v : Value} {parts : List Part} (x : PRow h v parts) (hr : parts ≠ []) : ∃ b o c, v = .slice (some ⟨b, o, none⟩) parts.length c ∧ b < h.next ∧
    ∀ (i : Nat) (p : Part), parts[i]? = some p → ∃ d, cellsAt (h.get b) (o + i * 5) 5 = some [.string (strOf p.name), .bool p.prot, .int .i64 p.diff.fr, .int .i64 p.diff.to, d] ∧ DRow h d p.diff.recs := by
  obtain ⟨items, rfl, h2, h3⟩ := x
  have hl := flat_len (z := 5) (f := partC) (xs := items) (fun p _ => partC_len p)
  have hp : 0 < items.length := List.length_pos_iff.2 fun e => hr (by rw [e]; rfl)
  obtain ⟨b, o, n, c, rfl, hb, hn, _, _⟩ := h2.elem (i := 0) (by omega) (by omega)
  have hni : n = items.length := by omega
  subst hni
  refine ⟨b, o, c, by rw [List.length_map], hb, fun i r hi => ?_⟩
  rw [List.getElem?_map] at hi
  obtain ⟨p, hpi, rfl⟩ := Option.map_eq_some_iff.1 hi
  have hil : i < items.length := (List.getElem?_eq_some_iff.1 hpi).1
  obtain ⟨b', o', n', c', he, _, _, _, hc⟩ := h2.elem (i := i) (by omega) (by omega)
  cases he
  rw [flat_elem (fun p _ => partC_len p) hpi] at hc
  exact ⟨p.2, hc, h3 p (List.mem_of_getElem? hpi)⟩
def PNew (base : Nat) (h : Heap) (v : Value) (parts : List Part) : Prop := ∃ items : List (Part × Value), items.map (·.1) = parts ∧ RowV h 5 v (items.flatMap partC) ∧ (∀ b, blkOf v = some b → base ≤ b) ∧ ∀ p ∈ items, DNew base h p.2 p.1.diff.recs
theorem PNew.row {base : Nat} {h : Heap} {v : Value} {parts : List Part} (x : PNew base h v parts) : PRow h v parts := by
  obtain ⟨items, h1, h2, _, h3⟩ := x
  exact ⟨items, h1, h2, fun p hp => (h3 p hp).row⟩
def dsC (p : Dif × Value) : List Value := difC p.1 p.2
theorem dsC_len (p : Dif × Value) : (dsC p).length = 3 := rfl
def DsRow (h : Heap) (v : Value) (ds : List Dif) : Prop := ∃ items : List (Dif × Value), items.map (·.1) = ds ∧ RowV h 3 v (items.flatMap dsC) ∧ ∀ p ∈ items, DRow h p.2 p.1.recs
theorem DsRow.grow {h h' : Heap} {v : Value} {ds : List Dif} (x : DsRow h v ds) (g : Grow h h') : DsRow h' v ds := by
  obtain ⟨items, h1, h2, h3⟩ := x
  exact ⟨items, h1, h2.grow g, fun p hp => (h3 p hp).grow g⟩
theorem DsRow.is {h : Heap} {v : Value} {ds : List Dif} (x : DsRow h v ds) : ∃ a c, v = .slice a ds.length c := by
  obtain ⟨items, rfl, h2, h3⟩ := x
  obtain ⟨a, n, c, rfl, hn, _⟩ := h2.is
  rw [flat_len (fun p _ => dsC_len p)] at hn
  rw [List.length_map]
  exact ⟨a, c, by rw [show n = items.length by omega]⟩
theorem DsRow.elems {h : Heap} {v : Value} {ds : List Dif} (x : DsRow h v ds) (hr : ds ≠ []) : ∃ b o c, v = .slice (some ⟨b, o, none⟩) ds.length c ∧ b < h.next ∧
    ∀ (i : Nat) (p : Dif), ds[i]? = some p → ∃ d, cellsAt (h.get b) (o + i * 3) 3 = some [.int .i64 p.fr, .int .i64 p.to, d] ∧ DRow h d p.recs := by
  obtain ⟨items, rfl, h2, h3⟩ := x
  have hl := flat_len (z := 3) (f := dsC) (xs := items) (fun p _ => dsC_len p)
  have hp : 0 < items.length := List.length_pos_iff.2 fun e => hr (by rw [e]; rfl)
  obtain ⟨b, o, n, c, rfl, hb, hn, _, _⟩ := h2.elem (i := 0) (by omega) (by omega)
  have hni : n = items.length := by omega
  subst hni
  refine ⟨b, o, c, by rw [List.length_map], hb, fun i r hi => ?_⟩
  rw [List.getElem?_map] at hi
  obtain ⟨p, hpi, rfl⟩ := Option.map_eq_some_iff.1 hi
  have hil : i < items.length := (List.getElem?_eq_some_iff.1 hpi).1
  obtain ⟨b', o', n', c', he, _, _, _, hc⟩ := h2.elem (i := i) (by omega) (by omega)
  cases he
  rw [flat_elem (fun p _ => dsC_len p) hpi] at hc
  exact ⟨p.2, hc, h3 p (List.mem_of_getElem? hpi)⟩
def bunC (b : Bun) (v w : Value) : List Value := [.int .i64 b.object, v, .int .i64 b.last.fr, .int .i64 b.last.to, w]
end Go.Bm
namespace Go.Bm
open Go Go.Vi
def restB (rest : List Part) (last : Dif) : List UInt8 := rest.flatMap putP ++ (bytesB (putD last) ++ [66])
theorem putBun_eq (b : Bun) : putBun b = bytesB titleB ++ (numB b.object ++ (numB b.parts.length ++ restB b.parts b.last)) := by unfold putBun headBun restB; simp
theorem tkR_len (r : Rd) (n : Int) : (tkR r n).1.length + lf (tkR r n).2 ≤ lf r := by
  cases r with
  | none => exact Nat.le_refl _
  | some l =>
    unfold tkR
    simp only []
    split
    · exact Nat.zero_le _
    · show (l.take n.toNat).length + ((l.drop n.toNat).length + 1) ≤ l.length + 1
      rw [List.length_drop, List.length_take]
      omega
theorem bytesR_len (r : Rd) : (bytesR r).1.length + lf (bytesR r).2 ≤ lf r - 1 := by
  have := tkR_len (numR r).2 (numR r).1
  have := numR_lf r
  unfold bytesR
  omega
def Rdb (b : List UInt8) (obj n : Int) (ps : List Part) (r : Rd) (bad : Bool) : Prop :=
  ∀ B, goodBun B = true → putBun B = b → B.object = obj ∧ (B.parts.length : Int) = n ∧ bad = false ∧ ∃ rest, B.parts = ps ++ rest ∧ r = some (restB rest B.last)
theorem obj_in {n : Int} (h : objB n = true) : 16 ≤ n ∧ n ≤ 256 := by
  have : n = 16 ∨ n = 32 ∨ n = 64 ∨ n = 128 ∨ n = 256 := of_decide_eq_true h
  omega
theorem Rdb.start {b : List UInt8} : (∀ B, goodBun B = true → putBun B = b → (bytesR (some b)).1 = titleB) ∧ Rdb b (numR (bytesR (some b)).2).1 (numR (numR (bytesR (some b)).2).2).1 [] (numR (numR (bytesR (some b)).2).2).2 false := by
  have key : ∀ B, goodBun B = true → putBun B = b → bytesR (some b) = (titleB, some (numB B.object ++ (numB B.parts.length ++ restB B.parts B.last))) := fun B _ hb => by
    rw [← hb, putBun_eq, bytesR_put (by decide)]
  refine ⟨fun B hB hb => by rw [key B hB hb], fun B hB hb => ?_⟩
  have g := goodP_of hB
  have ho := obj_in g.obj
  have hn := g.n
  rw [key B hB hb]
  simp only []
  rw [numR_put (by omega) (by omega)]
  simp only []
  rw [numR_put (by omega) (by omega)]
  exact ⟨trivial, rfl, trivial, _, rfl, rfl⟩
theorem putP_read {q : Part} (h1 : q.name.length ≤ 20) (h2 : goodD q.diff = true) (l : List UInt8) :
    bytesR (some (putP q ++ l)) = (q.name, some (flagB q.prot :: (bytesB (putD q.diff) ++ l))) ∧ flagR (some (flagB q.prot :: (bytesB (putD q.diff) ++ l))) = (q.prot, some (bytesB (putD q.diff) ++ l)) ∧ bytesR (some (bytesB (putD q.diff) ++ l)) = (putD q.diff, some l) := by
  have := putD_le h2
  refine ⟨?_, flagR_put _ _, bytesR_put (by omega) l⟩
  unfold putP
  rw [List.append_assoc, List.cons_append, bytesR_put (by omega)]
theorem Rdb.step {b : List UInt8} {obj n : Int} {ps : List Part} {r : Rd} {bad : Bool} (x : Rdb b obj n ps r bad) (hn : (ps.length : Int) < n) (d : Dif) (bad' : Bool)
    (hd : (goodD d = true ∧ putD d = (bytesR (flagR (bytesR r).2).2).1 ∧ bad' = bad) ∨ (∀ d, goodD d = true → putD d ≠ (bytesR (flagR (bytesR r).2).2).1)) :
    Rdb b obj n (ps ++ [⟨(bytesR r).1, (flagR (bytesR r).2).1, d⟩]) (bytesR (flagR (bytesR r).2).2).2 bad' := by
  intro B hB hb
  obtain ⟨h1, h2, h3, rest, h4, h5⟩ := x B hB hb
  refine ⟨h1, h2, ?_⟩
  have g := goodP_of hB
  cases rest with
  | nil => rw [h4, List.append_nil] at h2; omega
  | cons q qs =>
    have hq1 := g.name q (by rw [h4]; simp)
    have hq2 := g.diff q (by rw [h4]; simp)
    have he : restB (q :: qs) B.last = putP q ++ restB qs B.last := by unfold restB; simp
    obtain ⟨e1, e2, e3⟩ := putP_read hq1 hq2 (restB qs B.last)
    rw [h5, he] at hd ⊢
    rw [e1] at hd ⊢
    simp only [] at hd ⊢
    rw [e2] at hd ⊢
    simp only [] at hd ⊢
    rw [e3] at hd ⊢
    simp only [] at hd ⊢
    rcases hd with ⟨q1, q2, q3⟩ | hno
    · have e : d = q.diff := putD_inj q1 hq2 q2
      refine ⟨by rw [q3, h3], qs, ?_, rfl⟩
      rw [h4, e]
      simp
    · exact absurd rfl (hno q.diff hq2)
theorem Rdb.stop {b : List UInt8} {obj n : Int} {ps : List Part} {r : Rd} {bad : Bool} (x : Rdb b obj n ps r bad) (hn : n ≤ ps.length ∨ (r.getD []).length = 0 ∨ bad = true) (B : Bun) (hB : goodBun B = true) (hb : putBun B = b) :
    B.object = obj ∧ B.parts = ps ∧ bad = false ∧ bytesR r = (putD B.last, some [66]) ∧ goodD B.last = true := by
  obtain ⟨h1, h2, h3, rest, h4, h5⟩ := x B hB hb
  have g := goodP_of hB
  have hp := putD_le g.last
  have hr : rest = [] := by
    rcases hn with q | q | q
    · rw [h4, List.length_append] at h2
      exact List.eq_nil_of_length_eq_zero (by omega)
    · rw [h5] at q
      unfold restB at q
      simp at q
    · rw [h3] at q; cases q
  subst hr
  rw [List.append_nil] at h4
  refine ⟨h1, h4, h3, ?_, g.last⟩
  rw [h5]
  unfold restB
  rw [List.flatMap_nil, List.nil_append, bytesR_put (by omega)]
theorem bun_ext {B : Bun} {obj : Int} {ps : List Part} {d : Dif} (h1 : B.object = obj) (h2 : B.parts = ps) (h3 : d = B.last) : B = ⟨obj, ps, d⟩ := by
  cases B
  cases h1
  cases h2
  cases h3
  rfl
def DIn (P : Nat → Prop) (h : Heap) (v : Value) (recs : List Rec) : Prop := ∃ items : List (Rec × Value), items.map (·.1) = recs ∧ RowV h 4 v (items.flatMap recC) ∧ (∀ b, blkOf v = some b → P b) ∧ ∀ p ∈ items, BRow h p.2 p.1.data ∧ ∀ b, blkOf p.2 = some b → P b
theorem DIn.row {P : Nat → Prop} {h : Heap} {v : Value} {recs : List Rec} (x : DIn P h v recs) : DRow h v recs := by
  obtain ⟨items, h1, h2, _, h3⟩ := x
  exact ⟨items, h1, h2, fun p hp => (h3 p hp).1⟩
theorem DIn.keep {P Q : Nat → Prop} {h h' : Heap} {v : Value} {recs : List Rec} (x : DIn P h v recs) (hn : h.next ≤ h'.next) (g : ∀ c, P c → h'.get c = h.get c) (i : ∀ c, P c → Q c) : DIn Q h' v recs := by
  obtain ⟨items, h1, h2, h4, h3⟩ := x
  exact ⟨items, h1, RowV.keep h2 hn fun c hc _ => g c (h4 c hc), fun b hb => i b (h4 b hb), fun p hp => ⟨RowV.keep (h3 p hp).1 hn fun c hc _ => g c ((h3 p hp).2 c hc), fun b hb => i b ((h3 p hp).2 b hb)⟩⟩
theorem RowV.within {h : Heap} {z : Nat} {d : Value} {l : List Value} {c : Nat} (x : RowV h z d l) (hc : blkOf d = some c) (h0 : 0 < c) : c < h.next := by
  rcases x with ⟨rfl | rfl, _⟩ | ⟨b2, o2, n, c2, row, w, q, hb2, rfl, _⟩
  · cases hc
  · cases hc; exact absurd h0 (by decide)
  · cases hc; exact hb2
theorem DNew.din {base : Nat} {h : Heap} {v : Value} {recs : List Rec} (x : DNew base h v recs) (h0 : 0 < base) : DIn (fun c => base ≤ c ∧ c < h.next) h v recs := by
  obtain ⟨items, h1, h2, h4, h3⟩ := x
  exact ⟨items, h1, h2, fun b hb => ⟨h4 b hb, RowV.within h2 hb (Nat.lt_of_lt_of_le h0 (h4 b hb))⟩, fun p hp => ⟨(h3 p hp).1, fun b hb => ⟨(h3 p hp).2 b hb, RowV.within (h3 p hp).1 hb (Nat.lt_of_lt_of_le h0 ((h3 p hp).2 b hb))⟩⟩⟩
theorem DIn.new {P : Nat → Prop} {base : Nat} {h : Heap} {v : Value} {recs : List Rec} (x : DIn P h v recs) (i : ∀ c, P c → base ≤ c) : DNew base h v recs := by
  obtain ⟨items, h1, h2, h4, h3⟩ := x
  exact ⟨items, h1, h2, fun b hb => i b (h4 b hb), fun p hp => ⟨(h3 p hp).1, fun b hb => i b ((h3 p hp).2 b hb)⟩⟩
theorem DIn.nil (P : Nat → Prop) (h : Heap) : DIn P h (.slice none 0 0) [] := ⟨[], rfl, .nil h 4, (fun b hb => by cases hb), fun p hp => by cases hp⟩
end Go.Bm
namespace Go.Bm
open Go Go.Vi
theorem restB_inj {c d : Dif} (hc : goodD c = true) (hd : goodD d = true) : ∀ {xs ys : List Part}, (∀ p ∈ xs, p.name.length ≤ 20 ∧ goodD p.diff = true) → (∀ p ∈ ys, p.name.length ≤ 20 ∧ goodD p.diff = true) → xs.length = ys.length → restB xs c = restB ys d → xs = ys ∧ c = d
  | [], [], _, _, _, h => by
    simp only [restB, List.flatMap_nil, List.nil_append] at h
    have h1 := putD_le hc
    have h2 := putD_le hd
    have e1 := bytesR_put (d := putD c) (by omega) [66]
    have e2 := bytesR_put (d := putD d) (by omega) [66]
    rw [h] at e1
    rw [e1] at e2
    injection e2 with e3 _
    exact ⟨rfl, putD_inj hc hd e3⟩
  | [], _ :: _, _, _, h, _ => by cases h
  | _ :: _, [], _, _, h, _ => by cases h
  | x :: xs, y :: ys, hx, hy, hl, h => by
    obtain ⟨x1, x2⟩ := hx x (List.mem_cons_self ..)
    obtain ⟨y1, y2⟩ := hy y (List.mem_cons_self ..)
    have ex : restB (x :: xs) c = putP x ++ restB xs c := by unfold restB; simp
    have ey : restB (y :: ys) d = putP y ++ restB ys d := by unfold restB; simp
    rw [ex, ey] at h
    obtain ⟨a1, a2, a3⟩ := putP_read x1 x2 (restB xs c)
    obtain ⟨b1, b2, b3⟩ := putP_read y1 y2 (restB ys d)
    rw [h, b1] at a1
    injection a1 with n1 r1
    rw [← r1, b2] at a2
    injection a2 with n2 r2
    rw [← r2, b3] at a3
    injection a3 with n3 r3
    injection r3 with r3
    obtain ⟨q1, q2⟩ := restB_inj hc hd (fun p hp => hx p (List.mem_cons_of_mem _ hp)) (fun p hp => hy p (List.mem_cons_of_mem _ hp)) (by simpa using hl) r3.symm
    refine ⟨?_, q2⟩
    have hdf : x.diff = y.diff := putD_inj x2 y2 n3.symm
    have : x = y := by
      cases x
      cases y
      simp only at n1 n2 hdf
      rw [n1, n2, hdf]
    rw [this, q1]
theorem rdb_inj {b : List UInt8} {obj n : Int} {r : Rd} (x : Rdb b obj n [] r false) {c d : Bun} (hc : goodBun c = true) (hd : goodBun d = true) (h1 : putBun c = b) (h2 : putBun d = b) : c = d := by
  have gc := goodP_of hc
  have gd := goodP_of hd
  obtain ⟨a1, a2, _, r1, a4, a5⟩ := x d hd h2
  obtain ⟨b1, b2, _, r2, b4, b5⟩ := x c hc h1
  rw [List.nil_append] at a4 b4
  subst a4 b4
  rw [a5] at b5
  injection b5 with b5
  obtain ⟨e1, e2⟩ := restB_inj gd.last gc.last (fun p hp => ⟨gd.name p hp, gd.diff p hp⟩) (fun p hp => ⟨gc.name p hp, gc.diff p hp⟩) (by omega) b5
  have e := bun_ext (B := c) (obj := d.object) (ps := d.parts) (d := d.last) (b1.trans a1.symm) e1.symm e2
  exact e
theorem putBun_inj {c d : Bun} (hc : goodBun c = true) (hd : goodBun d = true) (h : putBun c = putBun d) : c = d :=
  rdb_inj (Rdb.start (b := putBun d)).2 hc hd h rfl
end Go.Bm
