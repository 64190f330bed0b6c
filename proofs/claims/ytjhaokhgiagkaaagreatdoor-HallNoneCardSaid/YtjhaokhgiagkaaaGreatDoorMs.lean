/- Ms: diffs, in plain words: records, what a good diff is. Sh: sheets: rows that are given point by point. Wr: numbers as bytes, and back; what is read of bytes. No program in sight. -/
import Derived.Test.YtjhaokhgiagkaaaGreatDoorVgJ
import Derived.Laws.BitsLemmas
open Go Go.Vi
namespace Go.Bm
structure Rec where
  at_ : Int
  len : Int
  zero : Bool
  data : List UInt8
  deriving DecidableEq
structure Dif where
  fr : Int
  to : Int
  recs : List Rec
  deriving DecidableEq
def in64 (n : Int) : Prop := -9223372036854775808 ≤ n ∧ n ≤ 9223372036854775807
structure RecOk (r : Rec) : Prop where
  at_ : in64 r.at_
  len : in64 r.len
structure DifOk (d : Dif) : Prop where
  fr : in64 d.fr
  to : in64 d.to
  recs : ∀ r ∈ d.recs, RecOk r
def recC (p : Rec × Value) : List Value := [.int .i64 p.1.at_, .int .i64 p.1.len, .bool p.1.zero, p.2]
theorem recC_len (p : Rec × Value) : (recC p).length = 4 := rfl
def DRow (h : Heap) (v : Value) (recs : List Rec) : Prop := ∃ items : List (Rec × Value), items.map (·.1) = recs ∧ RowV h 4 v (items.flatMap recC) ∧ ∀ p ∈ items, BRow h p.2 p.1.data
theorem DRow.grow {h h' : Heap} {v : Value} {recs : List Rec} (x : DRow h v recs) (g : Grow h h') : DRow h' v recs := by
  obtain ⟨items, h1, h2, h3⟩ := x
  exact ⟨items, h1, h2.grow g, fun p hp => RowV.grow (h3 p hp) g⟩
theorem DRow.nil (h : Heap) : DRow h (.slice none 0 0) [] := ⟨[], rfl, .nil h 4, fun _ h => nomatch h⟩
theorem DRow.one {h : Heap} {v : Value} {recs : List Rec} (x : DRow h v recs) : oneCell v = true := by
  obtain ⟨items, h1, h2, h3⟩ := x
  exact h2.one
theorem DRow.is {h : Heap} {v : Value} {recs : List Rec} (x : DRow h v recs) : ∃ a c, v = .slice a recs.length c := by
  obtain ⟨items, rfl, h2, h3⟩ := x
  obtain ⟨a, n, c, rfl, hn, _⟩ := h2.is
  rw [flat_len (fun p _ => recC_len p)] at hn
  rw [List.length_map]
  exact ⟨a, c, by rw [show n = items.length by omega]⟩
def DNew (base : Nat) (h : Heap) (v : Value) (recs : List Rec) : Prop := ∃ items : List (Rec × Value), items.map (·.1) = recs ∧ RowV h 4 v (items.flatMap recC) ∧ (∀ b, blkOf v = some b → base ≤ b) ∧ ∀ p ∈ items, BRow h p.2 p.1.data ∧ ∀ b, blkOf p.2 = some b → base ≤ b
theorem DNew.row {base : Nat} {h : Heap} {v : Value} {recs : List Rec} (x : DNew base h v recs) : DRow h v recs := by
  obtain ⟨items, h1, h2, _, h3⟩ := x
  exact ⟨items, h1, h2, fun p hp => (h3 p hp).1⟩
theorem DNew.set {base : Nat} {h : Heap} {v : Value} {recs : List Rec} (x : DNew base h v recs) {c : Nat} (hc : c < base) (o : Blk) : DNew base (h.set c o) v recs := by
  obtain ⟨items, h1, h2, h4, h3⟩ := x
  exact ⟨items, h1, RowV.keep h2 (Nat.le_refl _) fun b hb _ => get_set_ne (by have := h4 b hb; omega), h4, fun p hp => ⟨RowV.keep (h3 p hp).1 (Nat.le_refl _) fun b hb _ => get_set_ne (by have := (h3 p hp).2 b hb; omega), (h3 p hp).2⟩⟩
theorem DRow.elems {h : Heap} {v : Value} {recs : List Rec} (x : DRow h v recs) (hr : recs ≠ []) : ∃ b o c, v = .slice (some ⟨b, o, none⟩) recs.length c ∧ b < h.next ∧
    ∀ (i : Nat) (r : Rec), recs[i]? = some r → ∃ d, cellsAt (h.get b) (o + i * 4) 4 = some [.int .i64 r.at_, .int .i64 r.len, .bool r.zero, d] ∧ BRow h d r.data := by
  obtain ⟨items, rfl, h2, h3⟩ := x
  have hl := flat_len (z := 4) (f := recC) (xs := items) (fun p _ => recC_len p)
  have hp : 0 < items.length := List.length_pos_iff.2 fun e => hr (by rw [e]; rfl)
  obtain ⟨b, o, n, c, rfl, hb, hn, _, _⟩ := h2.elem (i := 0) (by omega) (by omega)
  have hni : n = items.length := by omega
  subst hni
  refine ⟨b, o, c, by rw [List.length_map], hb, fun i r hi => ?_⟩
  rw [List.getElem?_map] at hi
  obtain ⟨p, hpi, rfl⟩ := Option.map_eq_some_iff.1 hi
  have hil : i < items.length := (List.getElem?_eq_some_iff.1 hpi).1
  obtain ⟨b', o', n', c', he, _, _, _, hc⟩ := h2.elem (i := i) (by omega) (by omega)
  cases he
  rw [flat_elem (fun p _ => recC_len p) hpi] at hc
  exact ⟨p.2, hc, h3 p (List.mem_of_getElem? hpi)⟩
end Go.Bm
open Go Go.Vi
namespace Go.Bm
def tab (n : Nat) (f : Nat → Value) : List Value := (List.range n).map f
theorem tab_len (n : Nat) (f : Nat → Value) : (tab n f).length = n := by unfold tab; simp
theorem tab_get (n : Nat) (f : Nat → Value) {i : Nat} (h : i < n) : (tab n f)[i]? = some (f i) := by
  unfold tab
  rw [List.getElem?_map, List.getElem?_range h]
  rfl
theorem tab_congr {n : Nat} {f g : Nat → Value} (h : ∀ i, i < n → f i = g i) : tab n f = tab n g := by
  unfold tab
  exact List.map_congr_left fun i hi => h i (List.mem_range.1 hi)
theorem tab_set (n : Nat) (f : Nat → Value) (i : Nat) (v : Value) : (tab n f).set i v = tab n fun j => if j = i then v else f j := by
  refine List.ext_getElem? fun j => ?_
  rw [List.getElem?_set, tab_len]
  by_cases hj : j < n
  · rw [tab_get n _ hj]
    by_cases e : i = j
    · subst e; rw [if_pos rfl, if_pos hj, tab_get n _ hj, if_pos rfl]
    · rw [if_neg e, tab_get n _ hj, if_neg fun x => e x.symm]
  · by_cases e : i = j
    · subst e; rw [if_pos rfl, if_neg hj, List.getElem?_eq_none (by rw [tab_len]; omega)]
    · rw [if_neg e, List.getElem?_eq_none (by rw [tab_len]; omega), List.getElem?_eq_none (by rw [tab_len]; omega)]
structure Sheet (h : Heap) (b t s n : Nat) (S : Nat → Option UInt8) : Prop where
  hs : h.get b = some (.cells [.slice (some ⟨t, 0, none⟩) n n, .slice (some ⟨s, 0, none⟩) n n] true none)
  ht : h.get t = some (.cells (tab n fun j => .bool (S j).isSome) true none)
  hb : h.get s = some (.cells (tab n fun j => byteV ((S j).getD 0)) true none)
  ne : b ≠ t ∧ b ≠ s ∧ t ≠ s
  lt : b < h.next ∧ t < h.next ∧ s < h.next
structure But (x y : Nat) (h h' : Heap) : Prop where
  next : h.next ≤ h'.next
  get : ∀ c, c < h.next → c ≠ x → c ≠ y → h'.get c = h.get c
theorem But.refl (x y : Nat) (h : Heap) : But x y h h := ⟨Nat.le_refl _, fun _ _ _ _ => rfl⟩
theorem But.trans {x y : Nat} {a b c : Heap} (h : But x y a b) (k : But x y b c) : But x y a c := ⟨Nat.le_trans h.next k.next, fun z hz h1 h2 => (k.get z (Nat.lt_of_lt_of_le hz h.next) h1 h2).trans (h.get z hz h1 h2)⟩
theorem But.of {x y : Nat} {h h' : Heap} (g : Grow h h') : But x y h h' := ⟨g.next, fun c hc _ _ => g.get c hc⟩
theorem But.grow {x y : Nat} {a h : Heap} (k : But x y a h) (hx : a.next ≤ x) (hy : a.next ≤ y) : Grow a h := ⟨k.next, fun c hc => k.get c hc (by omega) (by omega)⟩
theorem Sheet.tell {h : Heap} {b t s n : Nat} {S : Nat → Option UInt8} (x : Sheet h b t s n S) (i : Nat) (c : UInt8) :
    Sheet ((h.set t (.cells ((tab n fun j => .bool (S j).isSome).set i (.bool true)) true none)).set s (.cells ((tab n fun j => byteV ((S j).getD 0)).set i (byteV c)) true none)) b t s n (fun j => if j = i then some c else S j) := by
  obtain ⟨n1, n2, n3⟩ := x.ne
  refine ⟨?_, ?_, ?_, x.ne, x.lt⟩
  · rw [get_set_ne n2, get_set_ne n1]; exact x.hs
  · rw [get_set_ne n3, get_set_same, tab_set]
    congr 2
    refine tab_congr fun j _ => ?_
    by_cases e : j = i
    · rw [if_pos e, if_pos e]; rfl
    · rw [if_neg e, if_neg e]
  · rw [get_set_same, tab_set]
    congr 2
    refine tab_congr fun j _ => ?_
    by_cases e : j = i
    · rw [if_pos e, if_pos e]; rfl
    · rw [if_neg e, if_neg e]
theorem Sheet.congr {h : Heap} {b t s n : Nat} {S S' : Nat → Option UInt8} (x : Sheet h b t s n S) (e : ∀ j, j < n → S j = S' j) : Sheet h b t s n S' := by
  refine ⟨x.hs, ?_, ?_, x.ne, x.lt⟩
  · rw [x.ht]; congr 2; exact tab_congr fun j hj => by rw [e j hj]
  · rw [x.hb]; congr 2; exact tab_congr fun j hj => by rw [e j hj]
theorem Sheet.grow {h h' : Heap} {b t s n : Nat} {S : Nat → Option UInt8} (x : Sheet h b t s n S) (g : Grow h h') : Sheet h' b t s n S := by
  obtain ⟨l1, l2, l3⟩ := x.lt
  have := g.next
  exact ⟨by rw [g.get b l1]; exact x.hs, by rw [g.get t l2]; exact x.ht, by rw [g.get s l3]; exact x.hb, x.ne, by omega, by omega, by omega⟩
end Go.Bm
namespace Go.Bm
open Go Go.Vi
def u64 (n : Int) : Nat := (n % 18446744073709551616).toNat
def numB (n : Int) : List UInt8 := (List.range 8).map fun i => UInt8.ofNat (u64 n / 256 ^ i)
theorem numB_len (n : Int) : (numB n).length = 8 := by unfold numB; simp
theorem numB_eight (n : Int) : numB n = [UInt8.ofNat (u64 n), UInt8.ofNat (u64 n / 256), UInt8.ofNat (u64 n / 65536), UInt8.ofNat (u64 n / 16777216), UInt8.ofNat (u64 n / 4294967296), UInt8.ofNat (u64 n / 1099511627776), UInt8.ofNat (u64 n / 281474976710656), UInt8.ofNat (u64 n / 72057594037927936)] := by
  unfold numB
  rw [show List.range 8 = [0, 1, 2, 3, 4, 5, 6, 7] from rfl]
  simp only [List.map_cons, List.map_nil, Nat.pow_zero, Nat.div_one, Nat.reducePow]
theorem numB_get (n : Int) {i : Nat} (h : i < 8) : (numB n)[i]? = some (UInt8.ofNat (u64 n / 256 ^ i)) := by
  unfold numB
  rw [List.getElem?_map, List.getElem?_range h]
  rfl
theorem shr_byte (n : Int) {i : Nat} (h : i < 8) : IntKind.u8.wrap (n.fdiv (2 ^ (min (8 * (i : Int)).toNat 64))) = ((UInt8.ofNat (u64 n / 256 ^ i)).toNat : Int) := by
  rw [Int.fdiv_eq_ediv_of_nonneg _ (Int.pow_nonneg (by decide)), IntKind.wrap_u8, UInt8.toNat_ofNat']
  unfold u64
  match i, h with
  | 0, _ => simp only [show (2 : Int) ^ (min (8 * ((0 : Nat) : Int)).toNat 64) = 1 from rfl, Nat.pow_zero]; omega
  | 1, _ => simp only [show (2 : Int) ^ (min (8 * ((1 : Nat) : Int)).toNat 64) = 256 from rfl, Nat.reducePow]; omega
  | 2, _ => simp only [show (2 : Int) ^ (min (8 * ((2 : Nat) : Int)).toNat 64) = 65536 from rfl, Nat.reducePow]; omega
  | 3, _ => simp only [show (2 : Int) ^ (min (8 * ((3 : Nat) : Int)).toNat 64) = 16777216 from rfl, Nat.reducePow]; omega
  | 4, _ => simp only [show (2 : Int) ^ (min (8 * ((4 : Nat) : Int)).toNat 64) = 4294967296 from rfl, Nat.reducePow]; omega
  | 5, _ => simp only [show (2 : Int) ^ (min (8 * ((5 : Nat) : Int)).toNat 64) = 1099511627776 from rfl, Nat.reducePow]; omega
  | 6, _ => simp only [show (2 : Int) ^ (min (8 * ((6 : Nat) : Int)).toNat 64) = 281474976710656 from rfl, Nat.reducePow]; omega
  | 7, _ => simp only [show (2 : Int) ^ (min (8 * ((7 : Nat) : Int)).toNat 64) = 72057594037927936 from rfl, Nat.reducePow]; omega
  | k + 8, h => omega
def flagB (b : Bool) : UInt8 := if b then 1 else 0
end Go.Bm
