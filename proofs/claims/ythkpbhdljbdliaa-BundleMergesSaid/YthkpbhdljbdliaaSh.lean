/- Sh: sheets: rows that are given point by point. -/
import Derived.Test.YthkpbhdljbdliaaMs
open Go Go.Vi
namespace Go.Bm
def tab (n : Nat) (f : Nat → Value) : List Value := (List.range n).map f
theorem tab_len (n : Nat) (f : Nat → Value) : (tab n f).length = n := by unfold tab; simp
theorem tab_get (n : Nat) (f : Nat → Value) {i : Nat} (h : i < n) : (tab n f)[i]? = some (f i) := by
  unfold tab
  rw [List.getElem?_map, List.getElem?_range h]
  rfl
theorem tab_congr {n : Nat} {f g : Nat → Value} (h : ∀ i, i < n → f i = g i) : tab n f = tab n g := by
  unfold tab
  exact List.map_congr_left fun i hi => h i (List.mem_range.1 hi)
theorem tab_set (n : Nat) (f : Nat → Value) (i : Nat) (v : Value) : (tab n f).set i v = tab n fun j => if j = i then v else f j := by
  refine List.ext_getElem? fun j => ?_
  rw [List.getElem?_set, tab_len]
  by_cases hj : j < n
  · rw [tab_get n _ hj]
    by_cases e : i = j
    · subst e; rw [if_pos rfl, if_pos hj, tab_get n _ hj, if_pos rfl]
    · rw [if_neg e, tab_get n _ hj, if_neg fun x => e x.symm]
  · by_cases e : i = j
    · subst e; rw [if_pos rfl, if_neg hj, List.getElem?_eq_none (by rw [tab_len]; omega)]
    · rw [if_neg e, List.getElem?_eq_none (by rw [tab_len]; omega), List.getElem?_eq_none (by rw [tab_len]; omega)]
theorem tab_rep (n : Nat) (v : Value) : List.replicate n v = tab n fun _ => v := by
  refine List.ext_getElem? fun j => ?_
  by_cases hj : j < n
  · rw [tab_get n _ hj, List.getElem?_replicate, if_pos hj]
  · rw [List.getElem?_eq_none (by simp; omega), List.getElem?_eq_none (by rw [tab_len]; omega)]
theorem tab_splice (n : Nat) (f : Nat → Value) (o : Nat) (l : List Value) (h : o + l.length ≤ n) : splice (tab n f) o l = tab n fun j => if o ≤ j ∧ j < o + l.length then l.getD (j - o) undef else f j := by
  unfold splice
  refine List.ext_getElem? fun j => ?_
  by_cases hj : j < n
  · rw [tab_get n _ hj]
    by_cases h1 : j < o
    · rw [if_neg (by omega), List.append_assoc, List.getElem?_append_left (by rw [List.length_take, tab_len]; omega), List.getElem?_take, if_pos h1, tab_get n _ hj]
    · by_cases h2 : j < o + l.length
      · rw [if_pos ⟨by omega, h2⟩, List.append_assoc, List.getElem?_append_right (by rw [List.length_take, tab_len]; omega), List.length_take, tab_len, Nat.min_eq_left (by omega), List.getElem?_append_left (by omega), List.getD_eq_getElem?_getD,
          List.getElem?_eq_getElem (by omega)]
        rfl
      · rw [if_neg (by omega), List.getElem?_append_right (by rw [List.length_append, List.length_take, tab_len]; omega), List.length_append, List.length_take, tab_len, Nat.min_eq_left (by omega), List.getElem?_drop,
          show o + l.length + (j - (o + l.length)) = j from by omega, tab_get n _ hj]
  · rw [List.getElem?_eq_none (by simp [tab_len]; omega), List.getElem?_eq_none (by rw [tab_len]; omega)]
structure Sheet (h : Heap) (b t s n : Nat) (S : Nat → Option UInt8) : Prop where
  hs : h.get b = some (.cells [.slice (some ⟨t, 0, none⟩) n n, .slice (some ⟨s, 0, none⟩) n n] true none)
  ht : h.get t = some (.cells (tab n fun j => .bool (S j).isSome) true none)
  hb : h.get s = some (.cells (tab n fun j => byteV ((S j).getD 0)) true none)
  ne : b ≠ t ∧ b ≠ s ∧ t ≠ s
  lt : b < h.next ∧ t < h.next ∧ s < h.next
structure But (x y : Nat) (h h' : Heap) : Prop where
  next : h.next ≤ h'.next
  get : ∀ c, c < h.next → c ≠ x → c ≠ y → h'.get c = h.get c
theorem But.refl (x y : Nat) (h : Heap) : But x y h h := ⟨Nat.le_refl _, fun _ _ _ _ => rfl⟩
theorem But.trans {x y : Nat} {a b c : Heap} (h : But x y a b) (k : But x y b c) : But x y a c := ⟨Nat.le_trans h.next k.next, fun z hz h1 h2 => (k.get z (Nat.lt_of_lt_of_le hz h.next) h1 h2).trans (h.get z hz h1 h2)⟩
theorem But.of {x y : Nat} {h h' : Heap} (g : Grow h h') : But x y h h' := ⟨g.next, fun c hc _ _ => g.get c hc⟩
theorem But.setx {x y : Nat} {a h : Heap} (k : But x y a h) (o : Blk) : But x y a (h.set x o) := ⟨k.next, fun c hc h1 h2 => (get_set_ne h1).trans (k.get c hc h1 h2)⟩
theorem But.sety {x y : Nat} {a h : Heap} (k : But x y a h) (o : Blk) : But x y a (h.set y o) := ⟨k.next, fun c hc h1 h2 => (get_set_ne h2).trans (k.get c hc h1 h2)⟩
theorem But.grow {x y : Nat} {a h : Heap} (k : But x y a h) (hx : a.next ≤ x) (hy : a.next ≤ y) : Grow a h := ⟨k.next, fun c hc => k.get c hc (by omega) (by omega)⟩
theorem Sheet.tell {h : Heap} {b t s n : Nat} {S : Nat → Option UInt8} (x : Sheet h b t s n S) (i : Nat) (c : UInt8) :
    Sheet ((h.set t (.cells ((tab n fun j => .bool (S j).isSome).set i (.bool true)) true none)).set s (.cells ((tab n fun j => byteV ((S j).getD 0)).set i (byteV c)) true none)) b t s n (fun j => if j = i then some c else S j) := by
  obtain ⟨n1, n2, n3⟩ := x.ne
  refine ⟨?_, ?_, ?_, x.ne, x.lt⟩
  · rw [get_set_ne n2, get_set_ne n1]; exact x.hs
  · rw [get_set_ne n3, get_set_same, tab_set]
    congr 2
    refine tab_congr fun j _ => ?_
    by_cases e : j = i
    · rw [if_pos e, if_pos e]; rfl
    · rw [if_neg e, if_neg e]
  · rw [get_set_same, tab_set]
    congr 2
    refine tab_congr fun j _ => ?_
    by_cases e : j = i
    · rw [if_pos e, if_pos e]; rfl
    · rw [if_neg e, if_neg e]
theorem Sheet.congr {h : Heap} {b t s n : Nat} {S S' : Nat → Option UInt8} (x : Sheet h b t s n S) (e : ∀ j, j < n → S j = S' j) : Sheet h b t s n S' := by
  refine ⟨x.hs, ?_, ?_, x.ne, x.lt⟩
  · rw [x.ht]; congr 2; exact tab_congr fun j hj => by rw [e j hj]
  · rw [x.hb]; congr 2; exact tab_congr fun j hj => by rw [e j hj]
theorem Sheet.grow {h h' : Heap} {b t s n : Nat} {S : Nat → Option UInt8} (x : Sheet h b t s n S) (g : Grow h h') : Sheet h' b t s n S := by
  obtain ⟨l1, l2, l3⟩ := x.lt
  have := g.next
  exact ⟨by rw [g.get b l1]; exact x.hs, by rw [g.get t l2]; exact x.ht, by rw [g.get s l3]; exact x.hb, x.ne, by omega, by omega, by omega⟩
def runEnd (S : Nat → Option UInt8) : Nat → Nat → Nat
  | 0, i => i
  | k + 1, i => if (S i).isSome then runEnd S k (i + 1) else i
theorem runEnd_le (S : Nat → Option UInt8) : ∀ k i, i ≤ runEnd S k i ∧ runEnd S k i ≤ i + k
  | 0, i => ⟨Nat.le_refl _, Nat.le_refl _⟩
  | k + 1, i => by
    rw [runEnd]
    split
    · have := runEnd_le S k (i + 1); omega
    · omega
def segB (S : Nat → Option UInt8) (i k : Nat) : List UInt8 := (List.range k).map fun j => (S (i + j)).getD 0
theorem segB_len (S : Nat → Option UInt8) (i k : Nat) : (segB S i k).length = k := by unfold segB; simp
def anyB (l : List UInt8) : Bool := l.any fun c => c != 0
def mkRec (i : Nat) (l : List UInt8) : Rec := if anyB l then ⟨i, l.length, false, l⟩ else ⟨i, l.length, true, []⟩
def runsP (S : Nat → Option UInt8) (n : Nat) : Nat → Nat → List Rec
  | 0, _ => []
  | k + 1, i => if i < n then
      if i < runEnd S (n - i) i then mkRec i (segB S i (runEnd S (n - i) i - i)) :: runsP S n k (runEnd S (n - i) i + 1) else runsP S n k (i + 1)
    else []
theorem tab_seg (n : Nat) (S : Nat → Option UInt8) {i k : Nat} (h : i + k ≤ n) : ((tab n fun j => byteV ((S j).getD 0)).drop i).take k = (segB S i k).map byteV := by
  refine List.ext_getElem? fun j => ?_
  rw [List.getElem?_take, List.getElem?_drop]
  by_cases hj : j < k
  · rw [if_pos hj, tab_get n _ (by omega), List.getElem?_map]
    unfold segB
    rw [List.getElem?_map, List.getElem?_range hj]
    rfl
  · rw [if_neg hj, List.getElem?_eq_none (by rw [List.length_map, segB_len]; omega)]
def applyF (F : Nat → UInt8) (r : Rec) : Nat → UInt8 := fun j => (recAt r j).getD (F j)
def sizedF (l : List UInt8) : Nat → UInt8 := fun j => l.getD j 0
def applyL (d : Dif) (l : List UInt8) : List UInt8 := (List.range d.to.toNat).map (d.recs.foldl applyF (sizedF l))
theorem range_tab (n : Nat) (F : Nat → UInt8) : ((List.range n).map F).map byteV = tab n fun j => byteV (F j) := by
  unfold tab
  rw [List.map_map]
  rfl
def mergeS (a b : Dif) : Nat → Option UInt8 := b.recs.foldl tellR (a.recs.foldl tellR fun j => if a.to ≤ (j : Int) ∧ (j : Int) < a.fr then some 0 else none)
def mergeD (a b : Dif) : Dif := ⟨a.fr, b.to, runsP (mergeS a b) b.to.toNat (b.to.toNat + 1) 0⟩
end Go.Bm
