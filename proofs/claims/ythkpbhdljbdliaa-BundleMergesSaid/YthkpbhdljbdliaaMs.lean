/- Ms: diffs, in plain words: records, what a good diff is. -/
import Derived.Test.YthkpbhdljbdliaaVgI
open Go Go.Vi
namespace Go.Bm
structure Rec where
  at_ : Int
  len : Int
  zero : Bool
  data : List UInt8
  deriving DecidableEq
structure Dif where
  fr : Int
  to : Int
  recs : List Rec
  deriving DecidableEq
def goodR (to a : Int) (r : Rec) : Bool := decide (a ≤ r.at_ ∧ 1 ≤ r.len ∧ r.len ≤ to ∧ r.at_ ≤ to - r.len ∧ (r.data.length : Int) = if r.zero then 0 else r.len)
def goodL (to : Int) : Int → List Rec → Bool
  | _, [] => true
  | a, r :: rs => goodR to a r && goodL to (r.at_ + r.len) rs
def sizedB (n : Int) : Bool := decide (0 ≤ n ∧ n ≤ 4096)
def goodD (d : Dif) : Bool := sizedB d.fr && (sizedB d.to && goodL d.to 0 d.recs)
def in64 (n : Int) : Prop := -9223372036854775808 ≤ n ∧ n ≤ 9223372036854775807
structure RecOk (r : Rec) : Prop where
  at_ : in64 r.at_
  len : in64 r.len
structure DifOk (d : Dif) : Prop where
  fr : in64 d.fr
  to : in64 d.to
  recs : ∀ r ∈ d.recs, RecOk r
def recC (p : Rec × Value) : List Value := [.int .i64 p.1.at_, .int .i64 p.1.len, .bool p.1.zero, p.2]
def difC (d : Dif) (v : Value) : List Value := [.int .i64 d.fr, .int .i64 d.to, v]
theorem recC_len (p : Rec × Value) : (recC p).length = 4 := rfl
def DRow (h : Heap) (v : Value) (recs : List Rec) : Prop := ∃ items : List (Rec × Value), items.map (·.1) = recs ∧ RowV h 4 v (items.flatMap recC) ∧ ∀ p ∈ items, BRow h p.2 p.1.data
theorem DRow.grow {h h' : Heap} {v : Value} {recs : List Rec} (x : DRow h v recs) (g : Grow h h') : DRow h' v recs := by
  obtain ⟨items, h1, h2, h3⟩ := x
  exact ⟨items, h1, h2.grow g, fun p hp => RowV.grow (h3 p hp) g⟩
theorem DRow.nil (h : Heap) : DRow h (.slice none 0 0) [] := ⟨[], rfl, .nil h 4, fun _ h => nomatch h⟩
theorem DRow.one {h : Heap} {v : Value} {recs : List Rec} (x : DRow h v recs) : oneCell v = true := by
  obtain ⟨items, h1, h2, h3⟩ := x
  exact h2.one
theorem DRow.is {h : Heap} {v : Value} {recs : List Rec} (x : DRow h v recs) : ∃ a c, v = .slice a recs.length c := by
  obtain ⟨items, rfl, h2, h3⟩ := x
  obtain ⟨a, n, c, rfl, hn, _⟩ := h2.is
  rw [flat_len (fun p _ => recC_len p)] at hn
  rw [List.length_map]
  exact ⟨a, c, by rw [show n = items.length by omega]⟩
def DNew (base : Nat) (h : Heap) (v : Value) (recs : List Rec) : Prop := ∃ items : List (Rec × Value), items.map (·.1) = recs ∧ RowV h 4 v (items.flatMap recC) ∧ (∀ b, blkOf v = some b → base ≤ b) ∧ ∀ p ∈ items, BRow h p.2 p.1.data ∧ ∀ b, blkOf p.2 = some b → base ≤ b
theorem DNew.row {base : Nat} {h : Heap} {v : Value} {recs : List Rec} (x : DNew base h v recs) : DRow h v recs := by
  obtain ⟨items, h1, h2, _, h3⟩ := x
  exact ⟨items, h1, h2, fun p hp => (h3 p hp).1⟩
theorem DNew.set {base : Nat} {h : Heap} {v : Value} {recs : List Rec} (x : DNew base h v recs) {c : Nat} (hc : c < base) (o : Blk) : DNew base (h.set c o) v recs := by
  obtain ⟨items, h1, h2, h4, h3⟩ := x
  exact ⟨items, h1, RowV.keep h2 (Nat.le_refl _) fun b hb _ => get_set_ne (by have := h4 b hb; omega), h4, fun p hp => ⟨RowV.keep (h3 p hp).1 (Nat.le_refl _) fun b hb _ => get_set_ne (by have := (h3 p hp).2 b hb; omega), (h3 p hp).2⟩⟩
theorem DRow.elems {h : Heap} {v : Value} {recs : List Rec} (x : DRow h v recs) (hr : recs ≠ []) : ∃ b o c, v = .slice (some ⟨b, o, none⟩) recs.length c ∧ b < h.next ∧
    ∀ (i : Nat) (r : Rec), recs[i]? = some r → ∃ d, cellsAt (h.get b) (o + i * 4) 4 = some [.int .i64 r.at_, .int .i64 r.len, .bool r.zero, d] ∧ BRow h d r.data := by
  obtain ⟨items, rfl, h2, h3⟩ := x
  have hl := flat_len (z := 4) (f := recC) (xs := items) (fun p _ => recC_len p)
  have hp : 0 < items.length := List.length_pos_iff.2 fun e => hr (by rw [e]; rfl)
  obtain ⟨b, o, n, c, rfl, hb, hn, _, _⟩ := h2.elem (i := 0) (by omega) (by omega)
  have hni : n = items.length := by omega
  subst hni
  refine ⟨b, o, c, by rw [List.length_map], hb, fun i r hi => ?_⟩
  rw [List.getElem?_map] at hi
  obtain ⟨p, hpi, rfl⟩ := Option.map_eq_some_iff.1 hi
  have hil : i < items.length := (List.getElem?_eq_some_iff.1 hpi).1
  obtain ⟨b', o', n', c', he, _, _, _, hc⟩ := h2.elem (i := i) (by omega) (by omega)
  cases he
  rw [flat_elem (fun p _ => recC_len p) hpi] at hc
  exact ⟨p.2, hc, h3 p (List.mem_of_getElem? hpi)⟩
def recAt (r : Rec) (j : Nat) : Option UInt8 := if r.at_ ≤ (j : Int) ∧ (j : Int) < r.at_ + r.len then some (if r.zero then 0 else r.data.getD (j - r.at_.toNat) 0) else none
def tellsL : List Rec → Nat → Option UInt8
  | [], _ => none
  | r :: rs, j => match recAt r j with
    | some c => some c
    | none => tellsL rs j
def tellR (S : Nat → Option UInt8) (r : Rec) : Nat → Option UInt8 := fun j => match recAt r j with
  | some c => some c
  | none => S j
theorem goodR_of {to a : Int} {r : Rec} (h : goodR to a r = true) : a ≤ r.at_ ∧ 1 ≤ r.len ∧ r.len ≤ to ∧ r.at_ ≤ to - r.len ∧ (r.data.length : Int) = if r.zero then 0 else r.len := of_decide_eq_true h
theorem tells_ahead {to : Int} : ∀ {a : Int} {rs : List Rec}, goodL to a rs = true → ∀ j : Nat, (j : Int) < a → tellsL rs j = none
  | _, [], _, _, _ => rfl
  | a, r :: rs, h, j, hj => by
    rw [goodL, Bool.and_eq_true] at h
    obtain ⟨g1, g2, _⟩ := goodR_of h.1
    rw [tellsL, recAt, if_neg (by omega)]
    exact tells_ahead h.2 j (by omega)
theorem tells_fold {to : Int} : ∀ {a : Int} {rs : List Rec}, goodL to a rs = true → ∀ (S : Nat → Option UInt8) (j : Nat), rs.foldl tellR S j = match tellsL rs j with
    | some c => some c
    | none => S j
  | _, [], _, _, _ => rfl
  | a, r :: rs, h, S, j => by
    rw [goodL, Bool.and_eq_true] at h
    rw [List.foldl_cons, tells_fold h.2, tellsL]
    cases hr : recAt r j with
    | none =>
      cases tellsL rs j with
      | none => show tellR S r j = S j; unfold tellR; rw [hr]
      | some c => rfl
    | some c =>
      have hj : (j : Int) < r.at_ + r.len := by
        unfold recAt at hr
        split at hr
        · rename_i q; exact q.2
        · cases hr
      rw [tells_ahead h.2 j hj]
      show tellR S r j = some c
      unfold tellR
      rw [hr]
theorem goodL_at {to : Int} : ∀ {a : Int} {rs : List Rec}, goodL to a rs = true → 0 ≤ a → ∀ r ∈ rs, 0 ≤ r.at_ ∧ 1 ≤ r.len ∧ r.at_ + r.len ≤ to ∧ (r.data.length : Int) = if r.zero then 0 else r.len
  | _, [], _, _, _, h => by cases h
  | a, r :: rs, h, ha, x, hx => by
    rw [goodL, Bool.and_eq_true] at h
    obtain ⟨g1, g2, g3, g4, g5⟩ := goodR_of h.1
    rcases List.mem_cons.1 hx with rfl | hx
    · exact ⟨by omega, g2, by omega, g5⟩
    · exact goodL_at h.2 (by omega) x hx
end Go.Bm
