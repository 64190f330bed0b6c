/- K4a: rows of bytes, and the table of powers. -/
import Derived.Test.YtkloflhiipebmaaDoorK3
import Derived.Lib.LaidTab
import Derived.Laws.MakeOwn
import Derived.OwnWalk
open Go Go.Nm Go.Sort Go.RowKit
namespace Go.Proofs.YtkloflhiipebmaaDoor.C
open Go.Vi (strOf KeptW)
/-- a slice of bytes. -/
def IsRow (w : World) (v : Value) (l : List UInt8) : Prop := (v = .slice none 0 0 ∧ l = []) ∨ ∃ a c, v = .slice (some a) l.length c ∧ (l ≠ [] → Lies w a l)
theorem IsRow.kept {w w' : World} {v : Value} {l : List UInt8} (h : IsRow w v l) (k : KeptW w w') : IsRow w' v l := by
  rcases h with h | ⟨a, c, hv, hl⟩
  · exact .inl h
  · exact .inr ⟨a, c, hv, fun h => (hl h).kept k⟩
theorem hex_calls (w : World) {v : Value} {l : List UInt8} (hn : l.length ≤ 2000) (h : IsRow w v l) : Calls Tryd.prog 47 #[v] w fun e w' => e = .returned (.string (strOf (hexS l))) ∧ KeptW w w' := by
  rcases h with ⟨rfl, rfl⟩ | ⟨a, c, rfl, hl⟩
  · exact refHex_nil w none 0
  · cases l with
    | nil => exact refHex_nil w (some a) c
    | cons b l => exact refHex_some w a c _ (by simp) hn (hl (by simp))
theorem hexOf_calls (w : World) {v : Value} {l : List UInt8} (hn : l.length ≤ 2000) (h : IsRow w v l) : Calls Tryd.prog 33 #[v] w fun e w' => e = .returned (.string (strOf (hexS l))) ∧ KeptW w w' := by
  rcases h with ⟨rfl, rfl⟩ | ⟨a, c, rfl, hl⟩
  · exact hexOf_nil w none 0
  · cases l with
    | nil => exact hexOf_nil w (some a) c
    | cons b l => exact hexOf_some w a c _ (by simp) hn (hl (by simp))
theorem hexS_len {l : List UInt8} (hn : l.length ≤ 2000) : (hexS l).length ≤ 4000 := by
  unfold hexS
  split
  · simp
  · rw [hexL_len]; omega
def TabOk (w : World) : Prop := Lib.TabIs Tryd.prog w "internal/strconv.uint64pow10" .u64 Lib.pow10Tab
theorem tab_kept {w w' : World} (h : TabOk w) (k : KeptW w w') : TabOk w' := by
  unfold TabOk Lib.TabIs World.var? at h ⊢
  cases hg : Tryd.prog.globalNamed "internal/strconv.uint64pow10" with
  | none => rw [hg] at h; cases h
  | some g =>
    rw [hg] at h
    simp only [Option.bind_some] at h ⊢
    have hlt : g < w.heap.size := by
      rcases Nat.lt_or_ge g w.heap.size with h' | h'
      · exact h'
      · rw [Array.getElem?_eq_none h'] at h; cases h
    rw [k.2.2.2 g hlt]
    exact h
theorem grown (w : World) (k : Nat) (os : Array Obj) : KeptW w (grow (w.drewN k) os) := by
  refine ⟨rfl, rfl, ?_, fun i hi => ?_⟩
  · simp [grow, World.drewN]
  · simp only [grow, World.drewN]
    rw [Array.getElem?_append_left hi]
theorem itoa_calls (n : Int) (h0 : -9223372036854775808 ≤ n) (h1 : n ≤ 9223372036854775807) (w : World) (ht : TabOk w) :
    Calls Tryd.prog 27 #[.int .i64 n] w fun e w' => e = .returned (.string (strOf (Lib.itoa n))) ∧ KeptW w w' :=
  (Tryd.strconv_Itoa n h0 h1 w ht).mono fun _ _ ⟨he, k, os, hw⟩ => ⟨he, hw ▸ grown w k os⟩
theorem kept_grown {w w' : World} {r : Option Nat} (h : w.grownBy w' r) (hr : ∀ k, r = some k → w.heap.size ≤ k := by intro k h; cases h) : KeptW w w' :=
  ⟨h.os, h.output, h.size, fun k hk => h.block k hk (fun e => by have := hr k e.symm; omega)⟩
theorem kept_by {w a b : World} {r : Option Nat} (h : KeptW w a) (g : a.grownBy b r) (hr : ∀ k, r = some k → w.heap.size ≤ k) : KeptW w b :=
  ⟨g.os.trans h.1, g.output.trans h.2.1, Nat.le_trans h.2.2.1 g.size, fun k hk => (g.block k (Nat.lt_of_lt_of_le hk h.2.2.1) (fun e => by have := hr k e.symm; omega)).trans (h.2.2.2 k hk)⟩
theorem lies_of_own {w : World} {B g n cap : Nat} {l : List UInt8} (h : w.ownsRow B 5 1 (.slice (some ⟨g, 0, none⟩) n cap) n (Lib.byteCells l)) : Lies w ⟨g, 0, none⟩ l := by
  rcases h.2 with ⟨hv, _⟩ | ⟨g', c', cur, hv, _, hg, _, _, _, htk⟩
  · cases hv
  · cases hv
    refine ⟨(Array.getElem?_eq_some_iff.1 hg).1, fun j b hj => ?_⟩
    have hj0 : (⟨g, 0, none⟩ : Addr).add j = ⟨g, j, none⟩ := by
      unfold Addr.add
      split <;> simp_all
    rw [hj0]
    simp only [World.cell?, hg]
    have h1 : (Lib.byteCells l)[j]? = some (.int .u8 (b.toNat : Int)) := by simp [Lib.byteCells, hj]
    rw [← htk, List.getElem?_take] at h1
    split at h1
    · simpa using h1
    · cases h1
theorem kept_alloc (w : World) (o : Obj) : KeptW w (w.alloc o) := kept_of_below ((Below.refl _ w).alloc (Nat.le_refl _) o)
theorem Lies.cut {w : World} {a : Addr} {l m : List UInt8} (h : Lies w a (l ++ m)) : Lies w a l := ⟨h.1, fun j b hj => h.2 j b (by rw [List.getElem?_append_left (List.getElem?_eq_some_iff.1 hj).1]; exact hj)⟩
theorem cell_kept {w w' : World} {B o : Nat} {u : Value} (k : KeptW w w') (h : w.cell? ⟨B, o, none⟩ = some u) : w'.cell? ⟨B, o, none⟩ = some u := by
  have hlt : B < w.heap.size := World.block_lt_of_cell? w _ h
  rw [← h]; unfold World.cell?; rw [k.2.2.2 B hlt]
theorem cell_new (w : World) (a b c : Value) (t : TypeId) : (w.alloc (.cells #[a, b, c] t)).cell? ⟨w.heap.size, 0, none⟩ = some a := by
  have h : (w.alloc (.cells #[a, b, c] t)).heap[w.heap.size]? = some (.cells #[a, b, c] t (0, 0)) := heap_alloc_new w _
  unfold World.cell?
  simp only [h]
  rfl
end Go.Proofs.YtkloflhiipebmaaDoor.C
