/- K4a: rows of bytes, and the table of powers. -/
import Derived.Test.YtijnnpbfgmmngaaGreatDoorK3
import Derived.Lib.LaidTab
import Derived.Laws.MakeOwn
import Derived.OwnWalk
open Go Go.Nm Go.Sort Go.RowKit
namespace Go.Proofs.YtijnnpbfgmmngaaGreatDoor.C
open Go.Vi (strOf KeptW)
def IsRow (w : World) (v : Value) (l : List UInt8) : Prop := (v = .slice none 0 0 ∧ l = []) ∨ ∃ a c, v = .slice (some a) l.length c ∧ (l ≠ [] → Lies w a l)
theorem IsRow.kept {w w' : World} {v : Value} {l : List UInt8} (h : IsRow w v l) (k : KeptW w w') : IsRow w' v l := by
  rcases h with h | ⟨a, c, hv, hl⟩
  · exact .inl h
  · exact .inr ⟨a, c, hv, fun h => (hl h).kept k⟩
theorem hexOf_calls (w : World) {v : Value} {l : List UInt8} (hn : l.length ≤ 2000) (h : IsRow w v l) : Calls Tryz.prog 23 #[v] w fun e w' => e = .returned (.string (strOf (hexS l))) ∧ KeptW w w' := by
  rcases h with ⟨rfl, rfl⟩ | ⟨a, c, rfl, hl⟩
  · exact hexOf_nil w none 0
  · cases l with
    | nil => exact hexOf_nil w (some a) c
    | cons b l => exact hexOf_some w a c _ (by simp) hn (hl (by simp))
def TabOk (w : World) : Prop := Lib.TabIs Tryz.prog w "internal/strconv.uint64pow10" .u64 Lib.pow10Tab
theorem tab_kept {w w' : World} (h : TabOk w) (k : KeptW w w') : TabOk w' := by
  unfold TabOk Lib.TabIs World.var? at h ⊢
  cases hg : Tryz.prog.globalNamed "internal/strconv.uint64pow10" with
  | none => rw [hg] at h; cases h
  | some g =>
    rw [hg] at h
    simp only [Option.bind_some] at h ⊢
    have hlt : g < w.heap.size := by
      rcases Nat.lt_or_ge g w.heap.size with h' | h'
      · exact h'
      · rw [Array.getElem?_eq_none h'] at h; cases h
    rw [k.2.2.2 g hlt]
    exact h
theorem grown (w : World) (k : Nat) (os : Array Obj) : KeptW w (grow (w.drewN k) os) := by
  refine ⟨rfl, rfl, ?_, fun i hi => ?_⟩
  · simp [grow, World.drewN]
  · simp only [grow, World.drewN]
    rw [Array.getElem?_append_left hi]
theorem itoa_calls (n : Int) (h0 : -9223372036854775808 ≤ n) (h1 : n ≤ 9223372036854775807) (w : World) (ht : TabOk w) :
    Calls Tryz.prog 22 #[.int .i64 n] w fun e w' => e = .returned (.string (strOf (Lib.itoa n))) ∧ KeptW w w' :=
  (Tryz.strconv_Itoa n h0 h1 w ht).mono fun _ _ ⟨he, k, os, hw⟩ => ⟨he, hw ▸ grown w k os⟩
theorem Lies.cut {w : World} {a : Addr} {l m : List UInt8} (h : Lies w a (l ++ m)) : Lies w a l := ⟨h.1, fun j b hj => h.2 j b (by rw [List.getElem?_append_left (List.getElem?_eq_some_iff.1 hj).1]; exact hj)⟩
theorem cell_kept {w w' : World} {B o : Nat} {u : Value} (k : KeptW w w') (h : w.cell? ⟨B, o, none⟩ = some u) : w'.cell? ⟨B, o, none⟩ = some u := by
  have hlt : B < w.heap.size := World.block_lt_of_cell? w _ h
  rw [← h]; unfold World.cell?; rw [k.2.2.2 B hlt]
end Go.Proofs.YtijnnpbfgmmngaaGreatDoor.C
