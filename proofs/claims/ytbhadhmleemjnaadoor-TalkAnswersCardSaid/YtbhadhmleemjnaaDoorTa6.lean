/- Ta6: the walks: a copy with two marks behind it, and whether they stand. -/
import Derived.Test.YtbhadhmleemjnaaDoorTa4
import Derived.Laws.MakeOwn
import Derived.OwnWalk
open Go Go.Nm Go.Sort Go.RowKit
namespace Go.Proofs.YtbhadhmleemjnaaDoor.C
open Go.Vi (strOf)
set_option maxHeartbeats 4000000
set_option maxRecDepth 1000000
theorem kept_grown {w w' : World} {r : Option Nat} (h : w.grownBy w' r) (hr : ∀ k, r = some k → w.heap.size ≤ k := by intro k h; cases h) : KeptW w w' :=
  ⟨h.os, h.output, h.size, fun k hk => h.block k hk (fun e => by have := hr k e.symm; omega)⟩
theorem kept_by {w a b : World} {r : Option Nat} (h : KeptW w a) (g : a.grownBy b r) (hr : ∀ k, r = some k → w.heap.size ≤ k) : KeptW w b :=
  ⟨g.os.trans h.1, g.output.trans h.2.1, Nat.le_trans h.2.2.1 g.size, fun k hk => (g.block k (Nat.lt_of_lt_of_le hk h.2.2.1) (fun e => by have := hr k e.symm; omega)).trans (h.2.2.2 k hk)⟩
theorem lies_of_own {w : World} {B g n cap : Nat} {l : List UInt8} (h : w.ownsRow B 5 1 (.slice (some ⟨g, 0, none⟩) n cap) n (Lib.byteCells l)) : Lies w ⟨g, 0, none⟩ l := by
  rcases h.2 with ⟨hv, _⟩ | ⟨g', c', cur, hv, _, hg, _, _, _, htk⟩
  · cases hv
  · cases hv
    refine ⟨(Array.getElem?_eq_some_iff.1 hg).1, fun j b hj => ?_⟩
    have hj0 : (⟨g, 0, none⟩ : Addr).add j = ⟨g, j, none⟩ := by
      unfold Addr.add
      split <;> simp_all
    rw [hj0]
    simp only [World.cell?, hg]
    have h1 : (Lib.byteCells l)[j]? = some (.int .u8 (b.toNat : Int)) := by simp [Lib.byteCells, hj]
    rw [← htk, List.getElem?_take] at h1
    split at h1
    · simpa using h1
    · cases h1
theorem copy_calls (w : World) (v : Value) (l : List UInt8) (hn : l.length ≤ 2000) (hv : IsRow w v l) :
    Calls Tryd.prog 5 #[v] w fun e w' => ∃ g, e = .returned (.slice (some ⟨g, 0, none⟩) l.length (l.length + 2)) ∧ Lies w' ⟨g, 0, none⟩ (l ++ [165, 90]) ∧ KeptW w w' ∧ w.heap.size ≤ g := by
  obtain ⟨i0, hi0, hz0, hz1, hz2⟩ := info_parts info5
  obtain ⟨x, c, rfl, hx⟩ : ∃ x c, v = .slice x l.length c ∧ ((x = none ∧ l = [] ∧ c = 0) ∨ ∃ a, x = some a ∧ (l ≠ [] → Lies w a l)) := by
    rcases hv with ⟨rfl, rfl⟩ | ⟨a, c, rfl, hl⟩
    · exact ⟨none, 0, rfl, .inl ⟨rfl, rfl, rfl⟩⟩
    · exact ⟨some a, c, rfl, .inr ⟨a, rfl, hl⟩⟩
  have hnone : x = none → l.length = 0 ∧ c = 0 := fun h => by
    rcases hx with ⟨_, rfl, rfl⟩ | ⟨a, rfl, _⟩
    · exact ⟨rfl, rfl⟩
    · cases h
  have hcells : ∀ w', KeptW w w' → ∀ ad, x = some ad → ∀ j u, (Lib.byteCells l)[j]? = some u → w'.cell? (ad.add j) = some u := by
    intro w' k ad had j u hj
    rcases hx with ⟨rfl, _⟩ | ⟨a, rfl, hl⟩
    · cases had
    · cases had
      have := (hl (by rintro rfl; simp [Lib.byteCells] at hj)).kept k
      simp only [Lib.byteCells, List.getElem?_map, Option.map_eq_some_iff] at hj
      obtain ⟨b, hb, rfl⟩ := hj
      exact this.2 j b hb
  have hone : ∀ u ∈ Lib.byteCells l, u.oneCell' = true := by
    intro u hu
    obtain ⟨b, _, rfl⟩ := List.mem_map.1 hu
    rfl
  clear hx hv
  go_enter Tryd.func5, Tryd.ntmps5
  go_wp2_with (first
    | (at_make; refine wpList_make_own _ rfl _ _ 22 rfl w.heap.size 5 i0 _ 1 Tryd.underlying22 hi0 hz0 hz1 .i64 .i64 (l.length + 2 : Nat) (l.length + 2) rfl (by simp [Act.eval]) rfl (by rw [hz2]; omega) (by unfold maxLen; omega) (Nat.le_refl _) ?_; intro w1 hown1 hg1; have K1 := kept_grown hg1)
    | (at_builtin; refine wpList_append_fits _ rfl _ _ 22 rfl w.heap.size 5 i0 1 Tryd.underlying22 hi0 hz1 w.heap.size l.length (l.length + 2) (Lib.byteCells l) (by rfl) (hown2.alloc _) ⟨w2.heap.size, 0, none⟩ 2 2 [.int .u8 165, .int .u8 90] (by rfl) (by rfl) (World.news_of_block (cs := #[.int .u8 165, .int .u8 90]) (t := 5) (fr := (0, 0)) (heap_alloc_new w2 _)) (by simp [Value.oneCell']) (by omega) ?_; intro w4 hown4 hg4)
    | (at_builtin; refine wpList_append_fits_any _ rfl _ _ 22 rfl w.heap.size 5 i0 1 Tryd.underlying22 hi0 hz1 w.heap.size 0 (l.length + 2) [] (by rfl) hown1 x l.length c (Lib.byteCells l) (by rfl) (by simp [Lib.byteCells_length]) hnone (hcells _ K1) hone (by omega) ?_; intro w2 hown2 hg2; rw [Nat.zero_add, List.nil_append] at hown2))
  go_ret
  have K2 := kept_by K1 hg2 (fun k hk => by cases hk; exact Nat.le_refl _)
  have K3 := K2.trans (kept_of_below ((Below.refl _ w2).alloc (Nat.le_refl _) (.cells #[.int .u8 165, .int .u8 90] 5)))
  have K4 := kept_by K3 hg4 (fun k hk => by cases hk; exact Nat.le_refl _)
  have hb : Lib.byteCells (l ++ [165, 90]) = Lib.byteCells l ++ [.int .u8 165, .int .u8 90] := by simp [Lib.byteCells]
  rw [← hb] at hown4
  exact ⟨w.heap.size, rfl, lies_of_own hown4, K4, Nat.le_refl _⟩
theorem run_str_row (w : World) (v : Value) (l : List UInt8) (h : IsRow w v l) : (convert 22 9 v).run Tryd.prog w = .ok (.string (strOf l)) w := by
  rcases h with ⟨rfl, rfl⟩ | ⟨a, c, rfl, hl⟩
  · rw [run_convert_bytes_string w 22 9 5 none 0 0 Tryd.underlying22 Tryd.underlying5 Tryd.underlying9]
    rfl
  · exact run_str w a l c (fun j b hj => (hl (by rintro rfl; simp at hj)).2 j b hj)
theorem kept_calls (w : World) (v : Value) (l : List UInt8) (g : Nat) (hn : l.length ≤ 2000) (hv : IsRow w v l) (hm : Lies w ⟨g, 0, none⟩ (l ++ [165, 90])) :
    Calls Tryd.prog 8 #[.slice (some ⟨g, 0, none⟩) l.length (l.length + 2), v] w fun e w' => e = .returned (.bool true) ∧ KeptW w w' := by
  have c1 : (convert 22 9 (.slice (some ⟨g, 0, none⟩) l.length (l.length + 2))).run Tryd.prog w = .ok (.string (strOf l)) w := run_str w ⟨g, 0, none⟩ l (l.length + 2) (fun j b hj => hm.2 j b (by rw [List.getElem?_append_left (List.getElem?_eq_some_iff.1 hj).1]; exact hj))
  have c2 := run_str_row w v l hv
  have ha : ∀ j, (⟨g, 0, none⟩ : Addr).add j = ⟨g, j, none⟩ := fun j => by
    unfold Addr.add
    split <;> simp_all
  have d1 : w.cell? ⟨g, l.length, none⟩ = some (.int .u8 165) := by
    rw [← ha]; exact hm.2 l.length 165 (by simp)
  have d2 : w.cell? ⟨g, l.length + 1, none⟩ = some (.int .u8 90) := by
    rw [← ha]; exact hm.2 (l.length + 1) 90 (by simp)
  obtain ⟨x, c, rfl⟩ : ∃ x c, v = .slice x l.length c := by
    rcases hv with ⟨rfl, rfl⟩ | ⟨a, c, rfl, _⟩
    · exact ⟨none, 0, rfl⟩
    · exact ⟨some a, c, rfl⟩
  generalize strOf l = A at c1 c2
  clear hv hm ha
  go_enter Tryd.func8, Tryd.ntmps8
  go_wp2
  go_ret
  exact ⟨rfl, .refl w⟩
end Go.Proofs.YtbhadhmleemjnaaDoor.C
