/- Ta7: the walk: the law. -/
import Derived.Test.YtbhadhmleemjnaaDoorTa5
import Derived.Test.YtbhadhmleemjnaaDoorTa6
open Go Go.Nm Go.Sort Go.RowKit
namespace Go.Proofs.YtbhadhmleemjnaaDoor.C
open Go.Vi (strOf)
set_option maxHeartbeats 4000000
set_option maxRecDepth 1000000
theorem kept_alloc (w : World) (o : Obj) : KeptW w (w.alloc o) := kept_of_below ((Below.refl _ w).alloc (Nat.le_refl _) o)
theorem Lies.cut {w : World} {a : Addr} {l m : List UInt8} (h : Lies w a (l ++ m)) : Lies w a l := ⟨h.1, fun j b hj => h.2 j b (by rw [List.getElem?_append_left (List.getElem?_eq_some_iff.1 hj).1]; exact hj)⟩
theorem cell_kept {w w' : World} {B o : Nat} {u : Value} (k : KeptW w w') (h : w.cell? ⟨B, o, none⟩ = some u) : w'.cell? ⟨B, o, none⟩ = some u := by
  have hlt : B < w.heap.size := World.block_lt_of_cell? w _ h
  rw [← h]; unfold World.cell?; rw [k.2.2.2 B hlt]
theorem cell_new (w : World) (a b c : Value) (t : TypeId) : (w.alloc (.cells #[a, b, c] t)).cell? ⟨w.heap.size, 0, none⟩ = some a := by
  have h : (w.alloc (.cells #[a, b, c] t)).heap[w.heap.size]? = some (.cells #[a, b, c] t (0, 0)) := heap_alloc_new w _
  unfold World.cell?
  simp only [h]
  rfl
theorem law_long (w : World) (v : Value) (l : List UInt8) (n bad : Int) (hl : 2000 < l.length) (hv : IsRow w v l) : Calls Tryd.prog 3 #[v, .int .i64 n, .int .i64 bad] w fun e w' => e = .returned (.bool true) ∧ KeptW w w' := by
  obtain ⟨x, c, rfl⟩ : ∃ x c, v = .slice x l.length c := by
    rcases hv with ⟨rfl, rfl⟩ | ⟨a, c, rfl, _⟩
    · exact ⟨none, 0, rfl⟩
    · exact ⟨some a, c, rfl⟩
  have h1 : decide ((l.length : Int) > 2000) = true := by simp; omega
  clear hv
  go_enter Tryd.func3, Tryd.ntmps3
  go_wp2_with (go_at_call 4; refine (alive_calls _).mono ?_; rintro e w1 ⟨rfl, k1⟩)
  go_ret
  exact ⟨rfl, k1⟩
theorem law_ok (w : World) (v : Value) (l : List UInt8) (n : Int) (h0 : -9223372036854775808 ≤ n) (h1 : n ≤ 9223372036854775807) (hl : l.length ≤ 2000) (hv : IsRow w v l) (ht : TabOk w) :
    Calls Tryd.prog 3 #[v, .int .i64 n, .int .i64 0] w fun e w' => e = .returned (.bool true) ∧ KeptW w w' := by
  obtain ⟨x, c, rfl⟩ : ∃ x c, v = .slice x l.length c := by
    rcases hv with ⟨rfl, rfl⟩ | ⟨a, c, rfl, _⟩
    · exact ⟨none, 0, rfl⟩
    · exact ⟨some a, c, rfl⟩
  have d1 : decide ((l.length : Int) > 2000) = false := by simp; omega
  have c5 := fun (w' : World) (k : KeptW w w') => copy_calls w' _ l hl (hv.kept k)
  have c6 := fun (w' : World) (g : Nat) (k : KeptW w w') (L : Lies w' ⟨g, 0, none⟩ (l ++ [165, 90])) => answer_ok w' (.slice (some ⟨g, 0, none⟩) l.length (l.length + 2)) l n h0 h1 hl (.inr ⟨_, _, rfl, fun _ => L.cut⟩) (tab_kept ht k)
  have c7 := fun (w' : World) (k : KeptW w w') => refAnswer_ok w' _ l n h0 h1 hl (hv.kept k)
  have c8 := fun (w' : World) (g : Nat) (k : KeptW w w') (L : Lies w' ⟨g, 0, none⟩ (l ++ [165, 90])) => kept_calls w' _ l g hl (hv.kept k) L
  generalize strOf (ansL l n 0) = A at c6 c7
  clear hv h0 h1 hl ht
  go_enter Tryd.func3, Tryd.ntmps3
  go_wp2_with (first
    | (go_at_call 4; refine (alive_calls _).mono ?_; rintro e w1 ⟨rfl, k1⟩)
    | (go_at_call 5; refine (c5 _ k1).mono ?_; rintro e w2 ⟨g, rfl, l2, k2, hg⟩; have K3 := (k1.trans k2).trans (show KeptW w2 (w2.alloc (.cells #[.slice (some ⟨g, 0, none⟩) l.length (l.length + 2), .int .i64 n, .nilIface] 28)) from kept_alloc w2 _); have L3 := l2.kept (show KeptW w2 (w2.alloc (.cells #[.slice (some ⟨g, 0, none⟩) l.length (l.length + 2), .int .i64 n, .nilIface] 28)) from kept_alloc w2 _); have D3 : (w2.alloc (.cells #[.slice (some ⟨g, 0, none⟩) l.length (l.length + 2), .int .i64 n, .nilIface] 28)).cell? ⟨w2.heap.size, 0, none⟩ = some (.slice (some ⟨g, 0, none⟩) l.length (l.length + 2)) := cell_new w2 _ _ _ 28)
    | (go_at_call 6; refine (c6 _ g K3 L3).mono ?_; rintro e w4 ⟨rfl, k4⟩; have K4 := K3.trans k4; have L4 := L3.kept k4; have D4 := cell_kept k4 D3)
    | (go_at_call 7; refine (c7 _ K4).mono ?_; rintro e w5 ⟨rfl, k5⟩; have K5 := K4.trans k5; have L5 := L4.kept k5; have D5 := cell_kept k5 D4)
    | (go_at_call 8; refine (c8 _ g K5 L5).mono ?_; rintro e w6 ⟨rfl, k6⟩))
  go_ret
  exact ⟨rfl, K5.trans k6⟩
theorem law_bad (w : World) (v : Value) (l : List UInt8) (n bad : Int) (hb : bad ≠ 0) (h0 : -9223372036854775808 ≤ n) (h1 : n ≤ 9223372036854775807) (hl : l.length ≤ 2000) (hv : IsRow w v l) (ht : TabOk w) :
    Calls Tryd.prog 3 #[v, .int .i64 n, .int .i64 bad] w fun e w' => e = .returned (.bool true) ∧ KeptW w w' := by
  obtain ⟨x, c, rfl⟩ : ∃ x c, v = .slice x l.length c := by
    rcases hv with ⟨rfl, rfl⟩ | ⟨a, c, rfl, _⟩
    · exact ⟨none, 0, rfl⟩
    · exact ⟨some a, c, rfl⟩
  have d1 : decide ((l.length : Int) > 2000) = false := by simp; omega
  have d2 : (bad == (0 : Int)) = false := by simpa using hb
  have d3 : (bad != (0 : Int)) = true := by simpa using hb
  have c5 := fun (w' : World) (k : KeptW w w') => copy_calls w' _ l hl (hv.kept k)
  have c6 := fun (w' : World) (g : Nat) (k : KeptW w w') (L : Lies w' ⟨g, 0, none⟩ (l ++ [165, 90])) => answer_bad w' (.slice (some ⟨g, 0, none⟩) l.length (l.length + 2)) l n bad hb
  have c7 := fun (w' : World) (k : KeptW w w') => refAnswer_bad w' (.slice x l.length c) l n bad hb
  have c8 := fun (w' : World) (g : Nat) (k : KeptW w w') (L : Lies w' ⟨g, 0, none⟩ (l ++ [165, 90])) => kept_calls w' _ l g hl (hv.kept k) L
  generalize strOf (ansL l n bad) = A at c6 c7
  clear hv h0 h1 hl ht hb
  go_enter Tryd.func3, Tryd.ntmps3
  go_wp2_with (first
    | (go_at_call 4; refine (alive_calls _).mono ?_; rintro e w1 ⟨rfl, k1⟩)
    | (go_at_call 5; refine (c5 _ k1).mono ?_; rintro e w2 ⟨g, rfl, l2, k2, hg⟩; have K3 := (k1.trans k2).trans (show KeptW w2 (w2.alloc (.cells #[.slice (some ⟨g, 0, none⟩) l.length (l.length + 2), .int .i64 n, .iface 29 (.int .i64 bad)] 28)) from kept_alloc w2 _); have L3 := l2.kept (show KeptW w2 (w2.alloc (.cells #[.slice (some ⟨g, 0, none⟩) l.length (l.length + 2), .int .i64 n, .iface 29 (.int .i64 bad)] 28)) from kept_alloc w2 _); have D3 : (w2.alloc (.cells #[.slice (some ⟨g, 0, none⟩) l.length (l.length + 2), .int .i64 n, .iface 29 (.int .i64 bad)] 28)).cell? ⟨w2.heap.size, 0, none⟩ = some (.slice (some ⟨g, 0, none⟩) l.length (l.length + 2)) := cell_new w2 _ _ _ 28)
    | (go_at_call 6; refine (c6 _ g K3 L3).mono ?_; rintro e w4 ⟨rfl, k4⟩; have K4 := K3.trans k4; have L4 := L3.kept k4; have D4 := cell_kept k4 D3)
    | (go_at_call 7; refine (c7 _ K4).mono ?_; rintro e w5 ⟨rfl, k5⟩; have K5 := K4.trans k5; have L5 := L4.kept k5; have D5 := cell_kept k5 D4)
    | (go_at_call 8; refine (c8 _ g K5 L5).mono ?_; rintro e w6 ⟨rfl, k6⟩))
  go_ret
  exact ⟨rfl, K5.trans k6⟩
theorem law_calls (v : Value) (l : List UInt8) (n bad : Int) (h0 : -9223372036854775808 ≤ n) (h1 : n ≤ 9223372036854775807) (w : World) (hv : IsRow w v l) (ht : TabOk w) :
    Calls Tryd.prog 3 #[v, .int .i64 n, .int .i64 bad] w fun e w' => e = .returned (.bool true) ∧ KeptW w w' := by
  by_cases hl : l.length ≤ 2000
  · by_cases hb : bad = 0
    · subst hb
      exact law_ok w v l n h0 h1 hl hv ht
    · exact law_bad w v l n bad hb h0 h1 hl hv ht
  · exact law_long w v l n bad (by omega) hv
end Go.Proofs.YtbhadhmleemjnaaDoor.C
