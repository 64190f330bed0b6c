/- Ta5: the walks: the program's line of an answer. -/
import Derived.Test.YtbhadhmleemjnaaDoorTa4
import Derived.Deep.RegionHeld3
open Go Go.Nm Go.Sort Go.RowKit
namespace Go.Proofs.YtbhadhmleemjnaaDoor.C
open Go.Vi (strOf)
set_option maxHeartbeats 4000000
set_option maxRecDepth 1000000
theorem answer_bad (w : World) (v : Value) (l : List UInt8) (n bad : Int) (hb : bad ≠ 0) : Calls Tryd.prog 6 #[.agg #[v, .int .i64 n, .iface 29 (.int .i64 bad)]] w fun e w' => e = .returned (.string (strOf (ansL l n bad))) ∧ KeptW w w' := by
  have hs : ({ data := #[101, 114, 114, 111, 114, 32] } ++ strOf (wordOf bad) : ByteArray) = strOf (ansL l n bad) := by
    unfold ansL
    rw [if_neg hb]
    apply ByteArray.ext
    simp [strOf]
  rw [← hs]
  clear hs
  have hz : (strOf (wordOf bad)).size ≤ 9 := wordOf_len bad
  have hc := named_calls bad
  generalize strOf (wordOf bad) = A at hc hz ⊢
  have q1 : ¬ 9223372036854775807 < 6 + A.size := by omega
  clear hz hb
  go_enter Tryd.func6, Tryd.ntmps6
  go_wp2_with (go_at_call 10; (with_reducible refine (hc _).mono ?_); rintro e w1 ⟨rfl, k1⟩)
  go_ret
  exact ⟨rfl, (kept_of_below ((Below.refl _ w).alloc (Nat.le_refl _) _)).trans k1⟩
theorem keepS {B : Nat} {W0 w1 w2 : World} {a b : Value} (k : KeptW w1 w2) (h0 : w1.cell? ⟨B, 0, none⟩ = some a) (h1 : w1.cell? ⟨B, 1, none⟩ = some b) (h2 : KeptW W0 w1) :
    w2.cell? ⟨B, 0, none⟩ = some a ∧ w2.cell? ⟨B, 1, none⟩ = some b ∧ KeptW W0 w2 := by
  have hlt : B < w1.heap.size := World.block_lt_of_cell? w1 _ h0
  refine ⟨?_, ?_, h2.trans k⟩
  · rw [← h0]; unfold World.cell?; rw [k.2.2.2 B hlt]
  · rw [← h1]; unfold World.cell?; rw [k.2.2.2 B hlt]
theorem startS (w : World) (a b c : Value) : (w.alloc (.cells #[a, b, c] 28)).drew.cell? ⟨w.heap.size, 0, none⟩ = some a ∧ (w.alloc (.cells #[a, b, c] 28)).drew.cell? ⟨w.heap.size, 1, none⟩ = some b ∧
    KeptW (w.alloc (.cells #[a, b, c] 28)) (w.alloc (.cells #[a, b, c] 28)).drew := by
  have h : (w.alloc (.cells #[a, b, c] 28)).drew.heap[w.heap.size]? = some (.cells #[a, b, c] 28 (0, 0)) := heap_alloc_new w _
  refine ⟨?_, ?_, ⟨rfl, rfl, Nat.le_refl _, fun _ _ => rfl⟩⟩
  · unfold World.cell?
    simp only [h]
    rfl
  · unfold World.cell?
    simp only [h]
    rfl
theorem answer_ok (w : World) (v : Value) (l : List UInt8) (n : Int) (h0 : -9223372036854775808 ≤ n) (h1 : n ≤ 9223372036854775807) (hn : l.length ≤ 2000) (hv : IsRow w v l) (ht : TabOk w) :
    Calls Tryd.prog 6 #[.agg #[v, .int .i64 n, .nilIface]] w fun e w' => e = .returned (.string (strOf (ansL l n 0))) ∧ KeptW w w' := by
  have hs : ({ data := #[111, 107, 32] } ++ strOf (Lib.itoa n) ++ { data := #[32] } ++ strOf (hexS l) : ByteArray) = strOf (ansL l n 0) := by
    unfold ansL
    rw [if_pos rfl]
    apply ByteArray.ext
    simp [strOf]
  rw [← hs]
  clear hs
  have z1 : (strOf (Lib.itoa n)).size ≤ 21 := itoa_len h0 h1
  have z2 : (strOf (hexS l)).size ≤ 4000 := hexS_len hn
  have c1 : ∀ w', KeptW w w' → Calls Tryd.prog 11 #[.int .i64 n] w' fun e w2 => e = .returned (.string (strOf (Lib.itoa n))) ∧ KeptW w' w2 := fun w' k => itoa_calls n h0 h1 w' (tab_kept ht k)
  have c2 : ∀ w', KeptW w w' → Calls Tryd.prog 12 #[v] w' fun e w2 => e = .returned (.string (strOf (hexS l))) ∧ KeptW w' w2 := fun w' k => hexOf_calls w' hn (hv.kept k)
  generalize strOf (Lib.itoa n) = A at c1 z1 ⊢
  generalize strOf (hexS l) = B at c2 z2 ⊢
  have q1 : ¬ 9223372036854775807 < 3 + A.size := by omega
  have q2 : ¬ 9223372036854775807 < 3 + A.size + 1 := by omega
  have q3 : ¬ 9223372036854775807 < 3 + A.size + 1 + B.size := by omega
  have hvo : v.oneCell' = true := by rcases hv with ⟨rfl, _⟩ | ⟨a, c, rfl, _⟩ <;> rfl
  obtain ⟨x, len, cap, rfl⟩ : ∃ x len cap, v = .slice x len cap := by rcases hv with ⟨rfl, _⟩ | ⟨a, c, rfl, _⟩ <;> exact ⟨_, _, _, rfl⟩
  clear z1 z2 h0 h1 hn hv ht hvo
  have k0 : KeptW w (w.alloc (.cells #[.slice x len cap, .int .i64 n, .nilIface] 28)) := kept_of_below ((Below.refl _ w).alloc (Nat.le_refl _) _)
  go_enter Tryd.func6, Tryd.ntmps6
  go_wp2_with fail
  go_region_held3 (fun w' => w'.cell? ⟨w.heap.size, 0, none⟩ = some (.slice x len cap) ∧ w'.cell? ⟨w.heap.size, 1, none⟩ = some (.int .i64 n) ∧ KeptW (w.alloc (.cells #[.slice x len cap, .int .i64 n, .nilIface] 28)) w')
    (first | exact startS _ _ _ _ | (go_split_ands; exact keepS (by assumption) (by assumption) (by assumption) (by assumption)) | go_keep)
    ((first | (go_at_call 11; go_split_ands; refine (c1 _ (KeptW.trans k0 (by assumption))).mono ?_; rintro e w1 ⟨rfl, k1⟩) | (go_at_call 12; go_split_ands; refine (c2 _ (KeptW.trans k0 (by assumption))).mono ?_; rintro e w2 ⟨rfl, k2⟩)))
  all_goals
    go_wp2
    go_ret
    exact ⟨rfl, (k0.trans (by assumption)).trans k2⟩
end Go.Proofs.YtbhadhmleemjnaaDoor.C
