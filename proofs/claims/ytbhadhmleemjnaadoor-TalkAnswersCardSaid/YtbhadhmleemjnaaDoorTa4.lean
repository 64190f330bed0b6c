/- Ta4: the walks: an answer's line, the document's and the program's. -/
import Derived.Test.YtbhadhmleemjnaaDoorTa2
import Derived.Test.YtbhadhmleemjnaaDoorTa3
import Derived.Lib.LaidTab
open Go Go.Nm Go.Sort Go.RowKit
namespace Go.Proofs.YtbhadhmleemjnaaDoor.C
open Go.Vi (strOf)
/-- a slice of bytes. -/
def IsRow (w : World) (v : Value) (l : List UInt8) : Prop := (v = .slice none 0 0 ∧ l = []) ∨ ∃ a c, v = .slice (some a) l.length c ∧ (l ≠ [] → Lies w a l)
theorem IsRow.kept {w w' : World} {v : Value} {l : List UInt8} (h : IsRow w v l) (k : KeptW w w') : IsRow w' v l := by
  rcases h with h | ⟨a, c, hv, hl⟩
  · exact .inl h
  · exact .inr ⟨a, c, hv, fun h => (hl h).kept k⟩
theorem hex_calls (w : World) {v : Value} {l : List UInt8} (hn : l.length ≤ 2000) (h : IsRow w v l) : Calls Tryd.prog 15 #[v] w fun e w' => e = .returned (.string (strOf (hexS l))) ∧ KeptW w w' := by
  rcases h with ⟨rfl, rfl⟩ | ⟨a, c, rfl, hl⟩
  · exact refHex_nil w none 0
  · cases l with
    | nil => exact refHex_nil w (some a) c
    | cons b l => exact refHex_some w a c _ (by simp) hn (hl (by simp))
theorem hexOf_calls (w : World) {v : Value} {l : List UInt8} (hn : l.length ≤ 2000) (h : IsRow w v l) : Calls Tryd.prog 12 #[v] w fun e w' => e = .returned (.string (strOf (hexS l))) ∧ KeptW w w' := by
  rcases h with ⟨rfl, rfl⟩ | ⟨a, c, rfl, hl⟩
  · exact hexOf_nil w none 0
  · cases l with
    | nil => exact hexOf_nil w (some a) c
    | cons b l => exact hexOf_some w a c _ (by simp) hn (hl (by simp))
theorem hexS_len {l : List UInt8} (hn : l.length ≤ 2000) : (hexS l).length ≤ 4000 := by
  unfold hexS
  split
  · simp
  · rw [hexL_len]; omega
def TabOk (w : World) : Prop := Lib.TabIs Tryd.prog w "internal/strconv.uint64pow10" .u64 Lib.pow10Tab
theorem tab_kept {w w' : World} (h : TabOk w) (k : KeptW w w') : TabOk w' := by
  unfold TabOk Lib.TabIs World.var? at h ⊢
  cases hg : Tryd.prog.globalNamed "internal/strconv.uint64pow10" with
  | none => rw [hg] at h; cases h
  | some g =>
    rw [hg] at h
    simp only [Option.bind_some] at h ⊢
    have hlt : g < w.heap.size := by
      rcases Nat.lt_or_ge g w.heap.size with h' | h'
      · exact h'
      · rw [Array.getElem?_eq_none h'] at h; cases h
    rw [k.2.2.2 g hlt]
    exact h
theorem grown (w : World) (k : Nat) (os : Array Obj) : KeptW w (grow (w.drewN k) os) := by
  refine ⟨rfl, rfl, ?_, fun i hi => ?_⟩
  · simp [grow, World.drewN]
  · simp only [grow, World.drewN]
    rw [Array.getElem?_append_left hi]
theorem itoa_calls (n : Int) (h0 : -9223372036854775808 ≤ n) (h1 : n ≤ 9223372036854775807) (w : World) (ht : TabOk w) :
    Calls Tryd.prog 11 #[.int .i64 n] w fun e w' => e = .returned (.string (strOf (Lib.itoa n))) ∧ KeptW w w' :=
  (Tryd.strconv_Itoa n h0 h1 w ht).mono fun e w' ⟨he, k, os, hw⟩ => ⟨he, hw ▸ grown w k os⟩
/-- the line. -/
def ansL (l : List UInt8) (n bad : Int) : List UInt8 := if bad = 0 then [111, 107, 32] ++ Lib.itoa n ++ [32] ++ hexS l else [101, 114, 114, 111, 114, 32] ++ wordOf bad
set_option maxHeartbeats 4000000
set_option maxRecDepth 1000000
theorem refAnswer_bad (w : World) (v : Value) (l : List UInt8) (n bad : Int) (hb : bad ≠ 0) : Calls Tryd.prog 7 #[v, .int .i64 n, .int .i64 bad] w fun e w' => e = .returned (.string (strOf (ansL l n bad))) ∧ KeptW w w' := by
  have hs : ({ data := #[101, 114, 114, 111, 114, 32] } ++ strOf (wordOf bad) : ByteArray) = strOf (ansL l n bad) := by
    unfold ansL
    rw [if_neg hb]
    apply ByteArray.ext
    simp [strOf]
  rw [← hs]
  clear hs
  have hz : (strOf (wordOf bad)).size ≤ 9 := wordOf_len bad
  have hc := word_calls bad
  generalize strOf (wordOf bad) = A at hc hz ⊢
  have q1 : ¬ 9223372036854775807 < 6 + A.size := by omega
  have hb' : (bad == (0 : Int)) = false := by simpa using hb
  have hb2 : (bad != (0 : Int)) = true := by simpa using hb
  clear hz hb
  go_enter Tryd.func7, Tryd.ntmps7
  go_wp2_with (go_at_call 13; (with_reducible refine (hc _).mono ?_); rintro e w1 ⟨rfl, k1⟩)
  go_ret
  exact ⟨rfl, k1⟩
theorem refAnswer_ok (w : World) (v : Value) (l : List UInt8) (n : Int) (h0 : -9223372036854775808 ≤ n) (h1 : n ≤ 9223372036854775807) (hn : l.length ≤ 2000) (hv : IsRow w v l) :
    Calls Tryd.prog 7 #[v, .int .i64 n, .int .i64 0] w fun e w' => e = .returned (.string (strOf (ansL l n 0))) ∧ KeptW w w' := by
  have hs : ({ data := #[111, 107, 32] } ++ strOf (Lib.itoa n) ++ { data := #[32] } ++ strOf (hexS l) : ByteArray) = strOf (ansL l n 0) := by
    unfold ansL
    rw [if_pos rfl]
    apply ByteArray.ext
    simp [strOf]
  rw [← hs]
  clear hs
  have z1 : (strOf (Lib.itoa n)).size ≤ 21 := itoa_len h0 h1
  have z2 : (strOf (hexS l)).size ≤ 4000 := hexS_len hn
  have c1 := fun w => fig_calls n h0 h1 w
  have c2 : ∀ w', KeptW w w' → Calls Tryd.prog 15 #[v] w' fun e w2 => e = .returned (.string (strOf (hexS l))) ∧ KeptW w' w2 := fun w' k => hex_calls w' hn (hv.kept k)
  generalize strOf (Lib.itoa n) = A at c1 z1 ⊢
  generalize strOf (hexS l) = B at c2 z2 ⊢
  have q1 : ¬ 9223372036854775807 < 3 + A.size := by omega
  have q2 : ¬ 9223372036854775807 < 3 + A.size + 1 := by omega
  have q3 : ¬ 9223372036854775807 < 3 + A.size + 1 + B.size := by omega
  clear z1 z2 h0 h1 hn hv
  go_enter Tryd.func7, Tryd.ntmps7
  go_wp2_with (first | (go_at_call 14; (with_reducible refine (c1 _).mono ?_); rintro e w1 ⟨rfl, k1⟩) | (go_at_call 15; (with_reducible refine (c2 _ k1).mono ?_); rintro e w2 ⟨rfl, k2⟩))
  go_ret
  exact ⟨rfl, k1.trans k2⟩
end Go.Proofs.YtbhadhmleemjnaaDoor.C
