/- K4: the walks: numbers, names and halves of the program's. -/
import Derived.Test.YtijnnpbfgmmngaaGreatDoorK4a
import Derived.Test.YtijnnpbfgmmngaaGreatDoorTx
import Derived.Test.YtijnnpbfgmmngaaGreatDoorKS
open Go Go.Nm Go.Sort Go.RowKit
namespace Go.Proofs.YtijnnpbfgmmngaaGreatDoor.C
open Go.Vi (strOf KeptW)
open Go.Tk
structure EnvW (w : World) : Prop where
  tab : TabOk w
  ml : ∃ m, w.cell? ⟨0, 0, none⟩ = some (.int .i64 m)
  es : ∃ te pe, w.cell? ⟨1, 0, none⟩ = some (.iface te pe)
  er : ∃ te pe, w.cell? ⟨2, 0, none⟩ = some (.iface te pe)
theorem EnvW.kept {w w' : World} (h : EnvW w) (k : KeptW w w') : EnvW w' := by
  obtain ⟨t, ⟨m, hm⟩, ⟨a, b, hs⟩, c, d, hr⟩ := h
  exact ⟨tab_kept t k, ⟨m, cell_kept k hm⟩, ⟨a, b, cell_kept k hs⟩, c, d, cell_kept k hr⟩
theorem strOf_size (l : List UInt8) : (strOf l).size = l.length := rfl
theorem strOf_toList (a : List UInt8) : (strOf a).toList = a := by
  rw [ByteArray.toList_eq]
  rfl
theorem strOf_ne {a b : List UInt8} (h : a ≠ b) : ((strOf a).toList == (strOf b).toList) = false := by
  rw [strOf_toList, strOf_toList, beq_eq_false_iff_ne]
  exact h
theorem kept_bytes (w : World) (t : ByteArray) : KeptW w (Lib.bytesWorld w 5 t) := by
  unfold Lib.bytesWorld
  refine ⟨rfl, rfl, ?_, fun k hk => ?_⟩
  · rw [World.freeze, if_neg (by decide)]
    simp only
    rw [Array.size_modify]
    exact Nat.le_trans (Nat.le_of_eq rfl) (((Below.refl _ w.drew).alloc (Nat.le_refl _) _).size)
  · rw [World.freeze, if_neg (by decide)]
    simp only
    rw [Array.getElem?_modify, if_neg (by omega)]
    exact Below.heap_alloc w.drew _ k hk
set_option maxHeartbeats 4000000
set_option maxRecDepth 1000000
theorem atoi_calls (l : List UInt8) (hl : l.length ≤ 100000) (w : World) (h : EnvW w) :
    Calls Tryz.prog 29 #[.string (strOf l)] w fun e w' => KeptW w w' ∧ ((∃ v, Lib.atoiAll l = .ok v ∧ e = .returned (.tuple #[.int .i64 v, .nilIface])) ∨ ((∀ v, Lib.atoiAll l ≠ .ok v) ∧ ∃ te pe, e = .returned (.tuple #[.int .i64 (numV l), .iface te pe]))) := by
  rcases hq : Lib.atoiAll l with v | _ | _
  · refine (Tryz.strconv_Atoi_ok (strOf l) (by rw [strOf_size]; omega) v hq w).mono fun e w' hh => ?_
    obtain ⟨he, hw⟩ := hh
    refine ⟨?_, .inl ⟨v, rfl, he⟩⟩
    rcases hw with rfl | ⟨t, rfl⟩
    · exact .refl _
    · exact kept_bytes w t
  · obtain ⟨te, pe, hv⟩ := h.es
    have hn : numV l = 0 := by unfold numV; rw [hq]
    rw [hn]
    refine (Tryz.strconv_Atoi_syntax (strOf l) (by rw [strOf_size]; omega) hq _ w hv (.inr ⟨te, pe, rfl⟩)).mono fun e w' hh => ?_
    obtain ⟨N, he, _, _, hb⟩ := hh
    exact ⟨kept_of_below hb, .inr ⟨(fun v hv => by cases hv), _, _, he⟩⟩
  · obtain ⟨te, pe, hv⟩ := h.er
    have hn : numV l = Lib.atoiSat l := by unfold numV; rw [hq]
    rw [hn]
    refine (Tryz.strconv_Atoi_range (strOf l) (by rw [strOf_size]; omega) hq _ w hv (.inr ⟨te, pe, rfl⟩)).mono fun e w' hh => ?_
    obtain ⟨N, he, _, _, hb⟩ := hh
    exact ⟨kept_of_below hb, .inr ⟨(fun v hv => by cases hv), _, _, he⟩⟩
theorem number_calls (l : List UInt8) (hl : l.length ≤ 100000) (w : World) (h : EnvW w) :
    Calls Tryz.prog 18 #[.string (strOf l)] w fun e w' => e = .returned (.tuple #[.int .i64 (numV l), .bool (numB l)]) ∧ KeptW w w' := by
  cases hq : Lib.atoiAll l with
  | ok v =>
    have hr := atoi_range hq
    have ca : Calls Tryz.prog 29 #[.string (strOf l)] w fun e w' => e = .returned (.tuple #[.int .i64 v, .nilIface]) ∧ KeptW w w' := (atoi_calls l hl w h).mono fun e w' hh => by
      obtain ⟨k, hh⟩ := hh
      rcases hh with ⟨v', hv', he⟩ | ⟨hn, _⟩
      · rw [hq] at hv'; injection hv' with hv'; subst hv'; exact ⟨he, k⟩
      · exact absurd hq (hn v)
    have ci : ∀ w', KeptW w w' → Calls Tryz.prog 22 #[.int .i64 v] w' fun e w2 => e = .returned (.string (strOf (Lib.itoa v))) ∧ KeptW w' w2 := fun w' k => itoa_calls v hr.1 hr.2 w' (tab_kept h.tab k)
    have hnv : numV l = v := by unfold numV; rw [hq]
    have hnb : numB l = (Lib.itoa v == l) := by unfold numB; rw [hq]
    rw [hnv, hnb]
    by_cases he : Lib.itoa v = l
    · have hb : (Lib.itoa v == l) = true := by rw [he]; simp
      rw [hb]
      clear hb hnv hnb
      rw [he] at ci
      generalize strOf l = A at ca ci ⊢
      clear hq hr h he hl
      go_enter Tryz.func18, Tryz.ntmps18
      go_wp2_with (first | (go_at_call 29; refine ca.mono ?_; rintro e w1 ⟨rfl, k1⟩) | (go_at_call 22; refine (ci _ k1).mono ?_; rintro e w2 ⟨rfl, k2⟩))
      go_ret2
      exact ⟨rfl, k1.trans k2⟩
    · have hb : (Lib.itoa v == l) = false := by rw [beq_eq_false_iff_ne]; exact he
      rw [hb]
      clear hb hnv hnb
      have hne := strOf_ne he
      generalize strOf (Lib.itoa v) = B at ci hne
      generalize strOf l = A at ca hne ⊢
      clear hq hr h he hl
      go_enter Tryz.func18, Tryz.ntmps18
      go_wp2_with (first | (go_at_call 29; refine ca.mono ?_; rintro e w1 ⟨rfl, k1⟩) | (go_at_call 22; refine (ci _ k1).mono ?_; rintro e w2 ⟨rfl, k2⟩))
      go_ret2
      exact ⟨rfl, k1.trans k2⟩
  | _ =>
    have hb : ∀ v, Lib.atoiAll l ≠ .ok v := fun v e => by rw [hq] at e; cases e
    have hnb : numB l = false := by unfold numB; rw [hq]
    rw [hnb]
    have ca : Calls Tryz.prog 29 #[.string (strOf l)] w fun e w' => ∃ te pe, e = .returned (.tuple #[.int .i64 (numV l), .iface te pe]) ∧ KeptW w w' := (atoi_calls l hl w h).mono fun e w' hh => by
      obtain ⟨k, hh⟩ := hh
      rcases hh with ⟨v', hv', _⟩ | ⟨_, te, pe, he⟩
      · exact absurd hv' (hb v')
      · exact ⟨te, pe, he, k⟩
    generalize strOf l = A at ca ⊢
    generalize numV l = v at ca ⊢
    clear hq hb h hl hnb
    go_enter Tryz.func18, Tryz.ntmps18
    go_wp2_with (go_at_call 29; refine ca.mono ?_; rintro e w1 ⟨te, pe, rfl, k1⟩)
    go_ret2
    exact ⟨rfl, k1⟩
end Go.Proofs.YtijnnpbfgmmngaaGreatDoor.C
