/- Nm1: what the law's functions answer. -/
import Derived.Test.YtgcghdoggjnllaaGreatDoorAlive
import Derived.Test.YtgcghdoggjnllaaGreatDoorNm0
import Derived.Test.YtgcghdoggjnllaaGreatDoorShelf
import Derived.WalkKit
import Derived.Below
open Go Go.Vi Go.Nm Go.Sort Go.RowKit
namespace Go.Proofs.YtgcghdoggjnllaaGreatDoor.C
def KeptW (w w' : World) : Prop := w'.os = w.os ∧ w'.output = w.output ∧ w.heap.size ≤ w'.heap.size ∧ ∀ k, k < w.heap.size → w'.heap[k]? = w.heap[k]?
theorem KeptW.refl (w : World) : KeptW w w := ⟨rfl, rfl, Nat.le_refl _, fun _ _ => rfl⟩
theorem KeptW.trans {a b c : World} (h : KeptW a b) (k : KeptW b c) : KeptW a c := ⟨k.1.trans h.1, k.2.1.trans h.2.1, Nat.le_trans h.2.2.1 k.2.2.1, fun i hi => (k.2.2.2 i (Nat.lt_of_lt_of_le hi h.2.2.1)).trans (h.2.2.2 i hi)⟩
theorem KeptW.may {w w' : World} (h : KeptW w w') (may : MemPlace → Prop) : w.keptBut w' may := ⟨h.1, h.2.1, fun i hi => by
  rw [h.2.2.2 i hi]
  split <;> simp_all⟩
theorem calls_plain {P : Program} {E : Env} (ok : EnvOk P E) {n : Nat} {f : FuncId} {args : List Value} {v : Value} {h' : Heap} (hp : args.all (plainB 100) = true) (hq : plainB 100 v = true) (hv : callV E n f args h0 = some (v, h')) (w : World) :
    Calls P f ⟨args⟩ w fun e w' => e = .returned v ∧ KeptW w w' := by
  refine ((call_ok ok n).calls f args h0 _ h' hv (fun _ => none) w ⟨args⟩ (good0 w) (fun _ _ _ => rfl) (plain_rels (fun v => plain_rel 100 v) args hp)).mono ?_
  rintro e w' ⟨ρ', v', rfl, rv, g', s⟩
  have := plain_inv 100 _ _ hq rv
  subst this
  exact ⟨rfl, s.side.1, s.side.2, s.grow, fun k hk => s.rframe k hk (fun _ _ h => (nomatch h))⟩
theorem alive_calls (w : World) : Calls Tryz.prog 4 #[] w fun e w' => e = .returned (.bool true) ∧ KeptW w w' := by
  obtain ⟨h', hr⟩ := isTrue_inv alive_run
  exact calls_plain okC3 rfl rfl ((call_le EC3 3000).fn _ _ _ _ hr) w
/-! ## The document's answer -/
noncomputable def i9 : Ty := (E0.ty 9).getD dTy
noncomputable def i3 : Ty := (E0.ty 3).getD dTy
noncomputable def i63 : Ty := (E0.ty 63).getD dTy
theorem te9 : E0.ty 9 = some i9 := by kernel_rfl
theorem te3 : E0.ty 3 = some i3 := by kernel_rfl
theorem te63 : E0.ty 63 = some i63 := by kernel_rfl
theorem tu9 : i9.under = .string := by kernel_rfl
theorem tu3 : i3.under = .int .i64 := by kernel_rfl
theorem tu63 : i63.under = .int .u64 := by kernel_rfl
noncomputable def n22 : Fun := (E0.fn 22).getD ⟨Tryz.f22, .skip, fun _ => none⟩
noncomputable def n11 : Fun := (E0.fn 11).getD ⟨Tryz.f11, .skip, fun _ => none⟩
noncomputable def n6 : Fun := (E0.fn 6).getD ⟨Tryz.f6, .skip, fun _ => none⟩
set_option maxRecDepth 100000
theorem unsigned_ok (u : Nat) (hu : u < 18446744073709551616) (n : Nat) (h : Heap) : callV E0 (n + 20) 22 [.int .u64 (.ofNat u)] h = some (.string (strOf (Lib.decDigits u)), h) :=
  unsigned_eq (E := E0) (F := 22) (S := 9) (U := 63) (B := 4) (fn := n22) (i := i9) (by kernel_rfl) (by kernel_rfl) (by kernel_rfl) (by kernel_rfl) (by kernel_rfl) (by kernel_rfl) te9 tu9 19 u (lt20 hu) hu n h
theorem figures_ok (z : Int) (h0 : -9223372036854775808 ≤ z) (h1 : z ≤ 9223372036854775807) (n : Nat) (h : Heap) : callV E0 (n + 21) 11 [.int .i64 z] h = some (.string (strOf (Lib.itoa z)), h) :=
  figures_eq (E := E0) (F := 22) (G := 11) (S := 9) (U := 63) (B := 4) (I := 3) (fg := n11) unsigned_ok (by kernel_rfl) (by kernel_rfl) (by kernel_rfl) (by kernel_rfl) (by kernel_rfl) (by kernel_rfl) (by decide) te3 tu3 te63 tu63 z h0 h1 n h
theorem name_ok (y z : Int) (h0 : -9223372036854775808 ≤ y) (h1 : y ≤ 9223372036854775807) (h2 : -9223372036854775808 ≤ z) (h3 : z ≤ 9223372036854775807) (n : Nat) (h : Heap) : callV E0 (n + 22) 6 [.int .i64 y, .int .i64 z] h = some (.string (strOf (nameOf y z)), h) :=
  name_eq (E := E0) (G := 11) (N := 6) (S := 9) (I := 3) (fN := n6) figures_ok (by kernel_rfl) (by kernel_rfl) (by kernel_rfl) (by kernel_rfl) (by kernel_rfl) (by kernel_rfl) y z h0 h1 h2 h3 n h
theorem ref_calls (y z : Int) (h0 : -9223372036854775808 ≤ y) (h1 : y ≤ 9223372036854775807) (h2 : -9223372036854775808 ≤ z) (h3 : z ≤ 9223372036854775807) (w : World) :
    Calls Tryz.prog 6 #[.int .i64 y, .int .i64 z] w fun e w' => e = .returned (.string (strOf (nameOf y z))) ∧ KeptW w w' :=
  calls_plain ok0 rfl rfl (name_ok y z h0 h1 h2 h3 0 Go.Vi.h0) w
def TabOk (w : World) : Prop := Lib.TabIs Tryz.prog w "internal/strconv.uint64pow10" .u64 Lib.pow10Tab
theorem tab_kept {w w' : World} (h : TabOk w) (k : KeptW w w') : TabOk w' := by
  unfold TabOk Lib.TabIs World.var? at h ⊢
  cases hg : Tryz.prog.globalNamed "internal/strconv.uint64pow10" with
  | none => rw [hg] at h; cases h
  | some g =>
    rw [hg] at h
    simp only [Option.bind_some] at h ⊢
    have hlt : g < w.heap.size := by
      rcases Nat.lt_or_ge g w.heap.size with h' | h'
      · exact h'
      · rw [Array.getElem?_eq_none h'] at h; cases h
    rw [k.2.2.2 g hlt]
    exact h
theorem grown (w : World) (k : Nat) (os : Array Obj) : KeptW w (grow (w.drewN k) os) := by
  refine ⟨rfl, rfl, ?_, fun i hi => ?_⟩
  · simp [grow, World.drewN]
  · simp only [grow, World.drewN]
    rw [Array.getElem?_append_left hi]
theorem itoa_calls (n : Int) (h0 : -9223372036854775808 ≤ n) (h1 : n ≤ 9223372036854775807) (w : World) (ht : TabOk w) :
    Calls Tryz.prog 10 #[.int .i64 n] w fun e w' => e = .returned (.string (strOf (Lib.itoa n))) ∧ KeptW w w' :=
  (Tryz.strconv_Itoa n h0 h1 w ht).mono fun e w' ⟨he, k, os, hw⟩ => ⟨he, hw ▸ grown w k os⟩
set_option maxRecDepth 100000 in
theorem name_calls (y z : Int) (h0 : -9223372036854775808 ≤ y) (h1 : y ≤ 9223372036854775807) (h2 : -9223372036854775808 ≤ z) (h3 : z ≤ 9223372036854775807) (w : World) (ht : TabOk w) :
    Calls Tryz.prog 5 #[.int .i64 y, .int .i64 z] w fun e w' => e = .returned (.string (strOf (nameOf y z))) ∧ KeptW w w' := by
  have cy : ∀ w, TabOk w → Calls Tryz.prog 10 #[.int .i64 y] w fun e w' => e = .returned (.string (strOf (Lib.itoa y))) ∧ KeptW w w' := fun w ht => itoa_calls y h0 h1 w ht
  have cz : ∀ w, TabOk w → Calls Tryz.prog 10 #[.int .i64 z] w fun e w' => e = .returned (.string (strOf (Lib.itoa z))) ∧ KeptW w w' := fun w ht => itoa_calls z h2 h3 w ht
  have ey : (strOf (Lib.itoa y)).size ≤ 21 := itoa_len h0 h1
  have ez : (strOf (Lib.itoa z)).size ≤ 21 := itoa_len h2 h3
  have hs : ({ data := #[100, 46] } ++ strOf (Lib.itoa y) ++ { data := #[46] } ++ strOf (Lib.itoa z) : ByteArray) = strOf (nameOf y z) := by
    apply ByteArray.ext
    simp [nameOf, strOf]
  clear h0 h1 h2 h3
  rw [← hs]
  clear hs
  generalize strOf (Lib.itoa y) = A at cy ey ⊢
  generalize strOf (Lib.itoa z) = B at cz ez ⊢
  have q1 : ¬ 9223372036854775807 < 2 + A.size := by omega
  have q2 : ¬ 9223372036854775807 < 2 + A.size + 1 := by omega
  have q3 : ¬ 9223372036854775807 < 2 + A.size + 1 + B.size := by omega
  clear ey ez
  go_enter Tryz.func5, Tryz.ntmps5
  go_wp2_with (first | (go_at_call 10; (with_reducible refine (cy _ ht).mono ?_); rintro e w1 ⟨rfl, k1⟩; have ht1 := tab_kept ht k1) | (go_at_call 10; (with_reducible refine (cz _ ht1).mono ?_); rintro e w2 ⟨rfl, k2⟩))
  go_ret
  exact ⟨rfl, k1.trans k2⟩
set_option maxRecDepth 100000 in
theorem law_calls (y z : Int) (h0 : -9223372036854775808 ≤ y) (h1 : y ≤ 9223372036854775807) (h2 : -9223372036854775808 ≤ z) (h3 : z ≤ 9223372036854775807) (w : World) (ht : TabOk w) :
    Calls Tryz.prog 3 #[.int .i64 y, .int .i64 z] w fun e w' => e = .returned (.bool true) ∧ KeptW w w' := by
  have c5 := fun w ht => name_calls y z h0 h1 h2 h3 w ht
  have c6 := fun w => ref_calls y z h0 h1 h2 h3 w
  clear h0 h1 h2 h3
  generalize strOf (nameOf y z) = A at c5 c6
  go_enter Tryz.func3, Tryz.ntmps3
  go_wp2_with (first | (go_at_call 4; (with_reducible refine (alive_calls _).mono ?_); rintro e w1 ⟨rfl, k1⟩; have ht1 := tab_kept ht k1) | (go_at_call 5; (with_reducible refine (c5 _ ht1).mono ?_); rintro e w2 ⟨rfl, k2⟩) | (go_at_call 6; (with_reducible refine (c6 _).mono ?_); rintro e w3 ⟨rfl, k3⟩))
  go_ret
  exact ⟨rfl, ((k1.trans k2).trans k3)⟩
end Go.Proofs.YtgcghdoggjnllaaGreatDoor.C
