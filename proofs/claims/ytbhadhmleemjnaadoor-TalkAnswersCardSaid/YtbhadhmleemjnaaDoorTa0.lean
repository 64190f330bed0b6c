/- Ta0: what the interpreter says: the law's own fact, and the document's figures. -/
import Derived.Test.YtbhadhmleemjnaaDoorVgF
import Derived.Test.YtbhadhmleemjnaaDoorVgD
import Derived.Test.YtbhadhmleemjnaaDoorFit0
import Derived.Test.YtbhadhmleemjnaaDoorNm5
open Go Go.Vi Go.Nm
namespace Go.Proofs.YtbhadhmleemjnaaDoor.C
def envN (P : Program) (ex : List Nat) : Env := { ty := tyOf P, fn := fnRaw P ex, meth := methOf P, ext := fun _ => none, row := fun _ => none }
theorem envN_ok {P : Program} {ex : List Nat} (hall : ∀ f, okAt P ex f = true) (mx : P.follows .mixedOrders = true) : EnvOk P (envN P ex) :=
  ⟨fun _ _ h => tyOf_ok h, fun _ _ _ h v w => methOf_ok h v w, fun f _ h => fnRaw_ok h (hall f), fun _ _ h => (nomatch h), mx, fun _ _ h => (nomatch h)⟩
noncomputable def Er0 : Env := envN Tryd.prog [43, 50, 52, 53, 64, 73, 74, 107]
theorem okr0 : EnvOk Tryd.prog Er0 := envN_ok fit (by kernel_rfl)
noncomputable def Er46 : Env := Er0.rowed 46 noescV
theorem okr46 : EnvOk Tryd.prog Er46 := rowed_ok okr0 (noesc_row (fn := Tryd.f46) (by kernel_rfl) (by kernel_rfl) (by kernel_rfl) (by kernel_rfl) (by kernel_rfl))
noncomputable def Er49 : Env := Er46.rowed 49 countV
theorem okr49 : EnvOk Tryd.prog Er49 := rowed_ok okr46 (count_row (fn := Tryd.f49) (by kernel_rfl) (by kernel_rfl) (by kernel_rfl) (by kernel_rfl) (by kernel_rfl))
noncomputable def E0 : Env := Er49.rowed 72 indexBV
theorem ok0 : EnvOk Tryd.prog E0 := rowed_ok okr49 (index_row (fn := Tryd.f72) (by kernel_rfl) (by kernel_rfl) (by kernel_rfl) (by kernel_rfl) (by kernel_rfl))
noncomputable def cP50 : Code := (Tryd.f50.body).getD .skip
noncomputable def EP : Env := E0.tell 50 (runPartV E0 (callF E0 3000) (lookP (plansRaw cP50)) 3000 Tryd.f50 cP50)
theorem okP : EnvOk Tryd.prog EP := tell_ok ok0 (part_ext ok0 (callOk_le (call_le E0 3000) (call_ok ok0 3000)) Tryd.func50 (by kernel_rfl) (by decide +kernel) (by kernel_rfl))
theorem alive_run : isTrue ((callF EP 3000).fn 4 [] h0) = true := by kernel_rfl
/-! ## A world's elder part stands -/
def KeptW (w w' : World) : Prop := w'.os = w.os ∧ w'.output = w.output ∧ w.heap.size ≤ w'.heap.size ∧ ∀ k, k < w.heap.size → w'.heap[k]? = w.heap[k]?
theorem KeptW.refl (w : World) : KeptW w w := ⟨rfl, rfl, Nat.le_refl _, fun _ _ => rfl⟩
theorem KeptW.trans {a b c : World} (h : KeptW a b) (k : KeptW b c) : KeptW a c := ⟨k.1.trans h.1, k.2.1.trans h.2.1, Nat.le_trans h.2.2.1 k.2.2.1, fun i hi => (k.2.2.2 i (Nat.lt_of_lt_of_le hi h.2.2.1)).trans (h.2.2.2 i hi)⟩
theorem KeptW.may {w w' : World} (h : KeptW w w') (may : MemPlace → Prop) : w.keptBut w' may := ⟨h.1, h.2.1, fun i hi => by
  rw [h.2.2.2 i hi]
  split <;> simp_all⟩
theorem calls_plain {P : Program} {E : Env} (ok : EnvOk P E) {n : Nat} {f : FuncId} {args : List Value} {v : Value} {h' : Heap} (hp : args.all (plainB 100) = true) (hq : plainB 100 v = true) (hv : callV E n f args h0 = some (v, h')) (w : World) :
    Calls P f ⟨args⟩ w fun e w' => e = .returned v ∧ KeptW w w' := by
  refine ((call_ok ok n).calls f args h0 _ h' hv (fun _ => none) w ⟨args⟩ (good0 w) (fun _ _ _ => rfl) (plain_rels (fun v => plain_rel 100 v) args hp)).mono ?_
  rintro e w' ⟨ρ', v', rfl, rv, g', s⟩
  have := plain_inv 100 _ _ hq rv
  subst this
  exact ⟨rfl, s.side.1, s.side.2, s.grow, fun k hk => s.rframe k hk (fun _ _ h => (nomatch h))⟩
theorem alive_calls (w : World) : Calls Tryd.prog 4 #[] w fun e w' => e = .returned (.bool true) ∧ KeptW w w' := by
  obtain ⟨h', hr⟩ := isTrue_inv alive_run
  exact calls_plain okP rfl rfl ((call_le EP 3000).fn _ _ _ _ hr) w
/-! ## The document's figures -/
def dTy : Ty := { under := .bool, agg := false, size := 0, bytes := 0, zero := none, eqg := false, held := false, cmp := false, places := none }
noncomputable def i9 : Ty := (E0.ty 9).getD dTy
noncomputable def i3 : Ty := (E0.ty 3).getD dTy
noncomputable def i59 : Ty := (E0.ty 59).getD dTy
theorem te9 : E0.ty 9 = some i9 := by kernel_rfl
theorem te3 : E0.ty 3 = some i3 := by kernel_rfl
theorem te59 : E0.ty 59 = some i59 := by kernel_rfl
theorem tu9 : i9.under = .string := by kernel_rfl
theorem tu3 : i3.under = .int .i64 := by kernel_rfl
theorem tu59 : i59.under = .int .u64 := by kernel_rfl
noncomputable def n24 : Fun := (E0.fn 24).getD ⟨Tryd.f24, .skip, fun _ => none⟩
noncomputable def n14 : Fun := (E0.fn 14).getD ⟨Tryd.f14, .skip, fun _ => none⟩
set_option maxRecDepth 100000
theorem unsigned_ok (u : Nat) (hu : u < 18446744073709551616) (n : Nat) (h : Heap) : callV E0 (n + 20) 24 [.int .u64 (.ofNat u)] h = some (.string (strOf (Lib.decDigits u)), h) :=
  unsigned_eq (E := E0) (F := 24) (S := 9) (U := 59) (B := 4) (fn := n24) (i := i9) (by kernel_rfl) (by kernel_rfl) (by kernel_rfl) (by kernel_rfl) (by kernel_rfl) (by kernel_rfl) te9 tu9 19 u (lt20 hu) hu n h
theorem figures_ok (z : Int) (h0 : -9223372036854775808 ≤ z) (h1 : z ≤ 9223372036854775807) (n : Nat) (h : Heap) : callV E0 (n + 21) 14 [.int .i64 z] h = some (.string (strOf (Lib.itoa z)), h) :=
  figures25_eq (E := E0) (F := 24) (G := 14) (S := 9) (U := 59) (B := 4) (I := 3) (fg := n14) unsigned_ok (by kernel_rfl) (by kernel_rfl) (by kernel_rfl) (by kernel_rfl) (by kernel_rfl) (by kernel_rfl) (by decide) te3 tu3 te59 tu59 z h0 h1 n h
theorem fig_calls (z : Int) (h0 : -9223372036854775808 ≤ z) (h1 : z ≤ 9223372036854775807) (w : World) :
    Calls Tryd.prog 14 #[.int .i64 z] w fun e w' => e = .returned (.string (strOf (Lib.itoa z))) ∧ KeptW w w' :=
  calls_plain ok0 rfl rfl (figures_ok z h0 h1 0 Go.Vi.h0) w
end Go.Proofs.YtbhadhmleemjnaaDoor.C
