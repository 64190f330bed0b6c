/- K0: what the interpreter says: the law's own fact, and the document's figures. -/
import Derived.Test.YtijnnpbfgmmngaaGreatDoorVgF
import Derived.Test.YtijnnpbfgmmngaaGreatDoorVgD
import Derived.Test.YtijnnpbfgmmngaaGreatDoorK00
import Derived.Test.YtijnnpbfgmmngaaGreatDoorNm5
import Derived.Test.YtijnnpbfgmmngaaGreatDoorVgJ
open Go Go.Vi Go.Nm
namespace Go.Proofs.YtijnnpbfgmmngaaGreatDoor.C
def envN (P : Program) (ex : List Nat) : Env := { ty := tyOf P, fn := fnRaw P ex, meth := methOf P, ext := fun _ => none, row := fun _ => none }
theorem envN_ok {K : Known} {P : Program} {ex : List Nat} (hall : ∀ f, okAt P ex f = true) (mx : P.follows .mixedOrders = true) : EnvOk K P (envN P ex) :=
  ⟨fun _ _ h => tyOf_ok h, fun _ _ _ h v w => methOf_ok h v w, fun f _ h => fnRaw_ok h (hall f), fun _ _ h => (nomatch h), mx, fun _ _ h => (nomatch h)⟩
noncomputable def Er0 : Env := envN Tryz.prog [60, 62, 63, 70, 75, 104, 105, 587]
theorem okr0 {K : Known} : EnvOk K Tryz.prog Er0 := envN_ok fit (by kernel_rfl)
noncomputable def Er46 : Env := Er0.rowed 73 noescV
theorem okr46 {K : Known} : EnvOk K Tryz.prog Er46 := rowed_ok okr0 (noesc_row (fn := Tryz.f73) (by kernel_rfl) (by kernel_rfl) (by kernel_rfl) (by kernel_rfl) (by kernel_rfl))
noncomputable def Er49 : Env := Er46.rowed 59 countV
theorem okr49 {K : Known} : EnvOk K Tryz.prog Er49 := rowed_ok okr46 (count_row (fn := Tryz.f59) (by kernel_rfl) (by kernel_rfl) (by kernel_rfl) (by kernel_rfl) (by kernel_rfl))
noncomputable def E0 : Env := Er49.rowed 83 indexBV
theorem ok0 {K : Known} : EnvOk K Tryz.prog E0 := rowed_ok okr49 (index_row (fn := Tryz.f83) (by kernel_rfl) (by kernel_rfl) (by kernel_rfl) (by kernel_rfl) (by kernel_rfl))
noncomputable def cP50 : Code := (Tryz.f60.body).getD .skip
noncomputable def EP : Env := E0.tell 60 (runPartV E0 (callF E0 3000) (lookP (plansRaw cP50)) 3000 Tryz.f60 cP50)
theorem okP : EnvOk .none Tryz.prog EP := tell_ok ok0 (part_ext ok0 (callOk_le (call_le E0 3000) (call_ok ok0 3000)) Tryz.func60 (by kernel_rfl) (by decide +kernel) (by kernel_rfl))
theorem alive_run : isTrue ((callF EP 3000).fn 4 [] h0) = true := by kernel_rfl
theorem calls_plain {P : Program} {E : Env} (ok : EnvOk .none P E) {n : Nat} {f : FuncId} {args : List Value} {v : Value} {h' : Heap} (hp : args.all (plainB 100) = true) (hq : plainB 100 v = true) (hv : callV E n f args h0 = some (v, h')) (w : World) :
    Calls P f ⟨args⟩ w fun e w' => e = .returned v ∧ KeptW w w' := by
  refine ((call_ok ok n).calls f args h0 _ h' hv (fun _ => none) w ⟨args⟩ (good0 w) (fun _ _ _ => rfl) (plain_rels (fun v => plain_rel 100 v) args hp)).mono ?_
  rintro e w' ⟨ρ', v', rfl, rv, g', s⟩
  have := plain_inv 100 _ _ hq rv
  subst this
  exact ⟨rfl, s.side.1, s.side.2, s.grow, fun k hk => s.rframe k hk (fun _ _ h => (nomatch h))⟩
theorem alive_calls (w : World) : Calls Tryz.prog 4 #[] w fun e w' => e = .returned (.bool true) ∧ KeptW w w' := by
  obtain ⟨h', hr⟩ := isTrue_inv alive_run
  exact calls_plain okP rfl rfl ((call_le EP 3000).fn _ _ _ _ hr) w
def dTy : Ty := { under := .bool, agg := false, size := 0, bytes := 0, zero := none, eqg := false, held := false, cmp := false, places := none }
noncomputable def i9 : Ty := (E0.ty 9).getD dTy
noncomputable def i3 : Ty := (E0.ty 3).getD dTy
noncomputable def i59 : Ty := (E0.ty 63).getD dTy
theorem te9 : E0.ty 9 = some i9 := by kernel_rfl
theorem te3 : E0.ty 3 = some i3 := by kernel_rfl
theorem te59 : E0.ty 63 = some i59 := by kernel_rfl
theorem tu9 : i9.under = .string := by kernel_rfl
theorem tu3 : i3.under = .int .i64 := by kernel_rfl
theorem tu59 : i59.under = .int .u64 := by kernel_rfl
noncomputable def n24 : Fun := (E0.fn 38).getD ⟨Tryz.f38, .skip, fun _ => none⟩
noncomputable def n14 : Fun := (E0.fn 24).getD ⟨Tryz.f24, .skip, fun _ => none⟩
set_option maxRecDepth 100000
theorem unsigned_ok (u : Nat) (hu : u < 18446744073709551616) (n : Nat) (h : Heap) : callV E0 (n + 20) 38 [.int .u64 (.ofNat u)] h = some (.string (strOf (Lib.decDigits u)), h) :=
  unsigned_eq (E := E0) (F := 38) (S := 9) (U := 63) (B := 4) (fn := n24) (i := i9) (by kernel_rfl) (by kernel_rfl) (by kernel_rfl) (by kernel_rfl) (by kernel_rfl) (by kernel_rfl) te9 tu9 19 u (lt20 hu) hu n h
theorem figures_ok (z : Int) (h0 : -9223372036854775808 ≤ z) (h1 : z ≤ 9223372036854775807) (n : Nat) (h : Heap) : callV E0 (n + 21) 24 [.int .i64 z] h = some (.string (strOf (Lib.itoa z)), h) :=
  figures25_eq (E := E0) (F := 38) (G := 24) (S := 9) (U := 63) (B := 4) (I := 3) (fg := n14) unsigned_ok (by kernel_rfl) (by kernel_rfl) (by kernel_rfl) (by kernel_rfl) (by kernel_rfl) (by kernel_rfl) (by decide) te3 tu3 te59 tu59 z h0 h1 n h
end Go.Proofs.YtijnnpbfgmmngaaGreatDoor.C
