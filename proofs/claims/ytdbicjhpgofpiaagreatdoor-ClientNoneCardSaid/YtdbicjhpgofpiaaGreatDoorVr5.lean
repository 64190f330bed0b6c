/- Vr5: two more functions without a body: bytealg's CountString and IndexByteString. -/
import Derived.Test.YtdbicjhpgofpiaaGreatDoorVr4
namespace Go.Vi
def RowIs (P : Program) (f : FuncId) (g : List Value → Heap → Option (Value × Heap)) : Prop := ∀ args h v h', g args h = some (v, h') → h.next ≤ h'.next ∧
  ∀ (ρ : Map) (w : World) (args' : Array Value), Good ρ h w → Win ρ h h' → VRels ρ args args'.toList → ∃ v' w' ρ', (callFunc f args').run P w = .ok (.value v') w' ∧ VRel ρ' v v' ∧ Good ρ' h' w' ∧ Stp ρ h w ρ' h' w'
def Env.rowed (E : Env) (k : FuncId) (g : List Value → Heap → Option (Value × Heap)) : Env := { E with row := fun f => if f = k then some g else E.row f }
theorem rowed_ok {P : Program} {E : Env} (ok : EnvOk P E) {k : FuncId} {g : List Value → Heap → Option (Value × Heap)} (hg : RowIs P k g) : EnvOk P (E.rowed k g) :=
  ⟨ok.ty, ok.meth, ok.fn, ok.ext, ok.mixed, fun f x h => by
    have h : (if f = k then some g else E.row f) = some x := h
    split at h
    · rename_i e; cases h; subst e; exact hg
    · exact ok.row f x h⟩
/-- a function without a body of which the model knows what it does to a text and a byte. -/
theorem text_row {P : Program} {f : FuncId} {fn : Func} {run : Array Value → Sem Value} (hf : P.funcs[f]? = some fn) (hn : (fn.name == "runtime.NumGoroutine") = false) (hb : fn.body.isNone = true) (h1 : Extern.findNext fn = none) (h2 : Extern.find fn = some run)
    {g : ByteArray → Int → Int} (hr : ∀ s c w, (run #[.string s, .int .u8 c]).run P w = .ok (.int .i64 (g s c)) w) :
    RowIs P f (fun args h => match args with | [.string s, .int .u8 c] => some (.int .i64 (g s c), h) | _ => none) := by
  intro args h v h' hc
  dsimp only at hc
  split at hc
  · rename_i s c
    cases hc
    refine ⟨Nat.le_refl _, fun ρ w args' gd _ hargs => ?_⟩
    obtain ⟨v1, r1, e1, hv1, hr1⟩ := hargs.cons_inv
    obtain ⟨v2, r2, e2, hv2, hr2⟩ := hr1.cons_inv
    have e3 := hr2.nil_inv
    have q1 := hv1.string_inv
    have q2 := hv2.int_inv
    subst q1 q2 e3 e2
    have ha : args' = #[.string s, .int .u8 c] := by apply Array.ext'; rw [e1]
    refine ⟨_, w, ρ, ?_, .int _ _, gd, .refl _ _ _⟩
    rw [ha, run_callFunc_extern hf hn hb h1 h2, hr]
    rfl
  · cases hc
def countN (s : ByteArray) (c : Int) : Int := s.foldl (fun (n : Int) x => if x == c.toNat.toUInt8 then n + 1 else n) ((0 : Nat) : Int)
def countV (args : List Value) (h : Heap) : Option (Value × Heap) := match args with | [.string s, .int .u8 c] => some (.int .i64 (countN s c), h) | _ => none
def indexN (s : ByteArray) (c : Int) : Int :=
  match (List.range s.size).find? fun i => s[i]! == c.toNat.toUInt8 with
  | some i => (i : Int)
  | none => -1
def indexBV (args : List Value) (h : Heap) : Option (Value × Heap) := match args with | [.string s, .int .u8 c] => some (.int .i64 (indexN s c), h) | _ => none
theorem count_row {P : Program} {f : FuncId} {fn : Func} (hf : P.funcs[f]? = some fn) (hn : (fn.name == "runtime.NumGoroutine") = false) (hb : fn.body.isNone = true) (h1 : Extern.findNext fn = none) (h2 : Extern.find fn = some Extern.BytealgCount.count) :
    RowIs P f countV := text_row (g := countN) hf hn hb h1 h2 fun s c w => by
  have e : Extern.BytealgCount.count #[.string s, .int .u8 c] = (Extern.Bytes.bytesOf (.string s) >>= fun b => Extern.Bytes.asByte (.int .u8 c) >>= fun c => pure (goInt (b.foldl (fun n x => if x == c then n + 1 else n) (0 : Nat)))) := rfl
  rw [e]
  rfl
theorem index_row {P : Program} {f : FuncId} {fn : Func} (hf : P.funcs[f]? = some fn) (hn : (fn.name == "runtime.NumGoroutine") = false) (hb : fn.body.isNone = true) (h1 : Extern.findNext fn = none) (h2 : Extern.find fn = some Extern.BytealgIndexByte.indexByte) :
    RowIs P f indexBV := text_row (g := indexN) hf hn hb h1 h2 fun s c w => by
  have e : Extern.BytealgIndexByte.indexByte #[.string s, .int .u8 c] = (Extern.Bytes.bytesOf (.string s) >>= fun b => Extern.Bytes.asByte (.int .u8 c) >>= fun c => match (List.range b.size).find? fun i => b[i]! == c with
    | some i => pure (goInt i)
    | none => pure (goInt (-1))) := rfl
  rw [e]
  unfold indexN
  have e2 : (Extern.Bytes.bytesOf (.string s) >>= fun b => Extern.Bytes.asByte (.int .u8 c) >>= fun c => match (List.range b.size).find? fun i => b[i]! == c with
    | some i => pure (goInt i)
    | none => pure (goInt (-1))).run P w = (match (List.range s.size).find? fun i => s[i]! == c.toNat.toUInt8 with
    | some i => (pure (goInt i) : Sem Value)
    | none => pure (goInt (-1))).run P w := rfl
  rw [e2]
  generalize List.find? (fun i => s[i]! == c.toNat.toUInt8) (List.range s.size) = o
  cases o <;> rfl
def noescV (args : List Value) (h : Heap) : Option (Value × Heap) := match args with | [x] => some (x, h) | _ => none
theorem noesc_row {P : Program} {f : FuncId} {fn : Func} (hf : P.funcs[f]? = some fn) (hn : (fn.name == "runtime.NumGoroutine") = false) (hb : fn.body.isNone = true) (h1 : Extern.findNext fn = none) (h2 : Extern.find fn = some Extern.AbiNoEscape.same) :
    RowIs P f noescV := by
  intro args h v h' hc
  unfold noescV at hc
  split at hc
  · rename_i x
    cases hc
    refine ⟨Nat.le_refl _, fun ρ w args' gd _ hargs => ?_⟩
    obtain ⟨v1, r1, e1, hv1, hr1⟩ := hargs.cons_inv
    have e3 := hr1.nil_inv
    subst e3
    have ha : args' = #[v1] := by apply Array.ext'; rw [e1]
    refine ⟨v1, w, ρ, ?_, hv1, gd, .refl _ _ _⟩
    rw [ha, run_callFunc_extern hf hn hb h1 h2]
    rfl
  · cases hc
end Go.Vi
