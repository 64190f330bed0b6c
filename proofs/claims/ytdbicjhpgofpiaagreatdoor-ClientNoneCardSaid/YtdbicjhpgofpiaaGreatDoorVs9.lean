/- Vs9: a drawn region's operations, one equation for each kind. -/
import Derived.Test.YtdbicjhpgofpiaaGreatDoorVs8
namespace Go.Vi
abbrev Drawn := Option (St × List Heap × List SSeen)
section
variable (E : Env) (call : CallV)
def drP (r : List SOp) (j : Nat) (t : Tmps) (h : Heap) (d : Option Tmp) (hs : List Heap) (rs : List SSeen) (x : Option Value) : Drawn := match x with
  | some v => drawT E call r (j + 1) (putV t d v, h) hs rs
  | none => none
def drR (r : List SOp) (j : Nat) (t : Tmps) (h : Heap) (o : SOp) (hs : List Heap) (rs : List SSeen) (x : Option Value) : Drawn := match x with
  | some v => drawT E call r (j + 1) (putV t o.d v, h) hs (⟨j, o, t, v⟩ :: rs)
  | none => none
def drH (r : List SOp) (j : Nat) (t : Tmps) (d : Option Tmp) (hs : List Heap) (rs : List SSeen) (x : Option (Value × Heap)) : Drawn := match x with
  | some (v, h) => drawT E call r (j + 1) (putV t d v, h) hs rs
  | none => none
theorem drP_some (r : List SOp) (j : Nat) (t : Tmps) (h : Heap) (d : Option Tmp) (hs : List Heap) (rs : List SSeen) (v : Value) : drP E call r j t h d hs rs (some v) = drawT E call r (j + 1) (putV t d v, h) hs rs := rfl
theorem drR_some (r : List SOp) (j : Nat) (t : Tmps) (h : Heap) (o : SOp) (hs : List Heap) (rs : List SSeen) (v : Value) : drR E call r j t h o hs rs (some v) = drawT E call r (j + 1) (putV t o.d v, h) hs (⟨j, o, t, v⟩ :: rs) := rfl
theorem drH_some (r : List SOp) (j : Nat) (t : Tmps) (d : Option Tmp) (hs : List Heap) (rs : List SSeen) (v : Value) (h : Heap) : drH E call r j t d hs rs (some (v, h)) = drawT E call r (j + 1) (putV t d v, h) hs rs := rfl
variable (d : Option Tmp) (ty : TypeId) (r : List SOp) (j : Nat) (t : Tmps) (h : Heap) (hs : List Heap) (rs : List SSeen)
theorem dr_nil (s : St) : drawT E call [] j s hs rs = some (s, hs ++ [s.2], rs) := rfl
/-- an operation that needs no memory. -/
theorem dr_pure {op : Op} {x : Option Value} (hl : heavyOp (SOp.o ⟨d, op, ty, none⟩) = false) (hp : pureV E (evV t) (SOp.o ⟨d, op, ty, none⟩) = x) (hst : stepV E call (SOp.o ⟨d, op, ty, none⟩) (t, h) = atH h x) :
    drawT E call (⟨d, op, ty, none⟩ :: r) j (t, h) hs rs = drP E call r j t h d hs rs x := by
  rw [drawT]
  simp only [hl, want_none, hst, Bool.false_eq_true, if_false, if_true]
  cases x with
  | none => rfl
  | some v => simp only [atH, drP, isRead, hp, Option.isNone_some, Bool.false_and, Bool.and_false, Bool.false_eq_true, if_false]
theorem dr_move (x : Operand) : drawT E call (⟨d, .move x, ty, none⟩ :: r) j (t, h) hs rs = drP E call r j t h d hs rs (some (evV t x)) := dr_pure E call d ty r j t h hs rs rfl rfl rfl
theorem dr_assign (x : Operand) : drawT E call (⟨d, .assign x, ty, none⟩ :: r) j (t, h) hs rs = drP E call r j t h d hs rs (some (evV t x)) := dr_pure E call d ty r j t h hs rs rfl rfl rfl
theorem dr_bin (op : BinOp) (xt yt : TypeId) (x y : Operand) : drawT E call (⟨d, .binOp op xt x y yt, ty, none⟩ :: r) j (t, h) hs rs = drP E call r j t h d hs rs (binV E op xt (isConstO x || isConstO y) (evV t x) (evV t y)) :=
  dr_pure E call d ty r j t h hs rs rfl rfl (sk_bin E call d ty t h op xt yt x y)
theorem dr_fieldAddr (s : TypeId) (x : Operand) (f : Nat) : drawT E call (⟨d, .fieldAddr s x f, ty, none⟩ :: r) j (t, h) hs rs = drP E call r j t h d hs rs (fieldAddrV E s (evV t x) f) :=
  dr_pure E call d ty r j t h hs rs rfl rfl (sk_fieldAddr E call d ty t h s x f)
theorem dr_indexAddr (s : TypeId) (x i : Operand) : drawT E call (⟨d, .indexAddr s x i, ty, none⟩ :: r) j (t, h) hs rs = drP E call r j t h d hs rs (indexAddrV E s (evV t x) (evV t i)) :=
  dr_pure E call d ty r j t h hs rs rfl rfl (sk_indexAddr E call d ty t h s x i)
theorem dr_field (s : TypeId) (x : Operand) (f : Nat) : drawT E call (⟨d, .field s x f, ty, none⟩ :: r) j (t, h) hs rs = drP E call r j t h d hs rs (fieldV E s (evV t x) f) :=
  dr_pure E call d ty r j t h hs rs rfl rfl (sk_field E call d ty t h s x f)
theorem dr_load (lt : TypeId) (a : Operand) : drawT E call (⟨d, .load lt a, ty, none⟩ :: r) j (t, h) hs rs = drR E call r j t h ⟨d, .load lt a, ty, none⟩ hs rs (loadV E lt (evV t a) h) := by
  rw [drawT]
  have hl : heavyOp (SOp.o ⟨d, .load lt a, ty, none⟩) = false := rfl
  simp only [hl, want_none, sk_load, Bool.false_eq_true, if_false, if_true]
  cases hv : loadV E lt (evV t a) h with
  | none => rfl
  | some v =>
    have hi : isRead E ⟨d, .load lt a, ty, none⟩ t h = true := by
      unfold isRead
      have h1 : pureV E (evV t) (SOp.o ⟨d, .load lt a, ty, none⟩) = none := rfl
      have h2 : readV E (evV t) h (SOp.o ⟨d, .load lt a, ty, none⟩) = loadV E lt (evV t a) h := rfl
      rw [h1, h2, hv]; rfl
    simp only [atH, drR, hi, Bool.not_false, Bool.and_self, if_true]
theorem dr_call (f : FuncId) (args : Array Operand) (ats : Array TypeId) :
    drawT E call (⟨d, .call { callee := .value (.func f), args := args, argTypes := ats }, ty, none⟩ :: r) j (t, h) hs rs = drH E call r j t d (hs ++ [h]) rs (callR E call f (args.map (evV t)).toList h) := by
  rw [drawT]
  have hl : heavyOp (SOp.o ⟨d, .call { callee := .value (.func f), args := args, argTypes := ats }, ty, none⟩) = true := rfl
  simp only [hl, want_none, sk_call, if_true, Bool.not_true, Bool.false_and, Bool.false_eq_true, if_false]
  cases callR E call f (args.map (evV t)).toList h <;> rfl
end
end Go.Vi
