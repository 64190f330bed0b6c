/- Vs3: the interpreter's equations, without lambdas: simp goes from operation to operation. -/
import Derived.Test.YtdbicjhpgofpiaaGreatDoorVs1
namespace Go.Vi
section
variable (E : Env) (call : CallV)
/-- what follows a step. -/
def stK (r : List SOp) (t : Tmps) (d : Option Tmp) (x : Option (Value × Heap)) : Option St := match x with
  | some (v, h) => opsS E call r (putV t d v, h)
  | none => none
def wantK (d : Option Tmp) (op : Op) (ty : TypeId) (r : List SOp) (t : Tmps) (h : Heap) (b : Bool) : Option St := match b with
  | true => stK E call r t d (stepV E call (SOp.o ⟨d, op, ty, none⟩) (t, h))
  | false => opsS E call r (putV t d undef, h)
def isB (v : Value) (w : Bool) : Bool := match v with
  | .bool b => b == w
  | _ => false
theorem isB_bool (b w : Bool) : isB (.bool b) w = (b == w) := rfl
theorem sk_nil (s : St) : opsS E call [] s = some s := rfl
theorem wantS_some (d : Tmp) (want : Bool) (t : Tmps) : wantS (some (some d, want)) t = isB (t.getD d undef) want := by
  unfold wantS isB
  obtain ⟨d', hd⟩ : ∃ d' : Nat, d' = d := ⟨d, rfl⟩
  subst hd
  rw [List.getD_eq_getElem?_getD]
  simp only [Option.bind_some]
  cases hq : t[d']? with
  | none => simp [undef]
  | some v => simp; cases v <;> rfl
theorem sk_cons (d : Option Tmp) (op : Op) (ty : TypeId) (g : Option Tmp × Bool) (r : List SOp) (t : Tmps) (h : Heap) :
    opsS E call (⟨d, op, ty, some g⟩ :: r) (t, h) = wantK E call d op ty r t h (wantS (some g) t) := by
  rw [opsT_cons]
  unfold wantK ifS stK andS
  cases wantS (some g) t
  · rfl
  · simp only
    cases stepV E call (SOp.o ⟨d, op, ty, none⟩) (t, h) <;> rfl
theorem sk_cons' (d : Option Tmp) (op : Op) (ty : TypeId) (r : List SOp) (t : Tmps) (h : Heap) :
    opsS E call (⟨d, op, ty, none⟩ :: r) (t, h) = stK E call r t d (stepV E call (SOp.o ⟨d, op, ty, none⟩) (t, h)) := by
  rw [opsT_cons]
  unfold stK ifS andS
  simp only [want_none]
  cases stepV E call (SOp.o ⟨d, op, ty, none⟩) (t, h) <;> rfl
theorem wantK_true (d : Option Tmp) (op : Op) (ty : TypeId) (r : List SOp) (t : Tmps) (h : Heap) : wantK E call d op ty r t h true = stK E call r t d (stepV E call (SOp.o ⟨d, op, ty, none⟩) (t, h)) := rfl
theorem wantK_false (d : Option Tmp) (op : Op) (ty : TypeId) (r : List SOp) (t : Tmps) (h : Heap) : wantK E call d op ty r t h false = opsS E call r (putV t d undef, h) := rfl
theorem stK_some (r : List SOp) (t : Tmps) (d : Option Tmp) (v : Value) (h : Heap) : stK E call r t d (some (v, h)) = opsS E call r (putV t d v, h) := rfl
/-- a value with the heap as it was. -/
def atH (h : Heap) (x : Option Value) : Option (Value × Heap) := match x with
  | some v => some (v, h)
  | none => none
theorem atH_some (h : Heap) (v : Value) : atH h (some v) = some (v, h) := rfl
section
variable (d : Option Tmp) (ty : TypeId) (t : Tmps) (h : Heap)
theorem sk_move (x : Operand) : stepV E call (SOp.o ⟨d, .move x, ty, none⟩) (t, h) = some (evV t x, h) := rfl
theorem sk_assign (x : Operand) : stepV E call (SOp.o ⟨d, .assign x, ty, none⟩) (t, h) = some (evV t x, h) := rfl
def pickK (c : Value) (a b : Value) : Option Value := match c with
  | .bool p => some (if p then a else b)
  | _ => none
theorem pickK_bool (p : Bool) (a b : Value) : pickK (.bool p) a b = some (if p then a else b) := rfl
theorem sk_pick (c a b : Operand) : stepV E call (SOp.o ⟨d, .pick c a b, ty, none⟩) (t, h) = atH h (pickK (evV t c) (evV t a) (evV t b)) := by
  unfold stepV pureV SOp.o pickK atH
  simp only
  cases evV t c <;> rfl
theorem sk_bin (op : BinOp) (xt yt : TypeId) (x y : Operand) : stepV E call (SOp.o ⟨d, .binOp op xt x y yt, ty, none⟩) (t, h) = atH h (binV E op xt (isConstO x || isConstO y) (evV t x) (evV t y)) := by
  unfold stepV pureV readV newV heavyV SOp.o atH
  simp only
  cases binV E op xt (isConstO x || isConstO y) (evV t x) (evV t y) <;> rfl
theorem bin_int (op : BinOp) (k : IntKind) (c : Bool) (a b : Int) : binV E op ty c (.int k a) (.int k b) = arithV op k a b := by
  unfold binV
  simp
end
end
theorem ar_lss (k : IntKind) (a b : Int) : arithV .lss k a b = some (.bool (decide (a < b))) := rfl
theorem ar_leq (k : IntKind) (a b : Int) : arithV .leq k a b = some (.bool (decide (a ≤ b))) := rfl
theorem ar_gtr (k : IntKind) (a b : Int) : arithV .gtr k a b = some (.bool (decide (a > b))) := rfl
theorem ar_geq (k : IntKind) (a b : Int) : arithV .geq k a b = some (.bool (decide (a ≥ b))) := rfl
theorem ar_eql (k : IntKind) (a b : Int) : arithV .eql k a b = some (.bool (a == b)) := rfl
theorem ar_neq (k : IntKind) (a b : Int) : arithV .neq k a b = some (.bool (a != b)) := rfl
theorem ar_add (k : IntKind) (a b : Int) : arithV .add k a b = some (.int k (k.wrap (a + b))) := rfl
theorem ar_sub (k : IntKind) (a b : Int) : arithV .sub k a b = some (.int k (k.wrap (a - b))) := rfl
theorem ar_mul (k : IntKind) (a b : Int) : arithV .mul k a b = some (.int k (k.wrap (a * b))) := rfl
theorem ar_and (k : IntKind) (a b : Int) : arithV .and k a b = some (.int k (k.wrap (BitVec.ofInt k.bits a &&& BitVec.ofInt k.bits b).toNat)) := rfl
theorem ev_tmp (t : Tmps) (i : Nat) : evV t (.tmp i) = t.getD i undef := rfl
theorem ev_int (t : Tmps) (k : IntKind) (n : Int) : evV t (.const (.int k n)) = .int k n := rfl
theorem ev_bool (t : Tmps) (b : Bool) : evV t (.const (.bool b)) = .bool b := rfl
theorem put_some (t : Tmps) (i : Nat) (v : Value) : putV t (some i) v = t.set i v := rfl
theorem put_none (t : Tmps) (v : Value) : putV t none v = t := rfl
end Go.Vi
