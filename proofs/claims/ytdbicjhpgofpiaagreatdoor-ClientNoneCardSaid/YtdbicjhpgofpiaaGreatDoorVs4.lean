/- Vs4: equations of the other operations. -/
import Derived.Test.YtdbicjhpgofpiaaGreatDoorVs3
namespace Go.Vi
def orK {α : Type} (x y : Option α) : Option α := match x with
  | some a => some a
  | none => y
theorem orK_some {α : Type} (a : α) (y : Option α) : orK (some a) y = some a := rfl
theorem orK_none {α : Type} (y : Option α) : orK none y = y := rfl
/-- a heap, with a value that says nothing. -/
def heapK (v : Value) (x : Option Heap) : Option (Value × Heap) := match x with
  | some h => some (v, h)
  | none => none
theorem heapK_some (v : Value) (h : Heap) : heapK v (some h) = some (v, h) := rfl
/-- a block that is made. -/
def newK (h : Heap) (x : Option (Blk × Mk)) : Option (Value × Heap) := match x with
  | some (b, m) => some (m.val h.next, h.new b)
  | none => none
theorem newK_some (h : Heap) (b : Blk) (m : Mk) : newK h (some (b, m)) = some (m.val h.next, h.new b) := rfl
section
variable (E : Env) (call : CallV) (d : Option Tmp) (ty : TypeId) (t : Tmps) (h : Heap)
theorem sk_un (op : UnOp) (xt : TypeId) (x : Operand) : stepV E call (SOp.o ⟨d, .unOp op xt x, ty, none⟩) (t, h) = atH h (unV op (evV t x)) := by
  unfold stepV pureV readV newV heavyV SOp.o atH
  simp only
  cases unV op (evV t x) <;> rfl
theorem sk_build (bt : TypeId) (ps : Array (Nat × Operand)) : stepV E call (SOp.o ⟨d, .build bt ps, ty, none⟩) (t, h) = atH h (buildV E bt (partsV (evV t) ps)) := by
  unfold stepV pureV readV newV heavyV SOp.o atH
  simp only
  cases buildV E bt (partsV (evV t) ps) <;> rfl
theorem sk_fieldAddr (s : TypeId) (x : Operand) (f : Nat) : stepV E call (SOp.o ⟨d, .fieldAddr s x f, ty, none⟩) (t, h) = atH h (fieldAddrV E s (evV t x) f) := by
  unfold stepV pureV readV newV heavyV SOp.o atH
  simp only
  cases fieldAddrV E s (evV t x) f <;> rfl
theorem sk_field (s : TypeId) (x : Operand) (f : Nat) : stepV E call (SOp.o ⟨d, .field s x f, ty, none⟩) (t, h) = atH h (fieldV E s (evV t x) f) := by
  unfold stepV pureV readV newV heavyV SOp.o atH
  simp only
  cases fieldV E s (evV t x) f <;> rfl
theorem sk_indexAddr (s : TypeId) (x i : Operand) : stepV E call (SOp.o ⟨d, .indexAddr s x i, ty, none⟩) (t, h) = atH h (indexAddrV E s (evV t x) (evV t i)) := by
  unfold stepV pureV readV newV heavyV SOp.o atH
  simp only
  cases indexAddrV E s (evV t x) (evV t i) <;> rfl
theorem sk_index (s : TypeId) (x i : Operand) : stepV E call (SOp.o ⟨d, .index s x i, ty, none⟩) (t, h) = atH h (indexV E s (evV t x) (evV t i)) := by
  unfold stepV pureV readV newV heavyV SOp.o atH
  simp only
  cases indexV E s (evV t x) (evV t i) <;> rfl
def extrK (v : Value) (i : Nat) : Option Value := match v with
  | .tuple vs => vs[i]?
  | _ => none
theorem extrK_tuple (vs : Array Value) (i : Nat) : extrK (.tuple vs) i = vs[i]? := rfl
theorem sk_extract (x : Operand) (i : Nat) : stepV E call (SOp.o ⟨d, .extract x i, ty, none⟩) (t, h) = atH h (extrK (evV t x) i) := by
  unfold stepV pureV readV newV heavyV SOp.o atH extrK
  simp only
  cases evV t x <;> simp only
  rename_i vs
  cases vs[i]? <;> rfl
theorem sk_load (lt : TypeId) (a : Operand) : stepV E call (SOp.o ⟨d, .load lt a, ty, none⟩) (t, h) = atH h (loadV E lt (evV t a) h) := by
  unfold stepV pureV readV newV heavyV SOp.o atH
  simp only
  cases loadV E lt (evV t a) h <;> rfl
theorem sk_store (st : TypeId) (a x : Operand) : stepV E call (SOp.o ⟨d, .store st a x, ty, none⟩) (t, h) = heapK undef (storeV E st (evV t a) (evV t x) h) := by
  unfold stepV pureV readV newV heavyV SOp.o heapK
  simp only
  cases storeV E st (evV t a) (evV t x) h <;> rfl
theorem sk_alloc (at_ : TypeId) : stepV E call (SOp.o ⟨d, .alloc at_, ty, none⟩) (t, h) = newK h (newV E (evV t) (SOp.o ⟨d, .alloc at_, ty, none⟩)) := by
  unfold stepV pureV readV heavyV SOp.o newK
  simp only
  cases newV E (evV t) _ <;> rfl
theorem sk_box (bt : TypeId) (x : Operand) : stepV E call (SOp.o ⟨d, .box bt x, ty, none⟩) (t, h) = some (Mk.ptr.val h.next, h.new (.cells (cellsOf (evV t x)) true none)) := rfl
theorem sk_buildSlice (st : TypeId) (n : Nat) (ps : Array (Nat × Operand)) : stepV E call (SOp.o ⟨d, .buildSlice st n ps, ty, none⟩) (t, h) = newK h (newV E (evV t) (SOp.o ⟨d, .buildSlice st n ps, ty, none⟩)) := by
  unfold stepV pureV readV heavyV SOp.o newK
  simp only
  cases newV E (evV t) _ <;> rfl
theorem sk_makeSlice (st : TypeId) (l c : Operand) : stepV E call (SOp.o ⟨d, .makeSlice st l c, ty, none⟩) (t, h) = newK h (newV E (evV t) (SOp.o ⟨d, .makeSlice st l c, ty, none⟩)) := by
  unfold stepV pureV readV heavyV SOp.o newK
  simp only
  cases newV E (evV t) _ <;> rfl
theorem sk_slice (st : TypeId) (x : Operand) (lo hi mx : Option Operand) : stepV E call (SOp.o ⟨d, .slice st x lo hi mx, ty, none⟩) (t, h) =
    orK (atH h (sliceV E st (evV t x) (lo.map (evV t)) (hi.map (evV t)) (mx.map (evV t)))) (atH h (sliceS E st (evV t x) (lo.map (evV t)) (hi.map (evV t)) (mx.map (evV t)) h)) := by
  unfold stepV pureV readV newV heavyV SOp.o atH orK
  simp only
  cases sliceV E st (evV t x) (lo.map (evV t)) (hi.map (evV t)) (mx.map (evV t)) <;> simp only
  cases sliceS E st (evV t x) (lo.map (evV t)) (hi.map (evV t)) (mx.map (evV t)) h <;> rfl
def callR (E : Env) (call : CallV) (f : FuncId) (args : List Value) (h : Heap) : Option (Value × Heap) :=
  match E.row f with
  | some r => r args h
  | none => call f args h
theorem callR_none {E : Env} (hn : E.row = fun _ => none) (call : CallV) (f : FuncId) (args : List Value) (h : Heap) : callR E call f args h = call f args h := by
  unfold callR; rw [hn]
theorem sk_call (f : FuncId) (args : Array Operand) (ats : Array TypeId) : stepV E call (SOp.o ⟨d, .call { callee := .value (.func f), args := args, argTypes := ats }, ty, none⟩) (t, h) = callR E call f (args.map (evV t)).toList h := by
  unfold stepV pureV readV newV heavyV SOp.o callR
  simp [evV]
  cases E.row f <;> rfl
theorem sk_append (s x : Operand) (st xt : TypeId) : stepV E call (SOp.o ⟨d, .call { callee := .builtin .append, args := #[s, x], argTypes := #[st, xt] }, ty, none⟩) (t, h) = appendV E st (some xt) (evV t s) (evV t x) h := by
  unfold stepV pureV readV newV heavyV SOp.o
  rfl
theorem sk_copy (s x : Operand) (st xt : TypeId) : stepV E call (SOp.o ⟨d, .call { callee := .builtin .copy, args := #[s, x], argTypes := #[st, xt] }, ty, none⟩) (t, h) = copyV E st (evV t s) (evV t x) h := by
  unfold stepV pureV readV newV heavyV SOp.o
  rfl
end
end Go.Vi
