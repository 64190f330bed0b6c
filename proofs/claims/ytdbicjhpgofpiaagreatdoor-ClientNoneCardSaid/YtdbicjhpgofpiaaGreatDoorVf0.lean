/- Vf0: the interpreter again, so laid that the kernel runs it fast: temporaries in a tree, small branches, what does not turn with the state set apart. -/
import Derived.Test.YtdbicjhpgofpiaaGreatDoorVs8
namespace Go.Vi

/-! ## Temporaries in a tree -/
inductive BT where
  | leaf
  | one (v : Value)
  | node (l r : BT)
noncomputable def BT.get (d : Nat) : Nat → BT → Value :=
  Nat.rec (fun _ t => BT.rec undef (fun v => v) (fun _ _ _ _ => undef) t)
    (fun _ ih i t => BT.rec undef (fun _ => undef) (fun l r _ _ => Bool.rec (ih (Nat.div i 2) l) (ih (Nat.div i 2) r) (Nat.beq (Nat.mod i 2) 1)) t) d
noncomputable def BT.put (v : Value) (d : Nat) : Nat → BT → BT :=
  Nat.rec (fun _ _ => .one v)
    (fun _ ih i t => BT.rec (Bool.rec (.node (ih (Nat.div i 2) .leaf) .leaf) (.node .leaf (ih (Nat.div i 2) .leaf)) (Nat.beq (Nat.mod i 2) 1))
      (fun _ => Bool.rec (.node (ih (Nat.div i 2) .leaf) .leaf) (.node .leaf (ih (Nat.div i 2) .leaf)) (Nat.beq (Nat.mod i 2) 1))
      (fun l r _ _ => Bool.rec (.node (ih (Nat.div i 2) l) r) (.node l (ih (Nat.div i 2) r)) (Nat.beq (Nat.mod i 2) 1)) t) d
noncomputable def BT.ofL (d : Nat) (l : List Value) : BT :=
  (List.rec (fun _ t => t) (fun v _ ih i t => ih (Nat.succ i) (BT.put v d i t)) l : Nat → BT → BT) 0 .leaf
noncomputable def BT.toL (d n : Nat) (t : BT) : List Value :=
  (Nat.rec (fun _ => []) (fun _ ih i => BT.get d i t :: ih (Nat.succ i)) n : Nat → List Value) 0
noncomputable def pathOf (d : Nat) : Nat → List Bool := Nat.rec (fun _ => []) (fun _ ih i => Nat.beq (Nat.mod i 2) 1 :: ih (Nat.div i 2)) d
noncomputable def BT.getp (p : List Bool) : BT → Value :=
  List.rec (fun t => BT.rec undef (fun v => v) (fun _ _ _ _ => undef) t) (fun b _ ih t => BT.rec undef (fun _ => undef) (fun l r _ _ => Bool.rec (ih l) (ih r) b) t) p
noncomputable def BT.putp (v : Value) (p : List Bool) : BT → BT :=
  List.rec (fun _ => .one v) (fun b _ ih t => BT.rec (Bool.rec (.node (ih .leaf) .leaf) (.node .leaf (ih .leaf)) b) (fun _ => Bool.rec (.node (ih .leaf) .leaf) (.node .leaf (ih .leaf)) b)
    (fun l r _ _ => Bool.rec (.node (ih l) r) (.node l (ih r)) b) t) p
def depthOf (n : Nat) : Nat := Nat.log2 n + 1

noncomputable def evF (d : Nat) (t : BT) (x : Operand) : Value :=
  Operand.rec (fun i => BT.getp (pathOf d i) t) (fun v => v) (fun _ => undef) (fun f => .func (.func f) #[] #[]) x
noncomputable def putF (d : Nat) (o : Option Tmp) (v : Value) (t : BT) : BT :=
  Option.rec t (fun i => BT.putp v (pathOf d i) t) o

/-! ## Operations -/
noncomputable def stepE (E : Env) (call : CallV) (ev : Operand → Value) (h : Heap) (o : Oper) : Option (Value × Heap) :=
  match pureV E ev o with
  | some v => some (v, h)
  | none =>
  match readV E ev h o with
  | some v => some (v, h)
  | none =>
  match newV E ev o with
  | some (b, m) => some (m.val h.next, h.new b)
  | none => heavyV E call ev h o

noncomputable def kIx (k : IntKind) : Nat := IntKind.rec (motive := fun _ => Nat) 0 1 2 3 4 5 6 7 k
/-- the greatest number of a kind. -/
noncomputable def kMax (k : IntKind) : Nat := IntKind.rec (motive := fun _ => Nat) 127 32767 2147483647 9223372036854775807 255 65535 4294967295 18446744073709551615 k
noncomputable def wrS (k : IntKind) (x : Int) : Int :=
  Int.rec (motive := fun _ => Int) (fun m => Bool.rec (k.wrap (.ofNat m)) (.ofNat m) (Nat.ble m (kMax k))) (fun m => Bool.rec (k.wrap (.negSucc m)) (.negSucc m) (Nat.ble m (kMax k))) x
noncomputable def wrU (k : IntKind) (x : Int) : Int :=
  Int.rec (motive := fun _ => Int) (fun m => Bool.rec (k.wrap (.ofNat m)) (.ofNat m) (Nat.ble m (kMax k))) (fun m => k.wrap (.negSucc m)) x
noncomputable def wrF (k : IntKind) : Int → Int := IntKind.rec (motive := fun _ => Int → Int) (wrS .i8) (wrS .i16) (wrS .i32) (wrS .i64) (wrU .u8) (wrU .u16) (wrU .u32) (wrU .u64) k
noncomputable def ltF (x y : Int) : Bool :=
  Int.rec (motive := fun _ => Bool) (fun m => Int.rec (motive := fun _ => Bool) (fun n => Nat.ble (Nat.succ m) n) (fun _ => false) y)
    (fun m => Int.rec (motive := fun _ => Bool) (fun _ => true) (fun n => Nat.ble (Nat.succ n) m) y) x
noncomputable def leF (x y : Int) : Bool :=
  Int.rec (motive := fun _ => Bool) (fun m => Int.rec (motive := fun _ => Bool) (fun n => Nat.ble m n) (fun _ => false) y)
    (fun m => Int.rec (motive := fun _ => Bool) (fun _ => true) (fun n => Nat.ble n m) y) x
noncomputable def eqF (x y : Int) : Bool :=
  Int.rec (motive := fun _ => Bool) (fun m => Int.rec (motive := fun _ => Bool) (fun n => Nat.beq m n) (fun _ => false) y)
    (fun m => Int.rec (motive := fun _ => Bool) (fun _ => false) (fun n => Nat.beq m n) y) x
noncomputable def bitF (f : Nat → Nat → Nat) (op : BinOp) (k : IntKind) (x y : Int) : Option Value :=
  Int.rec (motive := fun _ => Option Value) (fun m => Int.rec (motive := fun _ => Option Value)
      (fun n => Bool.rec (bitV op k (.ofNat m) (.ofNat n)) (some (.int k (.ofNat (f m n)))) (Bool.rec false (Nat.ble n (kMax k)) (Nat.ble m (kMax k))))
      (fun n => bitV op k (.ofNat m) (.negSucc n)) y)
    (fun m => bitV op k (.negSucc m) y) x
noncomputable def shrF (k : IntKind) (x y : Int) : Option Value :=
  Int.rec (motive := fun _ => Option Value) (fun m => Int.rec (motive := fun _ => Option Value)
      (fun n => Bool.rec (arithV .shr k (.ofNat m) (.ofNat n)) (some (.int k (.ofNat (Nat.shiftRight m n)))) (Bool.rec false (Nat.ble n 8) (Nat.ble m (kMax k))))
      (fun n => arithV .shr k (.ofNat m) (.negSucc n)) y)
    (fun m => arithV .shr k (.negSucc m) y) x
abbrev ArFn := IntKind → Int → Int → Option Value
noncomputable def arAdd : ArFn := fun k a b => some (.int k (wrF k (Int.add a b)))
noncomputable def arSub : ArFn := fun k a b => some (.int k (wrF k (Int.sub a b)))
noncomputable def arMul : ArFn := fun k a b => some (.int k (wrF k (Int.mul a b)))
noncomputable def arEql : ArFn := fun _ a b => some (.bool (eqF a b))
noncomputable def arNeq : ArFn := fun _ a b => some (.bool (Bool.rec true false (eqF a b)))
noncomputable def arLss : ArFn := fun _ a b => some (.bool (ltF a b))
noncomputable def arLeq : ArFn := fun _ a b => some (.bool (leF a b))
noncomputable def arGtr : ArFn := fun _ a b => some (.bool (ltF b a))
noncomputable def arGeq : ArFn := fun _ a b => some (.bool (leF b a))
noncomputable def arithF (op : BinOp) : ArFn :=
  BinOp.rec (motive := fun _ => ArFn) arAdd arSub arMul (arithV .quo) (arithV .rem) (bitF Nat.land .and) (bitF Nat.lor .or) (bitF Nat.xor .xor) (arithV .shl) shrF (arithV .andNot) arEql arNeq arLss arLeq arGtr arGeq op
noncomputable def binX (E : Env) (op : BinOp) (t : TypeId) (a b : Operand) (x y : Value) : Option Value :=
  match x with
  | .int k m => match y with
    | .int k' n => Bool.rec (binV E op t (isConstO a || isConstO b) x y) (arithF op k m n) (Nat.beq (kIx k) (kIx k'))
    | _ => binV E op t (isConstO a || isConstO b) x y
  | _ => binV E op t (isConstO a || isConstO b) x y
/-- where a field lies: of a pointer's struct; it has a size. -/
noncomputable def fieldAt (E : Env) (s : TypeId) (f : Nat) : Option Nat := do
  let i ← E.ty s
  match i.under with
  | .struct fs => do
    let f ← fs[f]?
    let e ← E.ty f.type
    if e.size = 0 then none else some f.offset
  | _ => none
noncomputable def addrK (x : Value) (n : Nat) : Option Value :=
  match x with
  | .pointer (some a) => some (.pointer (some (a.add n)))
  | _ => none
noncomputable def fieldAddrF (E : Env) (s : TypeId) (x : Value) (f : Nat) : Option Value :=
  match fieldAt E s f with
  | some n => addrK x n
  | none => none
/-- the size of a slice's elements. -/
noncomputable def elemOf (E : Env) (t : TypeId) : Option Nat := do
  let i ← E.ty t
  match i.under with
  | .slice elem => (E.ty elem).map (·.size)
  | _ => none
noncomputable def indexK (a : Addr) (len : Nat) (n : Int) (sz : Nat) : Option Value :=
  Int.rec (motive := fun _ => Option Value) (fun m => Bool.rec none (Bool.rec (some (.pointer (some (a.add (Nat.mul m sz))))) none (Nat.beq sz 0)) (Nat.ble (Nat.succ m) len)) (fun _ => none) n
/-- an array's length, and the size of its elements. -/
noncomputable def arrOf (E : Env) (t : TypeId) : Option (Nat × Nat) := do
  let i ← E.ty t
  match i.under with
  | .array len elem => (E.ty elem).map fun e => (len, e.size)
  | _ => none
noncomputable def arrK (len sz : Nat) (x ix : Value) : Option Value :=
  match x with
  | .pointer (some a) => match ix with
    | .int _ n => indexK a len n sz
    | _ => none
  | _ => none
noncomputable def indexAddrF (E : Env) (t : TypeId) (x ix : Value) : Option Value :=
  match elemOf E t with
  | some sz =>
    match x, ix with
    | .slice (some a) len _, .int _ n => indexK a len n sz
    | _, _ => none
  | none => match arrOf E t with
    | some (len, sz) => arrK len sz x ix
    | none => indexAddrV E t x ix
/-- how a type is loaded: its size, and whether it is more than one cell's. -/
noncomputable def loadK (E : Env) (t : TypeId) : Option (Nat × Bool) := (E.ty t).map fun i => (i.size, i.agg)
noncomputable def dropR (i : Nat) : List Value → List Value :=
  Nat.rec (fun l => l) (fun _ ih l => List.rec [] (fun _ r _ => ih r) l) i
noncomputable def nthR (i : Nat) : List Value → Option Value :=
  Nat.rec (fun l => List.rec none (fun v _ _ => some v) l) (fun _ ih l => List.rec none (fun _ r _ => ih r) l) i
noncomputable def setR (x : Value) (i : Nat) : List Value → List Value :=
  Nat.rec (fun l => List.rec [] (fun _ r _ => x :: r) l) (fun _ ih l => List.rec [] (fun v r _ => v :: ih r) l) i
noncomputable def getR (n : Nat) (t : Trie Blk) : Option Blk :=
  (Nat.rec (fun _ t => Trie.rec none (fun _ v _ _ _ => v) t)
    (fun _ ih n t => Trie.rec none (fun l v r _ _ => Bool.rec (Bool.rec (ih (Nat.div n 2) l) (ih (Nat.div n 2) r) (Nat.beq (Nat.mod n 2) 1)) v (Nat.beq n 0)) t) n : Nat → Trie Blk → Option Blk) n t
noncomputable def putR (x : Option Blk) (n : Nat) (t : Trie Blk) : Trie Blk :=
  (Nat.rec (fun _ t => Trie.rec (.node .leaf x .leaf) (fun l _ r _ _ => .node l x r) t)
    (fun _ ih n t => Bool.rec
      (Trie.rec (Bool.rec (.node (ih (Nat.div n 2) .leaf) none .leaf) (.node .leaf none (ih (Nat.div n 2) .leaf)) (Nat.beq (Nat.mod n 2) 1))
        (fun l v r _ _ => Bool.rec (.node (ih (Nat.div n 2) l) v r) (.node l v (ih (Nat.div n 2) r)) (Nat.beq (Nat.mod n 2) 1)) t)
      (Trie.rec (.node .leaf x .leaf) (fun l _ r _ _ => .node l x r) t) (Nat.beq n 0)) n : Nat → Trie Blk → Trie Blk) n t
noncomputable def leR (n : Nat) : List Value → Bool := Nat.rec (fun _ => true) (fun _ ih l => List.rec false (fun _ r _ => ih r) l) n
noncomputable def takeR (n : Nat) : List Value → List Value := Nat.rec (fun _ => []) (fun _ ih l => List.rec [] (fun v r _ => v :: ih r) l) n
noncomputable def appR (l m : List Value) : List Value := List.rec m (fun v _ ih => v :: ih) l
noncomputable def allR (l : List Value) : Bool := List.rec true (fun v _ ih => Bool.rec false ih (oneCell v)) l
noncomputable def dropL (l : List Value) : List Value → List Value := List.rec (fun cs => cs) (fun _ _ ih cs => List.rec [] (fun _ r _ => ih r) cs) l
noncomputable def overR (l : List Value) (i : Nat) : List Value → List Value := Nat.rec (fun cs => appR l (dropL l cs)) (fun _ ih cs => List.rec l (fun v r _ => v :: ih r) cs) i
noncomputable def rdG (h : Heap) (a : Addr) (n : Nat) : Option (List Value) :=
  match a.spot with
  | none => match getR a.block h.tr with
    | some (.cells cs _ _) => Bool.rec none (some (takeR n (dropR a.off cs))) (leR (a.off + n) cs)
    | _ => none
  | _ => none
noncomputable def wrG (h : Heap) (a : Addr) (l : List Value) : Option Heap :=
  match a.spot with
  | none => match getR a.block h.tr with
    | some (.cells cs true o) => Bool.rec none (some { next := h.next, tr := putR (some (.cells (overR l a.off cs) true o)) a.block h.tr }) (leR (a.off + l.length) cs)
    | _ => none
  | _ => none
noncomputable def loadBig (E : Env) (t : TypeId) (p : Value) (h : Heap) : Option Value := do
  let i ← E.ty t
  let a ← ptrOf p
  let l ← rdG h a i.size
  if i.agg then some (aggOf l) else if i.size = 1 then ofCells false l else none
noncomputable def storeBig (E : Env) (t : TypeId) (p v : Value) (h : Heap) : Option Heap := do
  let i ← E.ty t
  let a ← ptrOf p
  let l := cellsOf v
  if l.length = i.size ∧ l.all oneCell then wrG h a l else none
noncomputable def srcF (size : Nat) (x : Value) (h : Heap) : Option (Nat × List Value) :=
  match x with
  | .slice none _ _ => some (0, [])
  | .slice (some a) n _ => if n = 0 then some (0, []) else (rdG h a (n * size)).map fun l => (n, l)
  | .string s => some (s.size, (strL s).map byteV)
  | _ => none
/-- the length of what is appended: of a slice's elements it is known. -/
noncomputable def lenOkF (okx : Bool) (x : Value) (new : List Value) (k : Nat) : Bool :=
  match x with
  | .slice (some _) n _ => Bool.rec (new.length == k) (Bool.rec true (new.length == k) (Nat.beq n 0)) okx
  | _ => new.length == k
noncomputable def srcAF (okx : Bool) (e : Ty) (x : Value) (h : Heap) : Option (Nat × List Value) := if okx then srcF e.size x h else zsrcV e x
noncomputable def appendF (E : Env) (t : TypeId) (xt : Option TypeId) (s x : Value) (h : Heap) : Option (Value × Heap) := do
  let i ← E.ty t
  match i.under, s with
  | .slice elem, .slice base len cap => do
    let e ← E.ty elem
    let okx ← okSrc E xt
    let (n, new) ← srcAF okx e x h
    if e.size = 0 || !lenOkF okx x new (n * e.size) || !allR new then none else
    if len + n ≤ cap then
      if n = 0 then some (s, h) else
      match base with
      | some a => do
        let h' ← wrG h (a.add (len * e.size)) new
        some (.slice base (len + n) cap, h')
      | none => none
    else if (len + n) * e.bytes > 2 ^ 36 ∨ len + n > 2 ^ 36 ∨ (e.zero.map fun z => (cellsOf z).length) ≠ some e.size then none else
    match base with
    | none => if len = 0 then some (.slice (some ⟨h.next, 0, none⟩) n n, { next := h.next + 1, tr := putR (some (.cells new true (some (e.size, elem)))) h.next h.tr }) else none
    | some a =>
      match a.spot, getR a.block h.tr with
      | none, some (.cells cs wr o) =>
        if leR (a.off + len * e.size) cs then
          let h' : Heap := { next := h.next + 1, tr := putR (some (.cells (appR (takeR (len * e.size) (dropR a.off cs)) new) true (some (e.size, elem)))) h.next h.tr }
          match o with
          | none => some (.slice (some ⟨h.next, 0, none⟩) (len + n) (len + n), h')
          | some z => if z = (e.size, elem) ∧ wr then some (.slice (some ⟨h.next, 0, none⟩) (len + n) (len + n), { next := h'.next, tr := putR none a.block h'.tr }) else none
        else none
      | _, _ => none
  | _, _ => none
noncomputable def cellF (h : Heap) (a : Addr) : Option Value :=
  match a.spot with
  | none => match getR a.block h.tr with
    | some (.cells cs _ _) => nthR a.off cs
    | _ => none
  | _ => none
noncomputable def loadF (E : Env) (t : TypeId) (p : Value) (h : Heap) : Option Value :=
  match loadK E t with
  | some (1, false) => match p with
    | .pointer (some a) => match cellF h a with
      | some v => if oneCell v then some v else loadV E t p h
      | none => none
    | _ => none
  | _ => loadBig E t p h
noncomputable def storeCell (h : Heap) (a : Addr) (v : Value) : Option Heap :=
  match a.spot with
  | none => match getR a.block h.tr with
    | some (.cells cs true o) => match nthR a.off cs with
      | some _ => some { next := h.next, tr := putR (some (.cells (setR v a.off cs) true o)) a.block h.tr }
      | none => none
    | _ => none
  | _ => none
noncomputable def storeF (E : Env) (t : TypeId) (p v : Value) (h : Heap) : Option Heap :=
  match loadK E t with
  | some (1, _) => if oneCell v then match p with
      | .pointer (some a) => storeCell h a v
      | _ => none
    else storeBig E t p v h
  | _ => storeBig E t p v h
noncomputable def newF (h : Heap) (b : Blk) : Heap := { next := h.next + 1, tr := putR (some b) h.next h.tr }
/-- a type's noughts. -/
noncomputable def zeroK (E : Env) (t : TypeId) : Option (List Value) := (E.ty t).bind fun i => i.zero.map cellsOf
noncomputable def allocK (E : Env) (t : TypeId) : Option (List Value × Option (Nat × Nat)) := (E.ty t).bind fun i => i.zero.map fun z => (cellsOf z, tagOf i.tag t)
noncomputable def ifaceK (E : Env) (t : TypeId) : Option Unit := (E.ty t).bind fun i => if isIface i.under then none else some ()
abbrev StepFn := Env → CallV → (Operand → Value) → Heap → SOp → Option (Value × Heap)
noncomputable def fGen : StepFn := fun E call ev h x => stepE E call ev h x.o
noncomputable def fMove (a : Operand) : StepFn := fun _ _ ev h _ => some (ev a, h)
noncomputable def pickF (c a b : Value) : Option Value := match c with
  | .bool t => some (Bool.rec b a t)
  | _ => none
noncomputable def fPick (c a b : Operand) : StepFn := fun _ _ ev h _ => atH h (pickF (ev c) (ev a) (ev b))
noncomputable def fBin (op : BinOp) (t : TypeId) (a b : Operand) (_ : TypeId) : StepFn := fun E _ ev h _ => atH h (binX E op t a b (ev a) (ev b))
noncomputable def fUn (op : UnOp) (_ : TypeId) (a : Operand) : StepFn := fun _ _ ev h _ => atH h (unV op (ev a))
noncomputable def fBuild (t : TypeId) (ps : Array (Nat × Operand)) : StepFn := fun E _ ev h _ => atH h (buildV E t (partsV ev ps))
noncomputable def fFieldAddr (s : TypeId) (a : Operand) (f : Nat) : StepFn := fun E _ ev h _ => atH h (fieldAddrF E s (ev a) f)
noncomputable def fField (s : TypeId) (a : Operand) (f : Nat) : StepFn := fun E _ ev h _ => atH h (fieldV E s (ev a) f)
noncomputable def fIndexAddr (s : TypeId) (a i : Operand) : StepFn := fun E _ ev h _ => atH h (indexAddrF E s (ev a) (ev i))
noncomputable def fIndex (s : TypeId) (a i : Operand) : StepFn := fun E _ ev h _ => atH h (indexV E s (ev a) (ev i))
noncomputable def fExtract (a : Operand) (i : Nat) : StepFn := fun _ _ ev h _ => atH h (extrK (ev a) i)
noncomputable def fLoad (t : TypeId) (a : Operand) : StepFn := fun E _ ev h _ => atH h (loadF E t (ev a) h)
noncomputable def fStore (t : TypeId) (a b : Operand) : StepFn := fun E _ ev h _ => heapK undef (storeF E t (ev a) (ev b) h)
noncomputable def fBox (_ : TypeId) (a : Operand) : StepFn := fun _ _ ev h _ => some (Mk.ptr.val h.next, newF h (.cells (cellsOf (ev a)) true none))
noncomputable def callW (r : Option (List Value → Heap → Option (Value × Heap))) (call : CallV) (g : FuncId) (args : List Value) (h : Heap) : Option (Value × Heap) :=
  match r with
  | some r => r args h
  | none => call g args h
noncomputable def callU (v : Value) (E : Env) (call : CallV) (ev : Operand → Value) (h : Heap) (x : SOp) (args : Array Operand) : Option (Value × Heap) :=
  match v with
  | .func (.func g) first captured => callW (E.row g) call g (first.toList ++ (args.toList.map ev ++ captured.toList)) h
  | _ => stepE E call ev h x.o
noncomputable def fNew : StepFn := fun E _ ev h x => newK h (newV E ev x.o)
noncomputable def fAlloc (t : TypeId) : StepFn := fun E _ _ h _ => match allocK E t with
  | some p => some (Mk.ptr.val h.next, newF h (.cells p.1 true p.2))
  | none => none
noncomputable def fPure : StepFn := fun E _ ev h x => atH h (pureV E ev x.o)
noncomputable def fIface (t : TypeId) (a : Operand) : StepFn := fun E _ ev h _ => match ifaceK E t with
  | some _ => some (.iface t (ev a), h)
  | none => none
noncomputable def fSlice (t : TypeId) (a : Operand) (lo hi mx : Option Operand) : StepFn := fun E _ ev h _ =>
  orK (atH h (sliceV E t (ev a) (lo.map ev) (hi.map ev) (mx.map ev))) (atH h (sliceS E t (ev a) (lo.map ev) (hi.map ev) (mx.map ev) h))
noncomputable def fLookup (t : TypeId) (a i : Operand) (ok : Bool) : StepFn := fun E _ ev h _ => atH h (lookupV E t (ev a) (ev i) ok h)
noncomputable def fHeavy : StepFn := fun E call ev h x => heavyV E call ev h x.o
/-- a conversion between kinds of numbers. -/
noncomputable def convK (E : Env) (s d : TypeId) : Option IntKind :=
  if s = d then none else do
  let i ← E.ty s
  let j ← E.ty d
  match i.under, j.under with
  | .int _, .int k => some k
  | _, _ => none
noncomputable def convX (k : IntKind) (x : Value) : Option Value := match x with
  | .int _ n => some (.int k (wrF k n))
  | _ => none
noncomputable def fConv (s d : TypeId) (a : Operand) : StepFn := fun E call ev h x => match convK E s d with
  | some k => atH h (convX k (ev a))
  | none => stepE E call ev h x.o
noncomputable def fValue (f : Operand) : Call → StepFn := fun c E call ev h x => callU (ev f) E call ev h x c.args
noncomputable def lenK (v : Value) : Option Value := match v with
  | .slice _ n _ => some (.int .i64 n)
  | _ => none
noncomputable def fLen : Call → StepFn := fun c E call ev h x => match c.args.toList, c.argTypes.toList with
  | a :: _, t :: _ => match elemOf E t with
    | some _ => atH h (lenK (ev a))
    | none => stepE E call ev h x.o
  | _, _ => stepE E call ev h x.o
noncomputable def fAppend : Call → StepFn := fun c E call ev h x => match c.args.toList, c.argTypes.toList with
  | [s, a], [t, u] => appendF E t (some u) (ev s) (ev a) h
  | _, _ => stepE E call ev h x.o
noncomputable def fGenC : Call → StepFn := fun _ => fGen
noncomputable def builtinTab (b : Builtin) : Call → StepFn := match b with
  | .len => fLen
  | .append => fAppend
  | _ => fGenC
noncomputable def fCall (c : Call) : StepFn := Callee.rec (motive := fun _ => Call → StepFn) fValue (fun _ _ _ => fGen) builtinTab c.callee c
noncomputable def opTab (o : Op) : StepFn :=
  Op.rec (motive := fun _ => StepFn) fMove fMove fPick fAlloc fBox fBuild (fun _ _ _ => fNew) (fun _ _ _ _ => fHeavy) fLoad fStore (fun _ => fGen) (fun _ => fGen) (fun _ => fPure) fBin fUn
    fConv (fun _ _ => fGen) fIface (fun _ _ _ => fPure) (fun _ _ => fNew) (fun _ _ => fGen) (fun _ _ _ => fNew) fSlice fFieldAddr fField fIndexAddr fIndex
    fLookup (fun _ _ _ _ => fHeavy) (fun _ _ _ => fHeavy) (fun _ _ _ _ => fHeavy) (fun _ _ => fHeavy) (fun _ _ => fHeavy) (fun _ => fGen) (fun _ _ _ _ => fPure) fExtract fCall
    (fun _ => fGen) (fun _ => fGen) (fun _ => fGen) (fun _ _ => fGen) (fun _ _ _ => fGen) (fun _ _ => fGen) o
noncomputable def stepF (E : Env) (call : CallV) (ev : Operand → Value) (h : Heap) (x : SOp) : Option (Value × Heap) := opTab x.op E call ev h x

/-! ## Regions -/
noncomputable def wantF (d : Nat) (t : BT) (g : Option (Option Tmp × Bool)) : Bool :=
  match g with
  | none => true
  | some (some i, want) => match BT.getp (pathOf d i) t with
    | .bool b => b == want
    | _ => false
  | some (none, _) => false
noncomputable def opsK (rest : BT → Heap → Option (BT × Heap)) (d : Nat) (o : Option Tmp) (t : BT) (x : Option (Value × Heap)) : Option (BT × Heap) :=
  match x with
  | some (v, h) => rest (putF d o v t) h
  | none => none
noncomputable def opsF (E : Env) (call : CallV) (d : Nat) (l : List SOp) : BT → Heap → Option (BT × Heap) :=
  List.rec (fun t h => some (t, h)) (fun x _ ih t h => Bool.rec (ih (putF d x.d undef t) h) (opsK ih d x.d t (stepF E call (evF d t) h x)) (wantF d t x.g)) l
structure FSeen where
  at_ : Nat
  op : SOp
  t : BT
  v : Value
noncomputable def maybeRead (x : SOp) : Option Bool :=
  match x.op with
  | .load .. | .lookup .. => some true
  | .convert .. | .slice .. | .call .. => none
  | _ => some false
noncomputable def readsF (E : Env) (ev : Operand → Value) (h : Heap) (x : SOp) : Bool :=
  match maybeRead x with
  | some b => b
  | none => (pureV E ev x.o).isNone && (readV E ev h x.o).isSome
noncomputable def drawK (rest : BT → Heap → List FSeen → Option (BT × Heap × List Heap × List FSeen)) (d : Nat) (o : Option Tmp) (t : BT) (x : Option (Value × Heap)) (rs : Value → List FSeen) : Option (BT × Heap × List Heap × List FSeen) :=
  match x with
  | some (v, h) => rest (putF d o v t) h (rs v)
  | none => none
noncomputable def drawF (E : Env) (call : CallV) (d : Nat) (l : List SOp) : Nat → BT → Heap → List Heap → List FSeen → Option (BT × Heap × List Heap × List FSeen) :=
  List.rec (fun _ t h hs rs => some (t, h, hs ++ [h], rs))
    (fun x _ ih j t h hs rs => Bool.rec
      (ih (j + 1) (putF d x.d undef t) h (Bool.rec hs (hs ++ [h]) (heavyOp x.o)) rs)
      (drawK (fun t' h' rs' => ih (j + 1) t' h' (Bool.rec hs (hs ++ [h]) (heavyOp x.o)) rs') d x.d t (stepF E call (evF d t) h x)
        (fun v => Bool.rec (Bool.rec rs (⟨j, x, t, v⟩ :: rs) (readsF E (evF d t) h x)) rs (heavyOp x.o)))
      (wantF d t x.g)) l
noncomputable def sameAt (E : Env) (ev : Operand → Value) (x : SOp) (v : Value) (h : Option Heap) : Bool :=
  match h with
  | some h => match readV E ev h x.o with
    | some u => veq 100000 u v
    | none => false
  | none => false
noncomputable def seenF (E : Env) (d : Nat) (p : Plan) (hs : List Heap) (x : FSeen) : Bool :=
  (List.range (p.hi.getD x.at_ 0 + 1 - p.lo.getD x.at_ 0)).all fun k => sameAt E (evF d x.t) x.op x.v hs[p.lo.getD x.at_ 0 + k]?
noncomputable def regK (E : Env) (d : Nat) (p : Plan) (x : Option (BT × Heap × List Heap × List FSeen)) : Option (Ex × BT × Heap) :=
  match x with
  | some (t, h, hs, rs) => Bool.rec none (some (.normal, t, h)) (rs.all (seenF E d p hs))
  | none => none
noncomputable def regF (E : Env) (call : CallV) (d : Nat) (pl : Option Plan) (ops : List SOp) (t : BT) (h : Heap) : Option (Ex × BT × Heap) :=
  match pl with
  | some p => regK E d p (drawF E call d ops 0 t h [] [])
  | none => none

/-! ## Code -/
noncomputable def endF (x : Option (BT × Heap)) : Option (Ex × BT × Heap) :=
  match x with
  | some (t, h) => some (.normal, t, h)
  | none => none
noncomputable def seqF (b : BT → Heap → Option (Ex × BT × Heap)) (x : Option (Ex × BT × Heap)) : Option (Ex × BT × Heap) :=
  match x with
  | some (.normal, t, h) => b t h
  | r => r
noncomputable def condF (a b : BT → Heap → Option (Ex × BT × Heap)) (t : BT) (h : Heap) (v : Value) : Option (Ex × BT × Heap) :=
  match v with
  | .bool c => Bool.rec (b t h) (a t h) c
  | _ => none
noncomputable def blockF (id : Nat) (x : Option (Ex × BT × Heap)) : Option (Ex × BT × Heap) :=
  match x with
  | some (.exit i, t, h) => if i = id then some (.normal, t, h) else some (.exit i, t, h)
  | r => r
noncomputable def iterF (f : BT → Heap → Option (Ex × BT × Heap)) (n : Nat) : BT → Heap → Option (Ex × BT × Heap) :=
  Nat.rec (fun _ _ => none) (fun _ ih t h => seqF ih (f t h)) n
noncomputable def rangeE (l : Nat) (t : BT) (x : Option (Value × Heap)) : Option (Ex × BT × Heap) :=
  match x with
  | some (_, h) => match getR l h.tr with
    | some (.loop r) => if r.st == .busy then none else match exOf r.pending with
      | some x => some (x, t, { next := h.next, tr := putR (some (.loop { r with st := .exhausted })) l h.tr })
      | none => none
    | _ => none
  | none => none
noncomputable def rangeF (call : CallV) (d n : Nat) (pl : Nat → Option Plan) (ps : Array Tmp) (a b : Code) (t : BT) (h : Heap) (v : Value) : Option (Ex × BT × Heap) :=
  match v with
  | .func (.func f) first captured =>
    rangeE h.next t (call f (first.toList ++ [.func (.yield h.next) #[] #[]] ++ captured.toList) (newF h (.loop { st := .ready, pending := none, tmps := BT.toL d n t, params := ps, assign := a, body := b, plan := pl })))
  | _ => none
noncomputable def codeF (E : Env) (call : CallV) (pl : Nat → Option Plan) (fuel d n : Nat) (c : Code) : BT → Heap → Option (Ex × BT × Heap) :=
  Code.rec (motive := fun _ => BT → Heap → Option (Ex × BT × Heap))
    (skip := fun t h => some (.normal, t, h))
    (region := fun id ops draw t h => Bool.rec (endF (opsF E call d (ops.toList.map (slim ops)) t h)) (regF E call d (pl id) (ops.toList.map (slim ops)) t h) draw)
    (seq := fun _ _ a b t h => seqF b (a t h))
    (cond := fun c _ _ a b t h => condF a b t h (evF d t c))
    (block := fun id _ b t h => blockF id (b t h))
    (loop := fun _ b t h => iterF b fuel t h)
    (exit := fun id t h => some (.exit id, t, h))
    (ret := fun t h => some (.ret, t, h))
    (rangeFunc := fun g ps a b _ _ t h => Bool.rec none (rangeF call d n pl ps a b t h (evF d t g)) (flat a && flat b))
    (scope := fun _ _ _ _ => none) (label := fun _ _ _ => none) (goto := fun _ _ _ => none) (refuse := fun _ _ _ => none) c

/-! ## Calls -/
noncomputable def operOk (n : Nat) (x : Operand) : Bool :=
  match x with
  | .tmp i => decide (i < n)
  | .const v => plainB 100 v
  | .global _ => false
  | .func _ => true
noncomputable def sopOk (n : Nat) (x : SOp) : Bool :=
  x.op.operands.toList.all (operOk n) && (match x.d with | some i => decide (i < n) | none => true) && (match x.g with | some (some i, _) => decide (i < n) | _ => true)
noncomputable def codeChk (n : Nat) : Code → Bool
  | .region _ ops _ => (ops.toList.map (slim ops)).all (sopOk n)
  | .seq a b => codeChk n a && codeChk n b
  | .cond c a b => operOk n c && codeChk n a && codeChk n b
  | .block _ b => codeChk n b
  | .loop b => codeChk n b
  | .rangeFunc g _ a b => operOk n g && codeChk n a && codeChk n b
  | _ => true
noncomputable def resF1 (E : Env) (d n : Nat) (t : BT) (h : Heap) (l : List ResultVar) : Option (List Value) :=
  List.rec (some []) (fun r _ ih => match r with
    | .tmp i => if i < n then match ih with | some l => some (BT.get d i t :: l) | none => none else none
    | .cell a ty => if a < n then match loadF E ty (BT.get d a t) h, ih with | some v, some l => some (v :: l) | _, _ => none else none) l
noncomputable def retF (E : Env) (d n : Nat) (rs : List ResultVar) (x : Option (Ex × BT × Heap)) : Option (Value × Heap) :=
  match x with
  | some (e, t, h) => match e with
    | .exit _ => none
    | _ => match resF1 E d n t h rs with
      | some l => some (oneOrTuple l, h)
      | none => none
  | none => none
noncomputable def fnChk (fn : Fun) : Bool := codeChk fn.fn.ntmps fn.body
noncomputable def fnF (E : Env) (call : CallV) (fuel : Nat) (fn : Fun) (args : List Value) (h : Heap) : Option (Value × Heap) :=
  Bool.rec none (if args.length ≤ fn.fn.ntmps then
    retF E (depthOf fn.fn.ntmps) fn.fn.ntmps fn.fn.results.toList (codeF E call fn.plan fuel (depthOf fn.fn.ntmps) fn.fn.ntmps fn.body (BT.ofL (depthOf fn.fn.ntmps) args) h) else none) (fnChk fn)
noncomputable def yldF (E : Env) (call : CallV) (fuel : Nat) (l : Nat) (args : List Value) (h : Heap) : Option (Value × Heap) :=
  match getR l h.tr with
  | some (.loop r) =>
    if args.length ≠ r.params.size then none else
    Bool.rec none (
    match codeF E call r.plan fuel (depthOf r.tmps.length) r.tmps.length r.assign (BT.ofL (depthOf r.tmps.length) (setAll (r.params.toList.zip args) r.tmps)) h with
    | some (.normal, t1, h1) =>
      match getR l h1.tr with
      | some (.loop r1) =>
        if r1.st == .ready then
          match codeF E call r.plan fuel (depthOf r.tmps.length) r.tmps.length r.body t1 { next := h1.next, tr := putR (some (.loop { r1 with st := .busy })) l h1.tr } with
          | some (x, _, h3) =>
            match getR l h3.tr with
            | some (.loop r3) => some (.bool (jumpOf x).isNone, { next := h3.next, tr := putR (some (.loop { r3 with st := if (jumpOf x).isNone then .ready else .done, pending := jumpOf x })) l h3.tr })
            | _ => none
          | none => none
        else none
      | _ => none
    | _ => none) (codeChk r.tmps.length r.assign && codeChk r.tmps.length r.body)
  | _ => none
noncomputable def callF (E : Env) (n : Nat) : CallV :=
  Nat.rec { fn := fun _ _ _ => none, yld := fun _ _ _ => none }
    (fun n ih => { fn := fun f args h => match E.ext f with
                     | some g => g args h
                     | none => match E.fn f with
                       | some fn => fnF E ih n fn args h
                       | none => none
                   yld := yldF E ih n }) n
end Go.Vi
