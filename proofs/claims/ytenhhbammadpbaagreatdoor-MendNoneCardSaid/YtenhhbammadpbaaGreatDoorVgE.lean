/- Vf0: the interpreter again, so laid that the kernel runs it fast: temporaries in a tree, small branches, what does not turn with the state set apart. Vf1: the fast interpreter's parts are the slow one's: the tree of temporaries, numbers, the heap's tree. Vf2: bits, the heap's tree, cells, single operations of the fast interpreter. Vf3: one operation of the fast interpreter is one of the slow one's. Vf4: what the fast interpreter says the slow one says. -/
import Derived.Test.YtenhhbammadpbaaGreatDoorVgD
namespace Go.Vi
inductive BT where
  | leaf
  | one (v : Value)
  | node (l r : BT)
noncomputable def BT.get (d : Nat) : Nat → BT → Value :=
  Nat.rec (fun _ t => BT.rec undef (fun v => v) (fun _ _ _ _ => undef) t)
    (fun _ ih i t => BT.rec undef (fun _ => undef) (fun l r _ _ => Bool.rec (ih (Nat.div i 2) l) (ih (Nat.div i 2) r) (Nat.beq (Nat.mod i 2) 1)) t) d
noncomputable def BT.put (v : Value) (d : Nat) : Nat → BT → BT :=
  Nat.rec (fun _ _ => .one v)
    (fun _ ih i t => BT.rec (Bool.rec (.node (ih (Nat.div i 2) .leaf) .leaf) (.node .leaf (ih (Nat.div i 2) .leaf)) (Nat.beq (Nat.mod i 2) 1))
      (fun _ => Bool.rec (.node (ih (Nat.div i 2) .leaf) .leaf) (.node .leaf (ih (Nat.div i 2) .leaf)) (Nat.beq (Nat.mod i 2) 1))
      (fun l r _ _ => Bool.rec (.node (ih (Nat.div i 2) l) r) (.node l (ih (Nat.div i 2) r)) (Nat.beq (Nat.mod i 2) 1)) t) d
noncomputable def BT.ofL (d : Nat) (l : List Value) : BT :=
  (List.rec (fun _ t => t) (fun v _ ih i t => ih (Nat.succ i) (BT.put v d i t)) l : Nat → BT → BT) 0 .leaf
noncomputable def BT.toL (d n : Nat) (t : BT) : List Value :=
  (Nat.rec (fun _ => []) (fun _ ih i => BT.get d i t :: ih (Nat.succ i)) n : Nat → List Value) 0
noncomputable def pathOf (d : Nat) : Nat → List Bool := Nat.rec (fun _ => []) (fun _ ih i => Nat.beq (Nat.mod i 2) 1 :: ih (Nat.div i 2)) d
noncomputable def BT.getp (p : List Bool) : BT → Value :=
  List.rec (fun t => BT.rec undef (fun v => v) (fun _ _ _ _ => undef) t) (fun b _ ih t => BT.rec undef (fun _ => undef) (fun l r _ _ => Bool.rec (ih l) (ih r) b) t) p
noncomputable def BT.putp (v : Value) (p : List Bool) : BT → BT :=
  List.rec (fun _ => .one v) (fun b _ ih t => BT.rec (Bool.rec (.node (ih .leaf) .leaf) (.node .leaf (ih .leaf)) b) (fun _ => Bool.rec (.node (ih .leaf) .leaf) (.node .leaf (ih .leaf)) b)
    (fun l r _ _ => Bool.rec (.node (ih l) r) (.node l (ih r)) b) t) p
def depthOf (n : Nat) : Nat := Nat.log2 n + 1
noncomputable def evF (d : Nat) (t : BT) (x : Operand) : Value :=
  Operand.rec (fun i => BT.getp (pathOf d i) t) (fun v => v) (fun _ => undef) (fun f => .func (.func f) #[] #[]) x
noncomputable def putF (d : Nat) (o : Option Tmp) (v : Value) (t : BT) : BT :=
  Option.rec t (fun i => BT.putp v (pathOf d i) t) o
noncomputable def stepE (E : Env) (call : CallV) (ev : Operand → Value) (h : Heap) (o : Oper) : Option (Value × Heap) :=
  match pureV E ev o with
  | some v => some (v, h)
  | none =>
  match readV E ev h o with
  | some v => some (v, h)
  | none =>
  match newV E ev o with
  | some (b, m) => some (m.val h.next, h.new b)
  | none => heavyV E call ev h o
noncomputable def kIx (k : IntKind) : Nat := IntKind.rec (motive := fun _ => Nat) 0 1 2 3 4 5 6 7 k
noncomputable def kMax (k : IntKind) : Nat := IntKind.rec (motive := fun _ => Nat) 127 32767 2147483647 9223372036854775807 255 65535 4294967295 18446744073709551615 k
noncomputable def wrS (k : IntKind) (x : Int) : Int :=
  Int.rec (motive := fun _ => Int) (fun m => Bool.rec (k.wrap (.ofNat m)) (.ofNat m) (Nat.ble m (kMax k))) (fun m => Bool.rec (k.wrap (.negSucc m)) (.negSucc m) (Nat.ble m (kMax k))) x
noncomputable def wrU (k : IntKind) (x : Int) : Int :=
  Int.rec (motive := fun _ => Int) (fun m => Bool.rec (k.wrap (.ofNat m)) (.ofNat m) (Nat.ble m (kMax k))) (fun m => k.wrap (.negSucc m)) x
noncomputable def wrF (k : IntKind) : Int → Int := IntKind.rec (motive := fun _ => Int → Int) (wrS .i8) (wrS .i16) (wrS .i32) (wrS .i64) (wrU .u8) (wrU .u16) (wrU .u32) (wrU .u64) k
noncomputable def ltF (x y : Int) : Bool :=
  Int.rec (motive := fun _ => Bool) (fun m => Int.rec (motive := fun _ => Bool) (fun n => Nat.ble (Nat.succ m) n) (fun _ => false) y)
    (fun m => Int.rec (motive := fun _ => Bool) (fun _ => true) (fun n => Nat.ble (Nat.succ n) m) y) x
noncomputable def leF (x y : Int) : Bool :=
  Int.rec (motive := fun _ => Bool) (fun m => Int.rec (motive := fun _ => Bool) (fun n => Nat.ble m n) (fun _ => false) y)
    (fun m => Int.rec (motive := fun _ => Bool) (fun _ => true) (fun n => Nat.ble n m) y) x
noncomputable def eqF (x y : Int) : Bool :=
  Int.rec (motive := fun _ => Bool) (fun m => Int.rec (motive := fun _ => Bool) (fun n => Nat.beq m n) (fun _ => false) y)
    (fun m => Int.rec (motive := fun _ => Bool) (fun _ => false) (fun n => Nat.beq m n) y) x
noncomputable def bitF (f : Nat → Nat → Nat) (op : BinOp) (k : IntKind) (x y : Int) : Option Value :=
  Int.rec (motive := fun _ => Option Value) (fun m => Int.rec (motive := fun _ => Option Value)
      (fun n => Bool.rec (bitV op k (.ofNat m) (.ofNat n)) (some (.int k (.ofNat (f m n)))) (Bool.rec false (Nat.ble n (kMax k)) (Nat.ble m (kMax k))))
      (fun n => bitV op k (.ofNat m) (.negSucc n)) y)
    (fun m => bitV op k (.negSucc m) y) x
noncomputable def shrF (k : IntKind) (x y : Int) : Option Value :=
  Int.rec (motive := fun _ => Option Value) (fun m => Int.rec (motive := fun _ => Option Value)
      (fun n => Bool.rec (arithV .shr k (.ofNat m) (.ofNat n)) (some (.int k (.ofNat (Nat.shiftRight m n)))) (Bool.rec false (Nat.ble n 8) (Nat.ble m (kMax k))))
      (fun n => arithV .shr k (.ofNat m) (.negSucc n)) y)
    (fun m => arithV .shr k (.negSucc m) y) x
abbrev ArFn := IntKind → Int → Int → Option Value
noncomputable def arAdd : ArFn := fun k a b => some (.int k (wrF k (Int.add a b)))
noncomputable def arSub : ArFn := fun k a b => some (.int k (wrF k (Int.sub a b)))
noncomputable def arMul : ArFn := fun k a b => some (.int k (wrF k (Int.mul a b)))
noncomputable def arEql : ArFn := fun _ a b => some (.bool (eqF a b))
noncomputable def arNeq : ArFn := fun _ a b => some (.bool (Bool.rec true false (eqF a b)))
noncomputable def arLss : ArFn := fun _ a b => some (.bool (ltF a b))
noncomputable def arLeq : ArFn := fun _ a b => some (.bool (leF a b))
noncomputable def arGtr : ArFn := fun _ a b => some (.bool (ltF b a))
noncomputable def arGeq : ArFn := fun _ a b => some (.bool (leF b a))
noncomputable def arithF (op : BinOp) : ArFn :=
  BinOp.rec (motive := fun _ => ArFn) arAdd arSub arMul (arithV .quo) (arithV .rem) (bitF Nat.land .and) (bitF Nat.lor .or) (bitF Nat.xor .xor) (arithV .shl) shrF (arithV .andNot) arEql arNeq arLss arLeq arGtr arGeq op
noncomputable def binX (E : Env) (op : BinOp) (t : TypeId) (a b : Operand) (x y : Value) : Option Value :=
  match x with
  | .int k m => match y with
    | .int k' n => Bool.rec (binV E op t (isConstO a || isConstO b) x y) (arithF op k m n) (Nat.beq (kIx k) (kIx k'))
    | _ => binV E op t (isConstO a || isConstO b) x y
  | _ => binV E op t (isConstO a || isConstO b) x y
noncomputable def fieldAt (E : Env) (s : TypeId) (f : Nat) : Option Nat := do
  let i ← E.ty s
  match i.under with
  | .struct fs => do
    let f ← fs[f]?
    let e ← E.ty f.type
    if e.size = 0 then none else some f.offset
  | _ => none
noncomputable def addrK (x : Value) (n : Nat) : Option Value :=
  match x with
  | .pointer (some a) => some (.pointer (some (a.add n)))
  | _ => none
noncomputable def fieldAddrF (E : Env) (s : TypeId) (x : Value) (f : Nat) : Option Value :=
  match fieldAt E s f with
  | some n => addrK x n
  | none => none
noncomputable def elemOf (E : Env) (t : TypeId) : Option Nat := do
  let i ← E.ty t
  match i.under with
  | .slice elem => (E.ty elem).map (·.size)
  | _ => none
noncomputable def indexK (a : Addr) (len : Nat) (n : Int) (sz : Nat) : Option Value :=
  Int.rec (motive := fun _ => Option Value) (fun m => Bool.rec none (Bool.rec (some (.pointer (some (a.add (Nat.mul m sz))))) none (Nat.beq sz 0)) (Nat.ble (Nat.succ m) len)) (fun _ => none) n
noncomputable def arrOf (E : Env) (t : TypeId) : Option (Nat × Nat) := do
  let i ← E.ty t
  match i.under with
  | .array len elem => (E.ty elem).map fun e => (len, e.size)
  | _ => none
noncomputable def arrK (len sz : Nat) (x ix : Value) : Option Value :=
  match x with
  | .pointer (some a) => match ix with
    | .int _ n => indexK a len n sz
    | _ => none
  | _ => none
noncomputable def indexAddrF (E : Env) (t : TypeId) (x ix : Value) : Option Value :=
  match elemOf E t with
  | some sz =>
    match x, ix with
    | .slice (some a) len _, .int _ n => indexK a len n sz
    | _, _ => none
  | none => match arrOf E t with
    | some (len, sz) => arrK len sz x ix
    | none => indexAddrV E t x ix
noncomputable def loadK (E : Env) (t : TypeId) : Option (Nat × Bool) := (E.ty t).map fun i => (i.size, i.agg)
def hop {α : Type} (x : α) : α := x
noncomputable def dropR (i : Nat) : List Value → List Value :=
  Nat.rec (fun l => l) (fun _ ih l => hop (List.rec [] (fun _ r _ => ih r) l)) i
noncomputable def nthR (i : Nat) : List Value → Option Value :=
  Nat.rec (fun l => List.rec none (fun v _ _ => some v) l) (fun _ ih l => hop (List.rec none (fun _ r _ => ih r) l)) i
noncomputable def setR (x : Value) (i : Nat) : List Value → List Value :=
  Nat.rec (fun l => List.rec [] (fun _ r _ => x :: r) l) (fun _ ih l => List.rec [] (fun v r _ => v :: ih r) l) i
noncomputable def getR (n : Nat) (t : Trie Blk) : Option Blk :=
  (Nat.rec (fun _ t => Trie.rec none (fun _ v _ _ _ => v) t)
    (fun _ ih n t => Trie.rec none (fun l v r _ _ => Bool.rec (Bool.rec (ih (Nat.div n 2) l) (ih (Nat.div n 2) r) (Nat.beq (Nat.mod n 2) 1)) v (Nat.beq n 0)) t) n : Nat → Trie Blk → Option Blk) n t
noncomputable def putR (x : Option Blk) (n : Nat) (t : Trie Blk) : Trie Blk :=
  (Nat.rec (fun _ t => Trie.rec (.node .leaf x .leaf) (fun l _ r _ _ => .node l x r) t)
    (fun _ ih n t => Bool.rec
      (Trie.rec (Bool.rec (.node (ih (Nat.div n 2) .leaf) none .leaf) (.node .leaf none (ih (Nat.div n 2) .leaf)) (Nat.beq (Nat.mod n 2) 1))
        (fun l v r _ _ => Bool.rec (.node (ih (Nat.div n 2) l) v r) (.node l v (ih (Nat.div n 2) r)) (Nat.beq (Nat.mod n 2) 1)) t)
      (Trie.rec (.node .leaf x .leaf) (fun l _ r _ _ => .node l x r) t) (Nat.beq n 0)) n : Nat → Trie Blk → Trie Blk) n t
noncomputable def leR (n : Nat) : List Value → Bool := Nat.rec (fun _ => true) (fun _ ih l => hop (List.rec false (fun _ r _ => ih r) l)) n
noncomputable def takeR (n : Nat) : List Value → List Value := Nat.rec (fun _ => []) (fun _ ih l => List.rec [] (fun v r _ => v :: ih r) l) n
noncomputable def appR (l m : List Value) : List Value := List.rec m (fun v _ ih => v :: ih) l
noncomputable def allR (l : List Value) : Bool := List.rec true (fun v _ ih => hop (Bool.rec false ih (oneCell v))) l
noncomputable def dropL (l : List Value) : List Value → List Value := List.rec (fun cs => cs) (fun _ _ ih cs => hop (List.rec [] (fun _ r _ => ih r) cs)) l
noncomputable def overR (l : List Value) (i : Nat) : List Value → List Value := Nat.rec (fun cs => appR l (dropL l cs)) (fun _ ih cs => List.rec l (fun v r _ => v :: ih r) cs) i
noncomputable def rdG (h : Heap) (a : Addr) (n : Nat) : Option (List Value) :=
  match a.spot with
  | none => match getR a.block h.tr with
    | some (.cells cs _ _) => Bool.rec none (some (takeR n (dropR a.off cs))) (leR (a.off + n) cs)
    | _ => none
  | _ => none
noncomputable def wrG (h : Heap) (a : Addr) (l : List Value) : Option Heap :=
  match a.spot with
  | none => match getR a.block h.tr with
    | some (.cells cs true o) => Bool.rec none (some { next := h.next, tr := putR (some (.cells (overR l a.off cs) true o)) a.block h.tr }) (leR (a.off + l.length) cs)
    | _ => none
  | _ => none
noncomputable def loadBig (E : Env) (t : TypeId) (p : Value) (h : Heap) : Option Value := do
  let i ← E.ty t
  let a ← ptrOf p
  let l ← rdG h a i.size
  if i.agg then some (aggOf l) else if i.size = 1 then ofCells false l else none
noncomputable def storeBig (E : Env) (t : TypeId) (p v : Value) (h : Heap) : Option Heap := do
  let i ← E.ty t
  let a ← ptrOf p
  let l := cellsOf v
  if l.length = i.size ∧ l.all oneCell then wrG h a l else none
noncomputable def srcF (size : Nat) (x : Value) (h : Heap) : Option (Nat × List Value) :=
  match x with
  | .slice none _ _ => some (0, [])
  | .slice (some a) n _ => if n = 0 then some (0, []) else (rdG h a (n * size)).map fun l => (n, l)
  | .string s => some (s.size, (strL s).map byteV)
  | _ => none
noncomputable def lenOkF (okx : Bool) (x : Value) (new : List Value) (k : Nat) : Bool :=
  match x with
  | .slice (some _) n _ => Bool.rec (new.length == k) (Bool.rec true (new.length == k) (Nat.beq n 0)) okx
  | _ => new.length == k
noncomputable def srcAF (okx : Bool) (e : Ty) (x : Value) (h : Heap) : Option (Nat × List Value) := if okx then srcF e.size x h else zsrcV e x
noncomputable def appendF (E : Env) (t : TypeId) (xt : Option TypeId) (s x : Value) (h : Heap) : Option (Value × Heap) := do
  let i ← E.ty t
  match i.under, s with
  | .slice elem, .slice base len cap => do
    let e ← E.ty elem
    let okx ← okSrc E xt
    let (n, new) ← srcAF okx e x h
    if e.size = 0 || !lenOkF okx x new (n * e.size) || !allR new then none else
    if len + n ≤ cap then
      if n = 0 then some (s, h) else
      match base with
      | some a => do
        let h' ← wrG h (a.add (len * e.size)) new
        some (.slice base (len + n) cap, h')
      | none => none
    else if (len + n) * e.bytes > 2 ^ 36 ∨ len + n > 2 ^ 36 ∨ (e.zero.map fun z => (cellsOf z).length) ≠ some e.size then none else
    match base with
    | none => if len = 0 then some (.slice (some ⟨h.next, 0, none⟩) n n, { next := h.next + 1, tr := putR (some (.cells new true (some (e.size, elem)))) h.next h.tr }) else none
    | some a =>
      match a.spot, getR a.block h.tr with
      | none, some (.cells cs wr o) =>
        if leR (a.off + len * e.size) cs then
          let h' : Heap := { next := h.next + 1, tr := putR (some (.cells (appR (takeR (len * e.size) (dropR a.off cs)) new) true (some (e.size, elem)))) h.next h.tr }
          match o with
          | none => some (.slice (some ⟨h.next, 0, none⟩) (len + n) (len + n), h')
          | some z => if z = (e.size, elem) ∧ wr then some (.slice (some ⟨h.next, 0, none⟩) (len + n) (len + n), { next := h'.next, tr := putR none a.block h'.tr }) else none
        else none
      | _, _ => none
  | _, _ => none
noncomputable def cellF (h : Heap) (a : Addr) : Option Value :=
  match a.spot with
  | none => match getR a.block h.tr with
    | some (.cells cs _ _) => nthR a.off cs
    | _ => none
  | _ => none
noncomputable def loadF (E : Env) (t : TypeId) (p : Value) (h : Heap) : Option Value :=
  match loadK E t with
  | some (1, false) => match p with
    | .pointer (some a) => match cellF h a with
      | some v => if oneCell v then some v else loadV E t p h
      | none => none
    | _ => none
  | _ => loadBig E t p h
noncomputable def storeCell (h : Heap) (a : Addr) (v : Value) : Option Heap :=
  match a.spot with
  | none => match getR a.block h.tr with
    | some (.cells cs true o) => match nthR a.off cs with
      | some _ => some { next := h.next, tr := putR (some (.cells (setR v a.off cs) true o)) a.block h.tr }
      | none => none
    | _ => none
  | _ => none
noncomputable def storeF (E : Env) (t : TypeId) (p v : Value) (h : Heap) : Option Heap :=
  match loadK E t with
  | some (1, _) => if oneCell v then match p with
      | .pointer (some a) => storeCell h a v
      | _ => none
    else storeBig E t p v h
  | _ => storeBig E t p v h
noncomputable def newF (h : Heap) (b : Blk) : Heap := { next := h.next + 1, tr := putR (some b) h.next h.tr }
noncomputable def allocK (E : Env) (t : TypeId) : Option (List Value × Option (Nat × Nat)) := (E.ty t).bind fun i => i.zero.map fun z => (cellsOf z, tagOf i.tag t)
noncomputable def ifaceK (E : Env) (t : TypeId) : Option Unit := (E.ty t).bind fun i => if isIface i.under then none else some ()
abbrev StepFn := Env → CallV → (Operand → Value) → Heap → SOp → Option (Value × Heap)
noncomputable def fGen : StepFn := fun E call ev h x => stepE E call ev h x.o
noncomputable def fMove (a : Operand) : StepFn := fun _ _ ev h _ => some (ev a, h)
noncomputable def pickF (c a b : Value) : Option Value := match c with
  | .bool t => some (Bool.rec b a t)
  | _ => none
noncomputable def fPick (c a b : Operand) : StepFn := fun _ _ ev h _ => atH h (pickF (ev c) (ev a) (ev b))
noncomputable def fBin (op : BinOp) (t : TypeId) (a b : Operand) (_ : TypeId) : StepFn := fun E _ ev h _ => atH h (binX E op t a b (ev a) (ev b))
noncomputable def fUn (op : UnOp) (_ : TypeId) (a : Operand) : StepFn := fun _ _ ev h _ => atH h (unV op (ev a))
noncomputable def fBuild (t : TypeId) (ps : Array (Nat × Operand)) : StepFn := fun E _ ev h _ => atH h (buildV E t (partsV ev ps))
noncomputable def fFieldAddr (s : TypeId) (a : Operand) (f : Nat) : StepFn := fun E _ ev h _ => atH h (fieldAddrF E s (ev a) f)
noncomputable def fField (s : TypeId) (a : Operand) (f : Nat) : StepFn := fun E _ ev h _ => atH h (fieldV E s (ev a) f)
noncomputable def fIndexAddr (s : TypeId) (a i : Operand) : StepFn := fun E _ ev h _ => atH h (indexAddrF E s (ev a) (ev i))
noncomputable def fIndex (s : TypeId) (a i : Operand) : StepFn := fun E _ ev h _ => atH h (indexV E s (ev a) (ev i))
noncomputable def fExtract (a : Operand) (i : Nat) : StepFn := fun _ _ ev h _ => atH h (extrK (ev a) i)
noncomputable def fLoad (t : TypeId) (a : Operand) : StepFn := fun E _ ev h _ => atH h (loadF E t (ev a) h)
noncomputable def fStore (t : TypeId) (a b : Operand) : StepFn := fun E _ ev h _ => heapK undef (storeF E t (ev a) (ev b) h)
noncomputable def fBox (_ : TypeId) (a : Operand) : StepFn := fun _ _ ev h _ => some (Mk.ptr.val h.next, newF h (.cells (cellsOf (ev a)) true none))
noncomputable def callW (r : Option (List Value → Heap → Option (Value × Heap))) (call : CallV) (g : FuncId) (args : List Value) (h : Heap) : Option (Value × Heap) :=
  match r with
  | some r => r args h
  | none => call g args h
noncomputable def callU (v : Value) (E : Env) (call : CallV) (ev : Operand → Value) (h : Heap) (x : SOp) (args : Array Operand) : Option (Value × Heap) :=
  match v with
  | .func (.func g) first captured => callW (E.row g) call g (first.toList ++ (args.toList.map ev ++ captured.toList)) h
  | _ => stepE E call ev h x.o
noncomputable def fNew : StepFn := fun E _ ev h x => newK h (newV E ev x.o)
noncomputable def fAlloc (t : TypeId) : StepFn := fun E _ _ h _ => match allocK E t with
  | some p => some (Mk.ptr.val h.next, newF h (.cells p.1 true p.2))
  | none => none
noncomputable def fPure : StepFn := fun E _ ev h x => atH h (pureV E ev x.o)
noncomputable def fIface (t : TypeId) (a : Operand) : StepFn := fun E _ ev h _ => match ifaceK E t with
  | some _ => some (.iface t (ev a), h)
  | none => none
noncomputable def fSlice (t : TypeId) (a : Operand) (lo hi mx : Option Operand) : StepFn := fun E _ ev h _ =>
  orK (atH h (sliceV E t (ev a) (lo.map ev) (hi.map ev) (mx.map ev))) (atH h (sliceS E t (ev a) (lo.map ev) (hi.map ev) (mx.map ev) h))
noncomputable def fLookup (t : TypeId) (a i : Operand) (ok : Bool) : StepFn := fun E _ ev h _ => atH h (lookupV E t (ev a) (ev i) ok h)
noncomputable def fHeavy : StepFn := fun E call ev h x => heavyV E call ev h x.o
noncomputable def convK (E : Env) (s d : TypeId) : Option IntKind :=
  if s = d then none else do
  let i ← E.ty s
  let j ← E.ty d
  match i.under, j.under with
  | .int _, .int k => some k
  | _, _ => none
noncomputable def convX (k : IntKind) (x : Value) : Option Value := match x with
  | .int _ n => some (.int k (wrF k n))
  | _ => none
noncomputable def fConv (s d : TypeId) (a : Operand) : StepFn := fun E call ev h x => match convK E s d with
  | some k => atH h (convX k (ev a))
  | none => stepE E call ev h x.o
noncomputable def fValue (f : Operand) : Call → StepFn := fun c E call ev h x => callU (ev f) E call ev h x c.args
noncomputable def lenK (v : Value) : Option Value := match v with
  | .slice _ n _ => some (.int .i64 n)
  | _ => none
noncomputable def fLen : Call → StepFn := fun c E call ev h x => match c.args.toList, c.argTypes.toList with
  | a :: _, t :: _ => match elemOf E t with
    | some _ => atH h (lenK (ev a))
    | none => stepE E call ev h x.o
  | _, _ => stepE E call ev h x.o
noncomputable def fAppend : Call → StepFn := fun c E call ev h x => match c.args.toList, c.argTypes.toList with
  | [s, a], [t, u] => appendF E t (some u) (ev s) (ev a) h
  | _, _ => stepE E call ev h x.o
noncomputable def fGenC : Call → StepFn := fun _ => fGen
noncomputable def builtinTab (b : Builtin) : Call → StepFn := match b with
  | .len => fLen
  | .append => fAppend
  | _ => fGenC
noncomputable def fCall (c : Call) : StepFn := Callee.rec (motive := fun _ => Call → StepFn) fValue (fun _ _ _ => fGen) builtinTab c.callee c
noncomputable def opTab (o : Op) : StepFn :=
  Op.rec (motive := fun _ => StepFn) fMove fMove fPick fAlloc fBox fBuild (fun _ _ _ => fNew) (fun _ _ _ _ => fHeavy) fLoad fStore (fun _ => fGen) (fun _ => fGen) (fun _ => fPure) fBin fUn
    fConv (fun _ _ => fGen) fIface (fun _ _ _ => fPure) (fun _ _ => fNew) (fun _ _ => fGen) (fun _ _ _ => fNew) fSlice fFieldAddr fField fIndexAddr fIndex
    fLookup (fun _ _ _ _ => fHeavy) (fun _ _ _ => fHeavy) (fun _ _ _ _ => fHeavy) (fun _ _ => fHeavy) (fun _ _ => fHeavy) (fun _ => fGen) (fun _ _ _ _ => fPure) fExtract fCall
    (fun _ => fGen) (fun _ => fGen) (fun _ => fGen) (fun _ _ => fGen) (fun _ _ _ => fGen) (fun _ _ => fGen) o
noncomputable def stepF (E : Env) (call : CallV) (ev : Operand → Value) (h : Heap) (x : SOp) : Option (Value × Heap) := opTab x.op E call ev h x
noncomputable def wantF (d : Nat) (t : BT) (g : Option (Option Tmp × Bool)) : Bool :=
  match g with
  | none => true
  | some (some i, want) => match BT.getp (pathOf d i) t with
    | .bool b => b == want
    | _ => false
  | some (none, _) => false
noncomputable def opsK (rest : BT → Heap → Option (BT × Heap)) (d : Nat) (o : Option Tmp) (t : BT) (x : Option (Value × Heap)) : Option (BT × Heap) :=
  match x with
  | some (v, h) => rest (putF d o v t) h
  | none => none
noncomputable def opsF (E : Env) (call : CallV) (d : Nat) (l : List SOp) : BT → Heap → Option (BT × Heap) :=
  List.rec (fun t h => some (t, h)) (fun x _ ih t h => Bool.rec (ih (putF d x.d undef t) h) (opsK ih d x.d t (stepF E call (evF d t) h x)) (wantF d t x.g)) l
structure FSeen where
  at_ : Nat
  op : SOp
  t : BT
  v : Value
noncomputable def maybeRead (x : SOp) : Option Bool :=
  match x.op with
  | .load .. | .lookup .. => some true
  | .convert .. | .slice .. | .call .. => none
  | _ => some false
noncomputable def readsF (E : Env) (ev : Operand → Value) (h : Heap) (x : SOp) : Bool :=
  match maybeRead x with
  | some b => b
  | none => (pureV E ev x.o).isNone && (readV E ev h x.o).isSome
noncomputable def drawK (rest : BT → Heap → List FSeen → Option (BT × Heap × List Heap × List FSeen)) (d : Nat) (o : Option Tmp) (t : BT) (x : Option (Value × Heap)) (rs : Value → List FSeen) : Option (BT × Heap × List Heap × List FSeen) :=
  match x with
  | some (v, h) => rest (putF d o v t) h (rs v)
  | none => none
noncomputable def drawF (E : Env) (call : CallV) (d : Nat) (l : List SOp) : Nat → BT → Heap → List Heap → List FSeen → Option (BT × Heap × List Heap × List FSeen) :=
  List.rec (fun _ t h hs rs => some (t, h, hs ++ [h], rs))
    (fun x _ ih j t h hs rs => Bool.rec
      (ih (j + 1) (putF d x.d undef t) h (Bool.rec hs (hs ++ [h]) (heavyOp x.o)) rs)
      (drawK (fun t' h' rs' => ih (j + 1) t' h' (Bool.rec hs (hs ++ [h]) (heavyOp x.o)) rs') d x.d t (stepF E call (evF d t) h x)
        (fun v => Bool.rec (Bool.rec rs (⟨j, x, t, v⟩ :: rs) (readsF E (evF d t) h x)) rs (heavyOp x.o)))
      (wantF d t x.g)) l
noncomputable def sameAt (E : Env) (ev : Operand → Value) (x : SOp) (v : Value) (h : Option Heap) : Bool :=
  match h with
  | some h => match readV E ev h x.o with
    | some u => veq 100000 u v
    | none => false
  | none => false
noncomputable def seenF (E : Env) (d : Nat) (p : Plan) (hs : List Heap) (x : FSeen) : Bool :=
  (List.range (p.hi.getD x.at_ 0 + 1 - p.lo.getD x.at_ 0)).all fun k => sameAt E (evF d x.t) x.op x.v hs[p.lo.getD x.at_ 0 + k]?
noncomputable def regK (E : Env) (d : Nat) (p : Plan) (x : Option (BT × Heap × List Heap × List FSeen)) : Option (Ex × BT × Heap) :=
  match x with
  | some (t, h, hs, rs) => Bool.rec none (some (.normal, t, h)) (rs.all (seenF E d p hs))
  | none => none
noncomputable def regF (E : Env) (call : CallV) (d : Nat) (pl : Option Plan) (ops : List SOp) (t : BT) (h : Heap) : Option (Ex × BT × Heap) :=
  match pl with
  | some p => regK E d p (drawF E call d ops 0 t h [] [])
  | none => none
noncomputable def endF (x : Option (BT × Heap)) : Option (Ex × BT × Heap) :=
  match x with
  | some (t, h) => some (.normal, t, h)
  | none => none
noncomputable def seqF (b : BT → Heap → Option (Ex × BT × Heap)) (x : Option (Ex × BT × Heap)) : Option (Ex × BT × Heap) :=
  match x with
  | some (.normal, t, h) => b t h
  | r => r
noncomputable def condF (a b : BT → Heap → Option (Ex × BT × Heap)) (t : BT) (h : Heap) (v : Value) : Option (Ex × BT × Heap) :=
  match v with
  | .bool c => Bool.rec (b t h) (a t h) c
  | _ => none
noncomputable def blockF (id : Nat) (x : Option (Ex × BT × Heap)) : Option (Ex × BT × Heap) :=
  match x with
  | some (.exit i, t, h) => if i = id then some (.normal, t, h) else some (.exit i, t, h)
  | r => r
noncomputable def iterF (f : BT → Heap → Option (Ex × BT × Heap)) (n : Nat) : BT → Heap → Option (Ex × BT × Heap) :=
  Nat.rec (fun _ _ => none) (fun _ ih t h => seqF ih (f t h)) n
noncomputable def rangeE (l : Nat) (t : BT) (x : Option (Value × Heap)) : Option (Ex × BT × Heap) :=
  match x with
  | some (_, h) => match getR l h.tr with
    | some (.loop r) => if r.st == .busy then none else match exOf r.pending with
      | some x => some (x, t, { next := h.next, tr := putR (some (.loop { r with st := .exhausted })) l h.tr })
      | none => none
    | _ => none
  | none => none
noncomputable def rangeF (call : CallV) (d n : Nat) (pl : Nat → Option Plan) (ps : Array Tmp) (a b : Code) (t : BT) (h : Heap) (v : Value) : Option (Ex × BT × Heap) :=
  match v with
  | .func (.func f) first captured =>
    rangeE h.next t (call f (first.toList ++ [.func (.yield h.next) #[] #[]] ++ captured.toList) (newF h (.loop { st := .ready, pending := none, tmps := BT.toL d n t, params := ps, assign := a, body := b, plan := pl })))
  | _ => none
noncomputable def codeF (E : Env) (call : CallV) (pl : Nat → Option Plan) (fuel d n : Nat) (c : Code) : BT → Heap → Option (Ex × BT × Heap) :=
  Code.rec (motive := fun _ => BT → Heap → Option (Ex × BT × Heap))
    (skip := fun t h => some (.normal, t, h))
    (region := fun id ops draw t h => Bool.rec (endF (opsF E call d (ops.toList.map (slim ops)) t h)) (regF E call d (pl id) (ops.toList.map (slim ops)) t h) draw)
    (seq := fun _ _ a b t h => seqF b (a t h))
    (cond := fun c _ _ a b t h => condF a b t h (evF d t c))
    (block := fun id _ b t h => blockF id (b t h))
    (loop := fun _ b t h => iterF b fuel t h)
    (exit := fun id t h => some (.exit id, t, h))
    (ret := fun t h => some (.ret, t, h))
    (rangeFunc := fun g ps a b _ _ t h => Bool.rec none (rangeF call d n pl ps a b t h (evF d t g)) (flat a && flat b))
    (scope := fun _ _ _ _ => none) (label := fun _ _ _ => none) (goto := fun _ _ _ => none) (refuse := fun _ _ _ => none) c
noncomputable def operOk (n : Nat) (x : Operand) : Bool :=
  match x with
  | .tmp i => decide (i < n)
  | .const v => plainB 100 v
  | .global _ => false
  | .func _ => true
noncomputable def sopOk (n : Nat) (x : SOp) : Bool :=
  x.op.operands.toList.all (operOk n) && (match x.d with | some i => decide (i < n) | none => true) && (match x.g with | some (some i, _) => decide (i < n) | _ => true)
noncomputable def codeChk (n : Nat) : Code → Bool
  | .region _ ops _ => (ops.toList.map (slim ops)).all (sopOk n)
  | .seq a b => codeChk n a && codeChk n b
  | .cond c a b => operOk n c && codeChk n a && codeChk n b
  | .block _ b => codeChk n b
  | .loop b => codeChk n b
  | .rangeFunc g _ a b => operOk n g && codeChk n a && codeChk n b
  | _ => true
noncomputable def resF1 (E : Env) (d n : Nat) (t : BT) (h : Heap) (l : List ResultVar) : Option (List Value) :=
  List.rec (some []) (fun r _ ih => match r with
    | .tmp i => if i < n then match ih with | some l => some (BT.get d i t :: l) | none => none else none
    | .cell a ty => if a < n then match loadF E ty (BT.get d a t) h, ih with | some v, some l => some (v :: l) | _, _ => none else none) l
noncomputable def retF (E : Env) (d n : Nat) (rs : List ResultVar) (x : Option (Ex × BT × Heap)) : Option (Value × Heap) :=
  match x with
  | some (e, t, h) => match e with
    | .exit _ => none
    | _ => match resF1 E d n t h rs with
      | some l => some (oneOrTuple l, h)
      | none => none
  | none => none
noncomputable def fnChk (fn : Fun) : Bool := codeChk fn.fn.ntmps fn.body
noncomputable def fnF (E : Env) (call : CallV) (fuel : Nat) (fn : Fun) (args : List Value) (h : Heap) : Option (Value × Heap) :=
  Bool.rec none (if args.length ≤ fn.fn.ntmps then
    retF E (depthOf fn.fn.ntmps) fn.fn.ntmps fn.fn.results.toList (codeF E call fn.plan fuel (depthOf fn.fn.ntmps) fn.fn.ntmps fn.body (BT.ofL (depthOf fn.fn.ntmps) args) h) else none) (fnChk fn)
noncomputable def yldF (E : Env) (call : CallV) (fuel : Nat) (l : Nat) (args : List Value) (h : Heap) : Option (Value × Heap) :=
  match getR l h.tr with
  | some (.loop r) =>
    if args.length ≠ r.params.size then none else
    Bool.rec none (
    match codeF E call r.plan fuel (depthOf r.tmps.length) r.tmps.length r.assign (BT.ofL (depthOf r.tmps.length) (setAll (r.params.toList.zip args) r.tmps)) h with
    | some (.normal, t1, h1) =>
      match getR l h1.tr with
      | some (.loop r1) =>
        if r1.st == .ready then
          match codeF E call r.plan fuel (depthOf r.tmps.length) r.tmps.length r.body t1 { next := h1.next, tr := putR (some (.loop { r1 with st := .busy })) l h1.tr } with
          | some (x, _, h3) =>
            match getR l h3.tr with
            | some (.loop r3) => some (.bool (jumpOf x).isNone, { next := h3.next, tr := putR (some (.loop { r3 with st := if (jumpOf x).isNone then .ready else .done, pending := jumpOf x })) l h3.tr })
            | _ => none
          | none => none
        else none
      | _ => none
    | _ => none) (codeChk r.tmps.length r.assign && codeChk r.tmps.length r.body)
  | _ => none
noncomputable def callF (E : Env) (n : Nat) : CallV :=
  Nat.rec { fn := fun _ _ _ => none, yld := fun _ _ _ => none }
    (fun n ih => { fn := fun f args h => match E.ext f with
                     | some g => g args h
                     | none => match E.fn f with
                       | some fn => fnF E ih n fn args h
                       | none => none
                   yld := yldF E ih n }) n
end Go.Vi
namespace Go.Vi
theorem bt_leaf (d i : Nat) : BT.get d i .leaf = undef := by cases d <;> rfl
theorem bt_get_node (d i : Nat) (l r : BT) : BT.get (d + 1) i (.node l r) = if i % 2 = 1 then BT.get d (i / 2) r else BT.get d (i / 2) l := by
  show Bool.rec (motive := fun _ => Value) (BT.get d (i / 2) l) (BT.get d (i / 2) r) (Nat.beq (i % 2) 1) = _
  by_cases h : i % 2 = 1
  · rw [if_pos h, h]; rfl
  · rw [if_neg h]
    have : Nat.beq (i % 2) 1 = false := by
      cases hb : Nat.beq (i % 2) 1 with
      | false => rfl
      | true => exact absurd (Nat.eq_of_beq_eq_true hb) h
    rw [this]
def BT.lft : BT → BT
  | .node l _ => l
  | _ => .leaf
def BT.rgt : BT → BT
  | .node _ r => r
  | _ => .leaf
theorem bt_put (d i : Nat) (v : Value) (t : BT) : BT.put v (d + 1) i t = if i % 2 = 1 then .node t.lft (BT.put v d (i / 2) t.rgt) else .node (BT.put v d (i / 2) t.lft) t.rgt := by
  have hb : i % 2 = 1 ∧ Nat.beq (i % 2) 1 = true ∨ i % 2 ≠ 1 ∧ Nat.beq (i % 2) 1 = false := by
    cases hb : Nat.beq (i % 2) 1 with
    | false => exact .inr ⟨(fun h => by rw [h] at hb; cases hb), rfl⟩
    | true => exact .inl ⟨Nat.eq_of_beq_eq_true hb, rfl⟩
  rcases hb with ⟨h, hb⟩ | ⟨h, hb⟩
  · rw [if_pos h]
    cases t with
    | leaf => show Bool.rec (motive := fun _ => BT) _ _ (Nat.beq (i % 2) 1) = _; rw [hb]; rfl
    | one w => show Bool.rec (motive := fun _ => BT) _ _ (Nat.beq (i % 2) 1) = _; rw [hb]; rfl
    | node l r => show Bool.rec (motive := fun _ => BT) _ _ (Nat.beq (i % 2) 1) = _; rw [hb]; rfl
  · rw [if_neg h]
    cases t with
    | leaf => show Bool.rec (motive := fun _ => BT) _ _ (Nat.beq (i % 2) 1) = _; rw [hb]; rfl
    | one w => show Bool.rec (motive := fun _ => BT) _ _ (Nat.beq (i % 2) 1) = _; rw [hb]; rfl
    | node l r => show Bool.rec (motive := fun _ => BT) _ _ (Nat.beq (i % 2) 1) = _; rw [hb]; rfl
theorem bt_get (d i : Nat) (t : BT) : BT.get (d + 1) i t = if i % 2 = 1 then BT.get d (i / 2) t.rgt else BT.get d (i / 2) t.lft := by
  cases t with
  | leaf => simp only [BT.lft, BT.rgt, bt_leaf, ite_self]
  | one w => simp only [BT.lft, BT.rgt, bt_leaf, ite_self]; rfl
  | node l r => exact bt_get_node d i l r
theorem bt_get_put (v : Value) : ∀ (d i j : Nat) (t : BT), i < 2 ^ d → j < 2 ^ d → BT.get d j (BT.put v d i t) = if j = i then v else BT.get d j t := by
  intro d
  induction d with
  | zero =>
    intro i j t hi hj
    have h1 : i = 0 := by simpa using hi
    have h2 : j = 0 := by simpa using hj
    subst h1; subst h2; rfl
  | succ d ih =>
    intro i j t hi hj
    have e : 2 ^ (d + 1) = 2 * 2 ^ d := by rw [Nat.pow_succ, Nat.mul_comm]
    have hi2 : i / 2 < 2 ^ d := by omega
    have hj2 : j / 2 < 2 ^ d := by omega
    rw [bt_put, bt_get d j t]
    by_cases h : i % 2 = 1
    · rw [if_pos h, bt_get_node]
      by_cases hj1 : j % 2 = 1
      · rw [if_pos hj1, if_pos hj1, ih _ _ _ hi2 hj2]
        by_cases he : j = i
        · rw [if_pos he, if_pos (by rw [he])]
        · rw [if_neg he, if_neg (by omega)]
      · rw [if_neg hj1, if_neg hj1, if_neg (by omega)]
    · rw [if_neg h, bt_get_node]
      by_cases hj1 : j % 2 = 1
      · rw [if_pos hj1, if_pos hj1, if_neg (by omega)]
      · rw [if_neg hj1, if_neg hj1, ih _ _ _ hi2 hj2]
        by_cases he : j = i
        · rw [if_pos he, if_pos (by rw [he])]
        · rw [if_neg he, if_neg (by omega)]
theorem getp_eq : ∀ (d i : Nat) (t : BT), BT.getp (pathOf d i) t = BT.get d i t := by
  intro d
  induction d with
  | zero => intro i t; rfl
  | succ d ih =>
    intro i t
    cases t with
    | leaf => rfl
    | one w => rfl
    | node l r =>
      show Bool.rec (motive := fun _ => Value) (BT.getp (pathOf d (i / 2)) l) (BT.getp (pathOf d (i / 2)) r) (Nat.beq (i % 2) 1) = Bool.rec (motive := fun _ => Value) (BT.get d (i / 2) l) (BT.get d (i / 2) r) (Nat.beq (i % 2) 1)
      rw [ih, ih]
theorem putp_eq (v : Value) : ∀ (d i : Nat) (t : BT), BT.putp v (pathOf d i) t = BT.put v d i t := by
  intro d
  induction d with
  | zero => intro i t; rfl
  | succ d ih =>
    intro i t
    cases t with
    | leaf =>
      show Bool.rec (motive := fun _ => BT) (.node (BT.putp v (pathOf d (i / 2)) .leaf) .leaf) (.node .leaf (BT.putp v (pathOf d (i / 2)) .leaf)) (Nat.beq (i % 2) 1) = Bool.rec (motive := fun _ => BT) (.node (BT.put v d (i / 2) .leaf) .leaf) (.node .leaf (BT.put v d (i / 2) .leaf)) (Nat.beq (i % 2) 1)
      rw [ih]
    | one w =>
      show Bool.rec (motive := fun _ => BT) (.node (BT.putp v (pathOf d (i / 2)) .leaf) .leaf) (.node .leaf (BT.putp v (pathOf d (i / 2)) .leaf)) (Nat.beq (i % 2) 1) = Bool.rec (motive := fun _ => BT) (.node (BT.put v d (i / 2) .leaf) .leaf) (.node .leaf (BT.put v d (i / 2) .leaf)) (Nat.beq (i % 2) 1)
      rw [ih]
    | node l r =>
      show Bool.rec (motive := fun _ => BT) (.node (BT.putp v (pathOf d (i / 2)) l) r) (.node l (BT.putp v (pathOf d (i / 2)) r)) (Nat.beq (i % 2) 1) = Bool.rec (motive := fun _ => BT) (.node (BT.put v d (i / 2) l) r) (.node l (BT.put v d (i / 2) r)) (Nat.beq (i % 2) 1)
      rw [ih, ih]
structure TB (d n : Nat) (tt : BT) (t : Tmps) : Prop where
  len : List.length t = n
  fits : n ≤ 2 ^ d
  get : ∀ i, i < n → BT.get d i tt = t.getD i undef
theorem TB.put {d n : Nat} {tt : BT} {t : Tmps} (h : TB d n tt t) {i : Nat} (hi : i < n) (v : Value) : TB d n (BT.put v d i tt) (t.set i v) := by
  have hf := h.fits
  refine ⟨by rw [List.length_set]; exact h.len, h.fits, fun j hj => ?_⟩
  rw [bt_get_put v d i j tt (by omega) (by omega)]
  have hl := h.len
  by_cases he : j = i
  · subst he
    rw [if_pos rfl, List.getD_eq_getElem?_getD, List.getElem?_set, if_pos rfl, if_pos (by omega)]
    rfl
  · rw [if_neg he, h.get j hj, List.getD_eq_getElem?_getD, List.getD_eq_getElem?_getD, List.getElem?_set, if_neg (Ne.symm he)]
theorem TB.putF {d n : Nat} {tt : BT} {t : Tmps} (h : TB d n tt t) {o : Option Tmp} (ho : (match o with | some i => decide (i < n) | none => true) = true) (v : Value) : TB d n (putF d o v tt) (putV t o v) := by
  cases o with
  | none => exact h
  | some i =>
    show TB d n (BT.putp v (pathOf d i) tt) _
    rw [putp_eq]
    exact h.put (by simpa using ho) v
theorem ofL_get (d : Nat) : ∀ (l : List Value) (k : Nat) (t : BT) (j : Nat), k + l.length ≤ 2 ^ d → j < 2 ^ d →
    BT.get d j ((List.rec (fun _ t => t) (fun v _ ih i t => ih (Nat.succ i) (BT.put v d i t)) l : Nat → BT → BT) k t) = if k ≤ j ∧ j < k + l.length then l.getD (j - k) undef else BT.get d j t := by
  intro l
  induction l with
  | nil => intro k t j _ _; rw [if_neg (by simp)]
  | cons v l ih =>
    intro k t j hk hj
    simp only [List.length_cons] at hk
    show BT.get d j ((List.rec (fun _ t => t) (fun v _ ih i t => ih (Nat.succ i) (BT.put v d i t)) l : Nat → BT → BT) (k + 1) (BT.put v d k t)) = _
    rw [ih (k + 1) _ j (by omega) hj, bt_get_put v d k j t (by omega) hj]
    simp only [List.length_cons]
    by_cases h1 : k + 1 ≤ j ∧ j < k + 1 + l.length
    · rw [if_pos h1, if_pos (by omega)]
      have : j - k = (j - (k + 1)) + 1 := by omega
      rw [this]; rfl
    · rw [if_neg h1]
      by_cases h2 : j = k
      · subst h2; rw [if_pos rfl, if_pos (by omega), Nat.sub_self]; rfl
      · rw [if_neg h2, if_neg (by omega)]
theorem TB.ofL {d n : Nat} {l : List Value} (hn : n ≤ 2 ^ d) (hl : l.length ≤ n) : TB d n (BT.ofL d l) (l ++ List.replicate (n - l.length) undef) := by
  refine ⟨by simp; omega, hn, fun i hi => ?_⟩
  unfold BT.ofL
  rw [ofL_get d l 0 .leaf i (by omega) (by omega)]
  rw [List.getD_eq_getElem?_getD (l := l ++ _)]
  by_cases h : i < l.length
  · rw [if_pos (by omega), List.getElem?_append_left h, Nat.sub_zero, List.getD_eq_getElem?_getD]
  · rw [if_neg (by omega), bt_leaf, List.getElem?_append_right (by omega), List.getElem?_replicate]
    split <;> rfl
theorem toL_eq {d n : Nat} {tt : BT} {t : Tmps} (h : TB d n tt t) : BT.toL d n tt = t := by
  have key : ∀ (m k : Nat), k + m = n → (Nat.rec (fun _ => []) (fun _ ih i => BT.get d i tt :: ih (Nat.succ i)) m : Nat → List Value) k = t.drop k := by
    intro m
    induction m with
    | zero => intro k hk; show [] = _; rw [List.drop_eq_nil_of_le (by rw [h.len]; omega)]
    | succ m ih =>
      intro k hk
      show BT.get d k tt :: (Nat.rec (fun _ => []) (fun _ ih i => BT.get d i tt :: ih (Nat.succ i)) m : Nat → List Value) (k + 1) = _
      rw [ih (k + 1) (by omega), h.get k (by omega)]
      have hlt : k < List.length t := by rw [h.len]; omega
      rw [List.drop_eq_getElem_cons hlt, List.getD_eq_getElem?_getD, List.getElem?_eq_getElem hlt]
      rfl
  unfold BT.toL
  rw [key n 0 (by omega)]; rfl
theorem depth_fits (n : Nat) : n ≤ 2 ^ depthOf n := by
  unfold depthOf
  exact Nat.le_of_lt Nat.lt_log2_self
theorem TB.ev {d n : Nat} {tt : BT} {t : Tmps} (h : TB d n tt t) {x : Operand} (hx : operOk n x = true) : evF d tt x = evV t x := by
  cases x with
  | tmp i => exact (getp_eq d i tt).trans (h.get i (by simpa [operOk] using hx))
  | const v =>
    have hp : plainB 100 v = true := hx
    show v = if plainB 100 v then v else undef
    rw [if_pos hp]
  | global g => cases hx
  | func f => rfl
theorem kIx_inj {k k' : IntKind} (h : Nat.beq (kIx k) (kIx k') = true) : k = k' := by
  cases k <;> cases k' <;> first | rfl | exact absurd h (by decide)
theorem wrap_i8 (n : Int) : IntKind.i8.wrap n = if n % 256 ≥ 128 then n % 256 - 256 else n % 256 := by simp [IntKind.wrap, IntKind.bits, IntKind.signed]
theorem wrap_i16 (n : Int) : IntKind.i16.wrap n = if n % 65536 ≥ 32768 then n % 65536 - 65536 else n % 65536 := by simp [IntKind.wrap, IntKind.bits, IntKind.signed]
theorem wrap_i32 (n : Int) : IntKind.i32.wrap n = if n % 4294967296 ≥ 2147483648 then n % 4294967296 - 4294967296 else n % 4294967296 := by simp [IntKind.wrap, IntKind.bits, IntKind.signed]
theorem wrap_i64 (n : Int) : IntKind.i64.wrap n = if n % 18446744073709551616 ≥ 9223372036854775808 then n % 18446744073709551616 - 18446744073709551616 else n % 18446744073709551616 := by simp [IntKind.wrap, IntKind.bits, IntKind.signed]
theorem wrap_u8 (n : Int) : IntKind.u8.wrap n = n % 256 := by simp [IntKind.wrap, IntKind.bits, IntKind.signed]
theorem wrap_u16 (n : Int) : IntKind.u16.wrap n = n % 65536 := by simp [IntKind.wrap, IntKind.bits, IntKind.signed]
theorem wrap_u32 (n : Int) : IntKind.u32.wrap n = n % 4294967296 := by simp [IntKind.wrap, IntKind.bits, IntKind.signed]
theorem wrap_u64 (n : Int) : IntKind.u64.wrap n = n % 18446744073709551616 := by simp [IntKind.wrap, IntKind.bits, IntKind.signed]
theorem wrap_pos (k : IntKind) (m : Nat) (h : m ≤ kMax k) : k.wrap (.ofNat m) = .ofNat m := by
  have e : (Int.ofNat m) = (m : Int) := rfl
  rw [e]
  cases k
  · have h' : m ≤ 127 := h; rw [wrap_i8]; omega
  · have h' : m ≤ 32767 := h; rw [wrap_i16]; omega
  · have h' : m ≤ 2147483647 := h; rw [wrap_i32]; omega
  · have h' : m ≤ 9223372036854775807 := h; rw [wrap_i64]; omega
  · have h' : m ≤ 255 := h; rw [wrap_u8]; omega
  · have h' : m ≤ 65535 := h; rw [wrap_u16]; omega
  · have h' : m ≤ 4294967295 := h; rw [wrap_u32]; omega
  · have h' : m ≤ 18446744073709551615 := h; rw [wrap_u64]; omega
theorem wrap_neg (k : IntKind) (hs : k = .i8 ∨ k = .i16 ∨ k = .i32 ∨ k = .i64) (m : Nat) (h : m ≤ kMax k) : k.wrap (.negSucc m) = .negSucc m := by
  have e : (Int.negSucc m) = -((m : Int) + 1) := Int.negSucc_eq m
  rw [e]
  rcases hs with rfl | rfl | rfl | rfl
  · have h' : m ≤ 127 := h; rw [wrap_i8]; omega
  · have h' : m ≤ 32767 := h; rw [wrap_i16]; omega
  · have h' : m ≤ 2147483647 := h; rw [wrap_i32]; omega
  · have h' : m ≤ 9223372036854775807 := h; rw [wrap_i64]; omega
theorem wrS_eq (k : IntKind) (hs : k = .i8 ∨ k = .i16 ∨ k = .i32 ∨ k = .i64) (x : Int) : wrS k x = k.wrap x := by
  cases x with
  | ofNat m =>
    show Bool.rec (motive := fun _ => Int) (k.wrap (.ofNat m)) (.ofNat m) (Nat.ble m (kMax k)) = _
    cases hb : Nat.ble m (kMax k) with
    | false => rfl
    | true => exact (wrap_pos k m (Nat.le_of_ble_eq_true hb)).symm
  | negSucc m =>
    show Bool.rec (motive := fun _ => Int) (k.wrap (.negSucc m)) (.negSucc m) (Nat.ble m (kMax k)) = _
    cases hb : Nat.ble m (kMax k) with
    | false => rfl
    | true => exact (wrap_neg k hs m (Nat.le_of_ble_eq_true hb)).symm
theorem wrU_eq (k : IntKind) (x : Int) : wrU k x = k.wrap x := by
  cases x with
  | ofNat m =>
    show Bool.rec (motive := fun _ => Int) (k.wrap (.ofNat m)) (.ofNat m) (Nat.ble m (kMax k)) = _
    cases hb : Nat.ble m (kMax k) with
    | false => rfl
    | true => exact (wrap_pos k m (Nat.le_of_ble_eq_true hb)).symm
  | negSucc m => rfl
theorem wrF_eq (k : IntKind) (x : Int) : wrF k x = k.wrap x := by
  cases k
  · exact wrS_eq _ (by simp) x
  · exact wrS_eq _ (by simp) x
  · exact wrS_eq _ (by simp) x
  · exact wrS_eq _ (by simp) x
  all_goals exact wrU_eq _ x
theorem ble_dec (m n : Nat) : Nat.ble m n = decide (m ≤ n) := by
  cases h : Nat.ble m n with
  | true => exact (decide_eq_true (Nat.le_of_ble_eq_true h)).symm
  | false => exact (decide_eq_false (Nat.not_le_of_not_ble_eq_true (by rw [h]; simp))).symm
theorem beq_dec (m n : Nat) : Nat.beq m n = decide (m = n) := by
  cases h : Nat.beq m n with
  | true => exact (decide_eq_true (Nat.eq_of_beq_eq_true h)).symm
  | false => exact (decide_eq_false (Nat.ne_of_beq_eq_false h)).symm
theorem ltF_eq (x y : Int) : ltF x y = decide (x < y) := by
  cases x <;> cases y
  · rename_i m n; show Nat.ble (m + 1) n = _; rw [ble_dec]; exact decide_eq_decide.2 (by simp; omega)
  · rename_i m n; show false = _; exact (decide_eq_false (by simp [Int.negSucc_eq]; omega)).symm
  · rename_i m n; show true = _; exact (decide_eq_true (by simp [Int.negSucc_eq]; omega)).symm
  · rename_i m n; show Nat.ble (n + 1) m = _; rw [ble_dec]; exact decide_eq_decide.2 (by simp [Int.negSucc_eq]; omega)
theorem leF_eq (x y : Int) : leF x y = decide (x ≤ y) := by
  cases x <;> cases y
  · rename_i m n; show Nat.ble m n = _; rw [ble_dec]; exact decide_eq_decide.2 (by simp)
  · rename_i m n; show false = _; exact (decide_eq_false (by simp [Int.negSucc_eq]; omega)).symm
  · rename_i m n; show true = _; exact (decide_eq_true (by simp [Int.negSucc_eq]; omega)).symm
  · rename_i m n; show Nat.ble n m = _; rw [ble_dec]; exact decide_eq_decide.2 (by simp [Int.negSucc_eq])
theorem eqF_eq (x y : Int) : eqF x y = (x == y) := by
  have e : (x == y) = decide (x = y) := by by_cases h : x = y <;> simp [h]
  rw [e]
  cases x <;> cases y
  · rename_i m n; show Nat.beq m n = _; rw [beq_dec]; exact decide_eq_decide.2 ⟨fun h => by rw [h], fun h => Int.ofNat.inj h⟩
  · rename_i m n; show false = _; exact (decide_eq_false (by simp)).symm
  · rename_i m n; show false = _; exact (decide_eq_false (by simp)).symm
  · rename_i m n; show Nat.beq m n = _; rw [beq_dec]; exact decide_eq_decide.2 (by simp)
end Go.Vi
namespace Go.Vi
theorem kMax_lt (k : IntKind) : kMax k + 1 ≤ 2 ^ k.bits := by cases k <;> decide
theorem kMax_pow (k : IntKind) : ∃ e, kMax k + 1 = 2 ^ e := by
  cases k
  · exact ⟨7, rfl⟩
  · exact ⟨15, rfl⟩
  · exact ⟨31, rfl⟩
  · exact ⟨63, rfl⟩
  · exact ⟨8, rfl⟩
  · exact ⟨16, rfl⟩
  · exact ⟨32, rfl⟩
  · exact ⟨64, rfl⟩
theorem and_bool {a b : Bool} (h : (Bool.rec (motive := fun _ => Bool) false a b) = true) : a = true ∧ b = true := by
  cases a <;> cases b <;> simp_all
theorem bits_nat (k : IntKind) (m : Nat) (h : m ≤ kMax k) : (BitVec.ofInt k.bits (.ofNat m)).toNat = m := by
  have h1 := kMax_lt k
  have e : (Int.ofNat m) = (m : Int) := rfl
  rw [e, BitVec.ofInt_natCast, BitVec.toNat_ofNat, Nat.mod_eq_of_lt (by omega)]
theorem bitF_eq (f : Nat → Nat → Nat) (op : BinOp) (k : IntKind) (x y : Int)
    (hf : ∀ m n, m ≤ kMax k → n ≤ kMax k → bitV op k (.ofNat m) (.ofNat n) = some (.int k (.ofNat (f m n)))) : bitF f op k x y = bitV op k x y := by
  cases x with
  | negSucc m => rfl
  | ofNat m =>
    cases y with
    | negSucc n => rfl
    | ofNat n =>
      show Bool.rec (motive := fun _ => Option Value) (bitV op k (.ofNat m) (.ofNat n)) (some (.int k (.ofNat (f m n)))) (Bool.rec (motive := fun _ => Bool) false (Nat.ble n (kMax k)) (Nat.ble m (kMax k))) = _
      cases hb : (Bool.rec (motive := fun _ => Bool) false (Nat.ble n (kMax k)) (Nat.ble m (kMax k))) with
      | false => rfl
      | true =>
        obtain ⟨h1, h2⟩ := and_bool hb
        exact (hf m n (Nat.le_of_ble_eq_true h2) (Nat.le_of_ble_eq_true h1)).symm
theorem land_eq (k : IntKind) (x y : Int) : bitF Nat.land .and k x y = bitV .and k x y := by
  refine bitF_eq _ _ _ _ _ fun m n hm hn => ?_
  unfold bitV
  simp only [BitVec.toNat_and, bits_nat k m hm, bits_nat k n hn]
  have : m &&& n ≤ kMax k := Nat.le_trans Nat.and_le_left hm
  have e := wrap_pos k (m &&& n) this
  have e' : ((m &&& n : Nat) : Int) = Int.ofNat (m &&& n) := rfl
  rw [e', e]; rfl
theorem lor_eq (k : IntKind) (x y : Int) : bitF Nat.lor .or k x y = bitV .or k x y := by
  refine bitF_eq _ _ _ _ _ fun m n hm hn => ?_
  unfold bitV
  simp only [BitVec.toNat_or, bits_nat k m hm, bits_nat k n hn]
  obtain ⟨e, he⟩ := kMax_pow k
  have : m ||| n < 2 ^ e := Nat.or_lt_two_pow (by omega) (by omega)
  have e1 := wrap_pos k (m ||| n) (by omega)
  have e' : ((m ||| n : Nat) : Int) = Int.ofNat (m ||| n) := rfl
  rw [e', e1]; rfl
theorem xor_eq (k : IntKind) (x y : Int) : bitF Nat.xor .xor k x y = bitV .xor k x y := by
  refine bitF_eq _ _ _ _ _ fun m n hm hn => ?_
  unfold bitV
  simp only [BitVec.toNat_xor, bits_nat k m hm, bits_nat k n hn]
  obtain ⟨e, he⟩ := kMax_pow k
  have : m ^^^ n < 2 ^ e := Nat.xor_lt_two_pow (by omega) (by omega)
  have e1 := wrap_pos k (m ^^^ n) (by omega)
  have e' : ((m ^^^ n : Nat) : Int) = Int.ofNat (m ^^^ n) := rfl
  rw [e', e1]; rfl
theorem shrF_eq (k : IntKind) (x y : Int) : shrF k x y = arithV .shr k x y := by
  cases x with
  | negSucc m => rfl
  | ofNat m =>
    cases y with
    | negSucc n => rfl
    | ofNat n =>
      show Bool.rec (motive := fun _ => Option Value) (arithV .shr k (.ofNat m) (.ofNat n)) (some (.int k (.ofNat (Nat.shiftRight m n)))) (Bool.rec (motive := fun _ => Bool) false (Nat.ble n 8) (Nat.ble m (kMax k))) = _
      cases hb : (Bool.rec (motive := fun _ => Bool) false (Nat.ble n 8) (Nat.ble m (kMax k))) with
      | false => rfl
      | true =>
        obtain ⟨h1, h2⟩ := and_bool hb
        have h1 := Nat.le_of_ble_eq_true h1
        have h2 := Nat.le_of_ble_eq_true h2
        have hk : 8 ≤ k.bits := by cases k <;> decide
        unfold arithV
        simp only
        have e1 : ¬ (Int.ofNat n < 0) := by simp
        rw [if_neg e1]
        have e2 : (Int.ofNat n).toNat = n := rfl
        rw [e2, Nat.min_eq_left (by omega)]
        have e3 : (Int.ofNat m).fdiv (2 ^ n) = Int.ofNat (m >>> n) := by
          have : ((2 : Int) ^ n) = Int.ofNat (2 ^ n) := by simp
          rw [this, Nat.shiftRight_eq_div_pow]
          exact (Int.ofNat_fdiv m (2 ^ n)).symm
        rw [e3]
        rfl
theorem arithF_eq (op : BinOp) (k : IntKind) (x y : Int) : arithF op k x y = arithV op k x y := by
  cases op
  · show some (Value.int k (wrF k (x + y))) = _; rw [wrF_eq]; rfl
  · show some (Value.int k (wrF k (x - y))) = _; rw [wrF_eq]; rfl
  · show some (Value.int k (wrF k (x * y))) = _; rw [wrF_eq]; rfl
  · rfl
  · rfl
  · exact land_eq k x y
  · exact lor_eq k x y
  · exact xor_eq k x y
  · rfl
  · exact shrF_eq k x y
  · rfl
  · show some (Value.bool (eqF x y)) = some (.bool (x == y)); rw [eqF_eq]
  · show some (Value.bool (Bool.rec (motive := fun _ => Bool) true false (eqF x y))) = some (.bool (x != y)); rw [eqF_eq]; unfold bne; cases (x == y) <;> rfl
  · show some (Value.bool (ltF x y)) = some (.bool (decide (x < y))); rw [ltF_eq]
  · show some (Value.bool (leF x y)) = some (.bool (decide (x ≤ y))); rw [leF_eq]
  · show some (Value.bool (ltF y x)) = some (.bool (decide (x > y))); rw [ltF_eq]
  · show some (Value.bool (leF y x)) = some (.bool (decide (x ≥ y))); rw [leF_eq]
theorem binX_eq (E : Env) (op : BinOp) (t : TypeId) (a b : Operand) (x y : Value) : binX E op t a b x y = binV E op t (isConstO a || isConstO b) x y := by
  unfold binX
  split
  · rename_i k m
    split
    · rename_i k' n
      cases hb : Nat.beq (kIx k) (kIx k') with
      | false => rfl
      | true =>
        have := kIx_inj hb
        subst this
        show arithF op k m n = _
        rw [arithF_eq]
        unfold binV
        simp
    · rfl
  · rfl
theorem nb1 (i : Nat) : i % 2 = 1 ∧ Nat.beq (Nat.mod i 2) 1 = true ∧ (i % 2 == 1) = true ∨ i % 2 ≠ 1 ∧ Nat.beq (Nat.mod i 2) 1 = false ∧ (i % 2 == 1) = false := by
  have e : Nat.mod i 2 = i % 2 := rfl
  rw [e]
  cases hb : Nat.beq (i % 2) 1 with
  | false => exact .inr ⟨(fun h => by rw [h] at hb; cases hb), rfl, by rw [beq_eq_false_iff_ne]; intro h; rw [h] at hb; cases hb⟩
  | true => have := Nat.eq_of_beq_eq_true hb; exact .inl ⟨this, rfl, by rw [this]; rfl⟩
theorem nb0 (n : Nat) : n = 0 ∧ Nat.beq n 0 = true ∨ n ≠ 0 ∧ Nat.beq n 0 = false := by
  cases n with
  | zero => exact .inl ⟨rfl, rfl⟩
  | succ n => exact .inr ⟨by simp, rfl⟩
theorem getR_go : ∀ (f n : Nat) (t : Trie Blk), (Nat.rec (fun _ t => Trie.rec none (fun _ v _ _ _ => v) t)
    (fun _ ih n t => Trie.rec none (fun l v r _ _ => Bool.rec (Bool.rec (ih (Nat.div n 2) l) (ih (Nat.div n 2) r) (Nat.beq (Nat.mod n 2) 1)) v (Nat.beq n 0)) t) f : Nat → Trie Blk → Option Blk) n t = t.get (bitsAt f n) := by
  intro f
  induction f with
  | zero => intro n t; cases t <;> rfl
  | succ f ih =>
    intro n t
    cases t with
    | leaf => rw [Trie.get_leaf]
    | node l v r =>
      rw [bitsAt]
      rcases nb0 n with ⟨h0, hb⟩ | ⟨h0, hb⟩
      · rw [if_pos h0]
        show Bool.rec (motive := fun _ => Option Blk) _ v (Nat.beq n 0) = _
        rw [hb]; rfl
      · rw [if_neg h0]
        show Bool.rec (motive := fun _ => Option Blk) _ v (Nat.beq n 0) = _
        rw [hb]
        rcases nb1 n with ⟨h1, h2, h3⟩ | ⟨h1, h2, h3⟩
        · rw [h3]
          show Bool.rec (motive := fun _ => Option Blk) _ _ (Nat.beq (Nat.mod n 2) 1) = _
          rw [h2]; exact ih (n / 2) r
        · rw [h3]
          show Bool.rec (motive := fun _ => Option Blk) _ _ (Nat.beq (Nat.mod n 2) 1) = _
          rw [h2]; exact ih (n / 2) l
theorem getR_eq (n : Nat) (h : Heap) : getR n h.tr = h.get n := getR_go n n h.tr
theorem putR_go (x : Option Blk) : ∀ (f n : Nat) (t : Trie Blk), n ≤ f → (Nat.rec (fun _ t => Trie.rec (.node .leaf x .leaf) (fun l _ r _ _ => .node l x r) t)
    (fun _ ih n t => Bool.rec
      (Trie.rec (Bool.rec (.node (ih (Nat.div n 2) .leaf) none .leaf) (.node .leaf none (ih (Nat.div n 2) .leaf)) (Nat.beq (Nat.mod n 2) 1))
        (fun l v r _ _ => Bool.rec (.node (ih (Nat.div n 2) l) v r) (.node l v (ih (Nat.div n 2) r)) (Nat.beq (Nat.mod n 2) 1)) t)
      (Trie.rec (.node .leaf x .leaf) (fun l _ r _ _ => .node l x r) t) (Nat.beq n 0)) f : Nat → Trie Blk → Trie Blk) n t = Trie.put x (bitsAt f n) t := by
  intro f
  induction f with
  | zero => intro n t _; cases t <;> rfl
  | succ f ih =>
    intro n t hn
    rw [bitsAt]
    rcases nb0 n with ⟨h0, hb⟩ | ⟨h0, hb⟩
    · rw [if_pos h0]
      show Bool.rec (motive := fun _ => Trie Blk) _ (Trie.rec (.node .leaf x .leaf) (fun l _ r _ _ => .node l x r) t) (Nat.beq n 0) = _
      rw [hb]; cases t <;> rfl
    · rw [if_neg h0]
      show Bool.rec (motive := fun _ => Trie Blk) (Trie.rec _ _ t) _ (Nat.beq n 0) = _
      rw [hb]
      rcases nb1 n with ⟨h1, h2, h3⟩ | ⟨h1, h2, h3⟩
      · rw [h3]
        cases t with
        | leaf =>
          show Bool.rec (motive := fun _ => Trie Blk) _ _ (Nat.beq (Nat.mod n 2) 1) = _
          rw [h2]
          show Trie.node .leaf none _ = _
          rw [Trie.put]
          congr 1
          exact ih (n / 2) .leaf (by omega)
        | node l v r =>
          show Bool.rec (motive := fun _ => Trie Blk) _ _ (Nat.beq (Nat.mod n 2) 1) = _
          rw [h2]
          show Trie.node l v _ = _
          rw [Trie.put]
          congr 1
          exact ih (n / 2) r (by omega)
      · rw [h3]
        cases t with
        | leaf =>
          show Bool.rec (motive := fun _ => Trie Blk) _ _ (Nat.beq (Nat.mod n 2) 1) = _
          rw [h2]
          show Trie.node _ none .leaf = _
          rw [Trie.put]
          congr 1
          exact ih (n / 2) .leaf (by omega)
        | node l v r =>
          show Bool.rec (motive := fun _ => Trie Blk) _ _ (Nat.beq (Nat.mod n 2) 1) = _
          rw [h2]
          show Trie.node _ v r = _
          rw [Trie.put]
          congr 1
          exact ih (n / 2) l (by omega)
theorem putR_eq (x : Option Blk) (n : Nat) (t : Trie Blk) : putR x n t = Trie.put x (bits n) t := putR_go x n n t (Nat.le_refl _)
theorem setR_heap (h : Heap) (b : Nat) (o : Blk) : ({ next := h.next, tr := putR (some o) b h.tr } : Heap) = h.set b o := by rw [putR_eq]; rfl
theorem newF_eq (h : Heap) (b : Blk) : newF h b = h.new b := by unfold newF; rw [putR_eq]; rfl
theorem nthR_eq : ∀ (i : Nat) (l : List Value), nthR i l = l[i]? := by
  intro i
  induction i with
  | zero => intro l; cases l <;> rfl
  | succ i ih => intro l; cases l with
    | nil => rfl
    | cons v r => exact (ih r).trans (by simp)
theorem setR_eq (x : Value) : ∀ (i : Nat) (l : List Value), setR x i l = l.set i x := by
  intro i
  induction i with
  | zero => intro l; cases l <;> rfl
  | succ i ih => intro l; cases l with
    | nil => rfl
    | cons v r => show v :: setR x i r = _; rw [ih]; rfl
theorem dropR_eq : ∀ (i : Nat) (l : List Value), dropR i l = l.drop i := by
  intro i
  induction i with
  | zero => intro l; rfl
  | succ i ih => intro l; cases l with
    | nil => rfl
    | cons v r => exact ih r
theorem takeR_eq : ∀ (i : Nat) (l : List Value), takeR i l = l.take i := by
  intro i
  induction i with
  | zero => intro l; rfl
  | succ i ih => intro l; cases l with
    | nil => rfl
    | cons v r => exact congrArg (v :: ·) (ih r)
theorem leR_eq : ∀ (i : Nat) (l : List Value), leR i l = decide (i ≤ l.length) := by
  intro i
  induction i with
  | zero => intro l; exact (decide_eq_true (Nat.zero_le _)).symm
  | succ i ih => intro l; cases l with
    | nil => simp [leR, hop]
    | cons v r =>
      have : leR (i + 1) (v :: r) = leR i r := rfl
      rw [this, ih]; simp
theorem appR_eq : ∀ (l m : List Value), appR l m = l ++ m := by
  intro l m
  induction l with
  | nil => rfl
  | cons v r ih => exact congrArg (v :: ·) ih
theorem allR_eq : ∀ (l : List Value), allR l = l.all oneCell := by
  intro l
  induction l with
  | nil => rfl
  | cons v r ih =>
    have : allR (v :: r) = Bool.rec (motive := fun _ => Bool) false (allR r) (oneCell v) := rfl
    rw [this, List.all_cons, ih]
    cases oneCell v <;> rfl
theorem dropL_eq : ∀ (l cs : List Value), dropL l cs = cs.drop l.length := by
  intro l
  induction l with
  | nil => intro cs; rfl
  | cons v r ih => intro cs; cases cs with
    | nil => rfl
    | cons x cs => exact ih cs
theorem overR_eq (l : List Value) : ∀ (i : Nat) (cs : List Value), overR l i cs = splice cs i l := by
  intro i
  induction i with
  | zero =>
    intro cs
    show appR l (dropL l cs) = _
    rw [appR_eq, dropL_eq]; simp [splice]
  | succ i ih => intro cs; cases cs with
    | nil => simp [splice, overR]
    | cons x cs =>
      have : overR l (i + 1) (x :: cs) = x :: overR l i cs := rfl
      rw [this, ih]
      simp [splice, Nat.add_right_comm]
theorem rdG_eq (h : Heap) (a : Addr) (n : Nat) : rdG h a n = rdN h a n := by
  unfold rdG rdN
  cases a.spot with
  | some s => cases h.get a.block <;> rfl
  | none =>
    simp only [getR_eq]
    cases h.get a.block with
    | none => rfl
    | some b =>
      cases b with
      | cells cs wr o =>
        simp only [takeR_eq, dropR_eq, leR_eq]
        by_cases hl : a.off + n ≤ cs.length
        · rw [if_pos hl, decide_eq_true hl]
        · rw [if_neg hl, decide_eq_false hl]
      | _ => rfl
theorem wrG_eq (h : Heap) (a : Addr) (l : List Value) : wrG h a l = wrN h a l := by
  unfold wrG wrN
  cases a.spot with
  | some s => cases h.get a.block <;> rfl
  | none =>
    simp only [getR_eq]
    cases h.get a.block with
    | none => rfl
    | some b =>
      cases b with
      | cells cs wr o =>
        cases wr with
        | false => rfl
        | true =>
          simp only [overR_eq, leR_eq, setR_heap]
          by_cases hl : a.off + l.length ≤ cs.length
          · rw [if_pos hl, decide_eq_true hl]
          · rw [if_neg hl, decide_eq_false hl]
      | _ => rfl
section
variable {E : Env}
theorem loadBig_eq (t : TypeId) (p : Value) (h : Heap) : loadBig E t p h = loadV E t p h := by
  unfold loadBig loadV
  simp only [rdG_eq]
theorem storeBig_eq (t : TypeId) (p v : Value) (h : Heap) : storeBig E t p v h = storeV E t p v h := by
  unfold storeBig storeV
  simp only [wrG_eq]
theorem srcF_eq (size : Nat) (x : Value) (h : Heap) : srcF size x h = srcV size x h := by
  unfold srcF srcV
  cases x <;> try rfl
  rename_i a n c
  cases a <;> simp only [rdG_eq]
theorem rdN_len {h : Heap} {a : Addr} {n : Nat} {l : List Value} (hr : rdN h a n = some l) : l.length = n := by
  unfold rdN at hr
  split at hr
  · split at hr
    · rename_i hle; cases hr; simp only [List.length_take, List.length_drop] at hle ⊢; omega
    · cases hr
  · cases hr
theorem lenOk_eq {okx : Bool} {e : Ty} {x : Value} {h : Heap} {n : Nat} {new : List Value} (hs : srcA okx e x h = some (n, new)) : lenOkF okx x new (n * e.size) = (new.length == n * e.size) := by
  unfold lenOkF
  split
  · rename_i a m c
    cases okx with
    | false => rfl
    | true =>
      by_cases hm : m = 0
      · subst hm; rfl
      · have h1 : Nat.beq m 0 = false := by cases m with | zero => exact absurd rfl hm | succ m => rfl
        rw [h1]
        unfold srcA srcV at hs
        simp only [if_true, if_neg hm] at hs
        obtain ⟨l, hl, he⟩ := Option.map_eq_some_iff.1 hs
        cases he
        have := rdN_len hl
        symm
        show (new.length == n * e.size) = true
        rw [this]; simp
  · rfl
theorem appendF_eq (t : TypeId) (xt : Option TypeId) (s x : Value) (h : Heap) : appendF E t xt s x h = appendV E t xt s x h := by
  unfold appendF appendV
  cases E.ty t with
  | none => rfl
  | some i =>
    simp only [Option.bind_eq_bind, Option.bind_some]
    cases i.under <;> try rfl
    rename_i elem
    cases s <;> try rfl
    rename_i base len cap
    simp only
    cases E.ty elem with
    | none => rfl
    | some e =>
      simp only [Option.bind_some]
      cases okSrc E xt with
      | none => rfl
      | some okx =>
        simp only [Option.bind_some]
        have hsrc : srcAF okx e x h = srcA okx e x h := by unfold srcAF srcA; rw [srcF_eq]
        rw [hsrc]
        cases hs : srcA okx e x h with
        | none => rfl
        | some p =>
          obtain ⟨n, new⟩ := p
          simp only [Option.bind_some]
          have hl := lenOk_eq hs
          have hc : (e.size = 0 || !lenOkF okx x new (n * e.size) || !allR new) = (e.size = 0 || new.length ≠ n * e.size || !new.all oneCell) := by
            rw [hl, allR_eq]
            simp only [ne_eq, decide_not]
            congr 2
          have hc2 : ((decide (e.size = 0) || !lenOkF okx x new (n * e.size) || !allR new) = true) = ((decide (e.size = 0) || decide (new.length ≠ n * e.size) || !new.all oneCell) = true) := by
            rw [show (decide (e.size = 0) || !lenOkF okx x new (n * e.size) || !allR new) = (decide (e.size = 0) || decide (new.length ≠ n * e.size) || !new.all oneCell) by
              rw [hl, allR_eq]
              simp only [ne_eq, decide_not]
              congr 2]
          simp only [hc2, wrG_eq, getR_eq, leR_eq, decide_eq_true_eq, appR_eq, takeR_eq, dropR_eq]
          have hn : ∀ b : Blk, ({ next := h.next + 1, tr := putR (some b) h.next h.tr } : Heap) = h.new b := fun b => newF_eq h b
          have hk : ∀ (b : Blk) (c : Nat), ({ next := h.next + 1, tr := putR none c (putR (some b) h.next h.tr) } : Heap) = (h.new b).kill c := fun b c => by rw [putR_eq, putR_eq]; rfl
          simp only [hk, hn]
          cases base with
          | none => rfl
          | some a =>
            simp only
            cases a.spot with
            | some s => rfl
            | none =>
              cases h.get a.block with
              | none => rfl
              | some b =>
                cases b <;> rfl
end
end Go.Vi
namespace Go.Vi
section
variable (E : Env) (call : CallV)
theorem fieldAddrF_eq (s : TypeId) (x : Value) (f : Nat) : fieldAddrF E s x f = fieldAddrV E s x f := by
  unfold fieldAddrF fieldAt fieldAddrV
  cases E.ty s with
  | none => rfl
  | some i =>
    simp only [Option.bind_eq_bind, Option.bind_some]
    cases i.under <;> try (cases x <;> rfl)
    rename_i fs
    cases x <;> try (simp only []; split <;> rfl)
    rename_i a
    cases a with
    | none => simp only []; split <;> rfl
    | some a =>
      simp only [addrK]
      cases hf : fs[f]? with
      | none => simp
      | some fl =>
        simp only [Option.bind_some]
        cases E.ty fl.type with
        | none => simp
        | some e =>
          simp only [Option.bind_some]
          by_cases h0 : e.size = 0
          · simp [h0]
          · simp [h0]
theorem indexK_eq (a : Addr) (len : Nat) (n : Int) (sz : Nat) : indexK a len n sz = if 0 ≤ n ∧ n < len ∧ sz ≠ 0 then some (.pointer (some (a.add (n.toNat * sz)))) else none := by
  cases n with
  | negSucc m => rw [if_neg (by intro h; have := h.1; simp [Int.negSucc_eq] at this; omega)]; rfl
  | ofNat m =>
    show Bool.rec (motive := fun _ => Option Value) none (Bool.rec (motive := fun _ => Option Value) (some (.pointer (some (a.add (Nat.mul m sz))))) none (Nat.beq sz 0)) (Nat.ble (Nat.succ m) len) = _
    rw [ble_dec, beq_dec]
    by_cases h1 : m + 1 ≤ len
    · rw [decide_eq_true h1]
      by_cases h2 : sz = 0
      · rw [decide_eq_true h2, if_neg (fun h => h.2.2 h2)]
      · rw [decide_eq_false h2, if_pos ⟨by simp, by simp; omega, h2⟩]; rfl
    · rw [decide_eq_false h1, if_neg (fun h => h1 (by have := h.2.1; simp at this; omega))]
theorem indexAddrF_eq (t : TypeId) (x ix : Value) : indexAddrF E t x ix = indexAddrV E t x ix := by
  unfold indexAddrF elemOf arrOf
  cases ht : E.ty t with
  | none => rfl
  | some i =>
    simp only [Option.bind_eq_bind, Option.bind_some]
    cases hu : i.under <;> try rfl
    · rename_i elem
      simp only
      cases he : E.ty elem with
      | none => rfl
      | some e =>
        simp only [Option.map_some]
        unfold indexAddrV
        simp only [ht, Option.bind_eq_bind, Option.bind_some, hu]
        cases x <;> cases ix <;> simp only [intOf, Option.bind_some, Option.bind_none] <;> try rfl
        rename_i a l c k n
        cases a with
        | none => rfl
        | some a => simp only [he, Option.bind_some, indexK_eq]
    · rename_i len elem
      simp only
      cases he : E.ty elem with
      | none => rfl
      | some e =>
        simp only [Option.map_some]
        unfold indexAddrV arrK
        simp only [ht, Option.bind_eq_bind, Option.bind_some, hu]
        cases x <;> try (cases ix <;> rfl)
        rename_i a
        cases a <;> cases ix <;> try rfl
        rename_i a k n
        simp only [intOf, he, Option.bind_some, indexK_eq]
theorem take_one (l : List Value) (i : Nat) : (l.drop i).take 1 = match l[i]? with | some v => [v] | none => [] := by
  cases h : l[i]? with
  | none => rw [List.drop_eq_nil_of_le (List.getElem?_eq_none_iff.1 h)]; rfl
  | some v =>
    obtain ⟨hlt, rfl⟩ := List.getElem?_eq_some_iff.1 h
    rw [List.drop_eq_getElem_cons hlt]; rfl
theorem cellF_eq (h : Heap) (a : Addr) : (cellF h a).map (fun v => [v]) = rdN h a 1 := by
  unfold cellF rdN
  cases a.spot with
  | some s => cases h.get a.block <;> rfl
  | none =>
    simp only [getR_eq]
    cases h.get a.block with
    | none => rfl
    | some b =>
      cases b with
      | cells cs wr o =>
        simp only [nthR_eq, take_one]
        by_cases hl : a.off + 1 ≤ cs.length
        · rw [if_pos hl, List.getElem?_eq_getElem (by omega)]; rfl
        · rw [if_neg hl, List.getElem?_eq_none (by omega)]; rfl
      | _ => rfl
theorem loadF_eq (t : TypeId) (p : Value) (h : Heap) : loadF E t p h = loadV E t p h := by
  unfold loadF loadK
  split
  · rename_i hk
    obtain ⟨i, hi, he⟩ := Option.map_eq_some_iff.1 hk
    simp only [Prod.mk.injEq] at he
    unfold loadV
    simp only [hi, Option.bind_eq_bind, Option.bind_some]
    split
    · rename_i a
      unfold ptrOf
      have hc := cellF_eq h a
      rw [he.1]
      cases hsp : a.spot with
      | some s =>
        have : cellF h a = none := by unfold cellF; rw [hsp]
        rw [this]
        simp [hsp]
      | none =>
        simp only [hsp, Option.isNone_none, if_true, Option.bind_some, ← hc]
        cases hv : cellF h a with
        | none => rfl
        | some v =>
          simp only [Option.map_some, Option.bind_some, he.2, Bool.false_eq_true, if_false, ofCells]
          split
          · rfl
          · rfl
    · rename_i hne
      unfold ptrOf
      cases p <;> try rfl
      rename_i a
      cases a with
      | none => rfl
      | some a => exact absurd rfl (hne a)
  · exact loadBig_eq _ _ _
theorem splice_one (cs : List Value) (i : Nat) (v : Value) (h : i + 1 ≤ cs.length) : splice cs i [v] = cs.set i v := by
  unfold splice
  rw [List.set_eq_take_append_cons_drop, if_pos (by omega)]
  simp
theorem storeCell_eq (h : Heap) (a : Addr) (v : Value) : storeCell h a v = wrN h a [v] := by
  unfold storeCell wrN
  cases a.spot with
  | some s => cases h.get a.block <;> rfl
  | none =>
    simp only [getR_eq]
    cases h.get a.block with
    | none => rfl
    | some b =>
      cases b with
      | cells cs wr o =>
        cases wr with
        | false => rfl
        | true =>
          simp only [nthR_eq, List.length_cons, List.length_nil, Nat.zero_add]
          by_cases hl : a.off + 1 ≤ cs.length
          · rw [if_pos hl, List.getElem?_eq_getElem (by omega), splice_one _ _ _ hl, setR_eq]
            simp only [setR_heap]
          · rw [if_neg hl, List.getElem?_eq_none (by omega)]
      | _ => rfl
theorem cells_one {v : Value} (h : oneCell v = true) : cellsOf v = [v] := by cases v <;> first | rfl | cases h
theorem storeF_eq (t : TypeId) (p v : Value) (h : Heap) : storeF E t p v h = storeV E t p v h := by
  unfold storeF loadK
  split
  · rename_i b hk
    obtain ⟨i, hi, he⟩ := Option.map_eq_some_iff.1 hk
    simp only [Prod.mk.injEq] at he
    split
    · rename_i ho
      unfold storeV
      simp only [hi, Option.bind_eq_bind, Option.bind_some, cells_one ho, he.1]
      split
      · rename_i a
        unfold ptrOf
        rw [storeCell_eq]
        cases hsp : a.spot with
        | some s =>
          simp only [hsp, Option.isNone_some, Bool.false_eq_true, if_false, Option.bind_none]
          unfold wrN; rw [hsp]
        | none => simp [ho, hsp]
      · rename_i hne
        unfold ptrOf
        cases p <;> try rfl
        rename_i a
        cases a with
        | none => rfl
        | some a => exact absurd rfl (hne a)
    · exact storeBig_eq _ _ _ _
  · exact storeBig_eq _ _ _ _
theorem stepF_eq (ev : Operand → Value) (h : Heap) (x : SOp) : stepF E call ev h x = stepE E call ev h x.o := by
  obtain ⟨d, op, ty, g⟩ := x
  unfold stepF
  cases op
  case move a => rfl
  case assign a => rfl
  case pick c a b =>
    show atH h (pickF (ev c) (ev a) (ev b)) = _
    unfold stepE pureV readV newV heavyV SOp.o atH pickF
    simp only
    cases ev c <;> try rfl
    rename_i t; cases t <;> rfl
  case alloc t =>
    show (match allocK E t with | some p => some (Mk.ptr.val h.next, newF h (.cells p.1 true p.2)) | none => none) = _
    unfold stepE pureV readV newV heavyV SOp.o allocK
    simp only [newF_eq]
    cases E.ty t with
    | none => rfl
    | some i =>
      simp only [Option.bind_eq_bind, Option.bind_some]
      cases i.zero <;> rfl
  case box t a =>
    show some (Mk.ptr.val h.next, newF h (.cells (cellsOf (ev a)) true none)) = _
    rw [newF_eq]; rfl
  case build t ps =>
    show atH h (buildV E t (partsV ev ps)) = _
    unfold stepE pureV readV newV heavyV SOp.o atH
    simp only
    cases buildV E t (partsV ev ps) <;> rfl
  case buildSlice t n ps =>
    show newK h (newV E ev _) = _
    unfold stepE pureV readV heavyV newK
    simp only [SOp.o]
    cases newV E ev _ <;> rfl
  case insert => rfl
  case load t a =>
    show atH h (loadF E t (ev a) h) = _
    rw [loadF_eq]
    unfold stepE pureV readV newV heavyV SOp.o atH
    simp only
    cases loadV E t (ev a) h <;> rfl
  case store t a b =>
    show heapK undef (storeF E t (ev a) (ev b) h) = _
    rw [storeF_eq]
    unfold stepE pureV readV newV heavyV SOp.o heapK
    simp only
    cases storeV E t (ev a) (ev b) h <;> rfl
  case nilCheck a =>
    show atH h (pureV E ev _) = _
    unfold stepE readV newV heavyV atH
    simp only [SOp.o]
    cases pureV E ev _ <;> rfl
  case binOp op t a b u =>
    show atH h (binX E op t a b (ev a) (ev b)) = _
    rw [binX_eq]
    unfold stepE pureV readV newV heavyV SOp.o atH
    simp only
    cases binV E op t (isConstO a || isConstO b) (ev a) (ev b) <;> rfl
  case unOp op t a =>
    show atH h (unV op (ev a)) = _
    unfold stepE pureV readV newV heavyV SOp.o atH
    simp only
    cases unV op (ev a) <;> rfl
  case convert s d2 a =>
    show (match convK E s d2 with | some k => atH h (convX k (ev a)) | none => stepE E call ev h (SOp.mk d (.convert s d2 a) ty g).o) = _
    unfold convK
    by_cases hsd : s = d2
    · rw [if_pos hsd]
    · rw [if_neg hsd]
      cases hs : E.ty s with
      | none => rfl
      | some i =>
        cases hd : E.ty d2 with
        | none => rfl
        | some j =>
          simp only [Option.bind_eq_bind, Option.bind_some]
          split
          · rename_i k hk
            split at hk
            · rename_i k1 k2 h1 h2
              cases hk
              unfold stepE pureV readV newV heavyV SOp.o atH convX convV
              simp only [if_neg hsd, hs, hd, Option.bind_eq_bind, Option.bind_some, h1, h2]
              cases ev a <;> simp only [wrF_eq]
            · cases hk
          · rfl
  case makeInterface t a =>
    show (match ifaceK E t with | some _ => some (Value.iface t (ev a), h) | none => none) = _
    unfold stepE pureV readV newV heavyV SOp.o ifaceK
    simp only
    cases E.ty t with
    | none => rfl
    | some i =>
      simp only [Option.bind_eq_bind, Option.bind_some]
      cases isIface i.under <;> rfl
  case makeFunc f l c =>
    show atH h (pureV E ev _) = _
    unfold stepE readV newV heavyV atH
    simp only [SOp.o]
    cases pureV E ev _ <;> rfl
  case makeMap t r =>
    show newK h (newV E ev _) = _
    unfold stepE pureV readV heavyV newK
    simp only [SOp.o]
    cases newV E ev _ <;> rfl
  case makeSlice t l c =>
    show newK h (newV E ev _) = _
    unfold stepE pureV readV heavyV newK
    simp only [SOp.o]
    cases newV E ev _ <;> rfl
  case slice t a lo hi mx =>
    show orK (atH h (sliceV E t (ev a) (lo.map ev) (hi.map ev) (mx.map ev))) (atH h (sliceS E t (ev a) (lo.map ev) (hi.map ev) (mx.map ev) h)) = _
    unfold stepE pureV readV newV heavyV SOp.o atH orK
    simp only
    cases sliceV E t (ev a) (lo.map ev) (hi.map ev) (mx.map ev) <;> simp only
    cases sliceS E t (ev a) (lo.map ev) (hi.map ev) (mx.map ev) h <;> rfl
  case fieldAddr s a f =>
    show atH h (fieldAddrF E s (ev a) f) = _
    rw [fieldAddrF_eq]
    unfold stepE pureV readV newV heavyV SOp.o atH
    simp only
    cases fieldAddrV E s (ev a) f <;> rfl
  case field s a f =>
    show atH h (fieldV E s (ev a) f) = _
    unfold stepE pureV readV newV heavyV SOp.o atH
    simp only
    cases fieldV E s (ev a) f <;> rfl
  case indexAddr s a i =>
    show atH h (indexAddrF E s (ev a) (ev i)) = _
    rw [indexAddrF_eq]
    unfold stepE pureV readV newV heavyV SOp.o atH
    simp only
    cases indexAddrV E s (ev a) (ev i) <;> rfl
  case index s a i =>
    show atH h (indexV E s (ev a) (ev i)) = _
    unfold stepE pureV readV newV heavyV SOp.o atH
    simp only
    cases indexV E s (ev a) (ev i) <;> rfl
  case lookup t a i ok =>
    show atH h (lookupV E t (ev a) (ev i) ok h) = _
    unfold stepE pureV readV newV heavyV SOp.o atH
    simp only
    cases lookupV E t (ev a) (ev i) ok h <;> rfl
  case mapUpdate => rfl
  case mapEntry => rfl
  case entryStore => rfl
  case range => rfl
  case next => rfl
  case typeAssert a u v ok =>
    show atH h (pureV E ev _) = _
    unfold stepE readV newV heavyV atH
    simp only [SOp.o]
    cases pureV E ev _ <;> rfl
  case extract a i =>
    show atH h (extrK (ev a) i) = _
    unfold stepE pureV readV newV heavyV SOp.o atH extrK
    simp only
    cases ev a <;> simp only
    rename_i vs
    cases vs[i]? <;> rfl
  case call c =>
    obtain ⟨callee, args, ats⟩ := c
    cases callee with
    | value f =>
      show callU (ev f) E call ev h _ args = _
      unfold callU
      split
      · rename_i gi first captured hv
        unfold stepE pureV readV newV heavyV SOp.o callW
        simp only [hv, Array.toList_map, List.append_assoc]
        cases E.row gi <;> rfl
      · rfl
    | invoke r m => rfl
    | builtin b =>
      cases b <;> try rfl
      · show fAppend ⟨.builtin .append, args, ats⟩ E call ev h _ = _
        unfold fAppend
        simp only
        split
        · rename_i s a t u ha ht
          have e0 : args[0]? = some s := by rw [← Array.getElem?_toList, ha]; rfl
          have e1 : args[1]? = some a := by rw [← Array.getElem?_toList, ha]; rfl
          have e2 : ats[0]? = some t := by rw [← Array.getElem?_toList, ht]; rfl
          have e3 : ats[1]? = some u := by rw [← Array.getElem?_toList, ht]; rfl
          unfold stepE pureV readV newV heavyV SOp.o
          simp only [e0, e1, e2, e3, appendF_eq]
        · rfl
      · show fLen ⟨.builtin .len, args, ats⟩ E call ev h _ = _
        unfold fLen
        simp only
        split
        · rename_i a ar t tr ha ht
          split
          · rename_i z hz
            unfold elemOf at hz
            cases hty : E.ty t with
            | none => rw [hty] at hz; simp at hz
            | some i =>
              rw [hty] at hz
              simp only [Option.bind_eq_bind, Option.bind_some] at hz
              cases hu : i.under <;> rw [hu] at hz <;> simp only [reduceCtorEq] at hz
              have e1 : args[0]? = some a := by rw [← Array.getElem?_toList, ha]; rfl
              have e2 : ats[0]? = some t := by rw [← Array.getElem?_toList, ht]; rfl
              unfold stepE pureV readV newV heavyV SOp.o atH lenK
              simp only [e1, e2, hty, Option.bind_eq_bind, Option.bind_some, hu]
              cases ev a <;> rfl
          · rfl
        · rfl
  all_goals rfl
end
end Go.Vi
namespace Go.Vi
structure CallLe (c c' : CallV) : Prop where
  fn : ∀ f a h r, c.fn f a h = some r → c'.fn f a h = some r
  yld : ∀ l a h r, c.yld l a h = some r → c'.yld l a h = some r
section
variable {E : Env} {call callv : CallV}
theorem heavy_mono (le : CallLe call callv) {ev : Operand → Value} {h : Heap} {o : Oper} {r : Value × Heap} (hs : heavyV E call ev h o = some r) : heavyV E callv ev h o = some r := by
  unfold heavyV at hs ⊢
  split at hs <;> try exact hs
  split at hs <;> try exact hs
  · split at hs <;> try exact hs
    · split at hs
      · exact hs
      · exact le.fn _ _ _ _ hs
    · split at hs
      · rename_i hc; rw [if_pos hc]; exact le.yld _ _ _ _ hs
      · cases hs
  · split at hs <;> try exact hs
    rename_i t v hv
    obtain ⟨g, hg, hs⟩ := bind_some.1 hs
    rw [hg]
    exact le.fn _ _ _ _ hs
theorem stepE_mono (le : CallLe call callv) {ev : Operand → Value} {h : Heap} {o : Oper} {r : Value × Heap} (hs : stepE E call ev h o = some r) : stepE E callv ev h o = some r := by
  unfold stepE at hs ⊢
  split at hs
  · exact hs
  · split at hs
    · exact hs
    · split at hs
      · exact hs
      · exact heavy_mono le hs
theorem stepE_congr {ev ev2 : Operand → Value} {h : Heap} {o : Oper} (he : ∀ x ∈ o.op.operands, ev x = ev2 x) : stepE E call ev h o = stepE E call ev2 h o := by
  unfold stepE
  rw [pure_congr he, read_congr he, new_congr he, heavy_congr he]
theorem sop_ev {d n : Nat} {tt : BT} {t : Tmps} (tb : TB d n tt t) {x : SOp} (hx : sopOk n x = true) : ∀ a ∈ x.o.op.operands, evF d tt a = evV t a := by
  intro a ha
  unfold sopOk at hx
  simp only [Bool.and_eq_true] at hx
  have ha : a ∈ x.op.operands := ha
  exact tb.ev (List.all_eq_true.1 hx.1.1 a (by simpa using ha))
theorem sop_d {n : Nat} {x : SOp} (hx : sopOk n x = true) : (match x.d with | some i => decide (i < n) | none => true) = true := by
  unfold sopOk at hx
  simp only [Bool.and_eq_true] at hx
  exact hx.1.2
theorem want_eq {d n : Nat} {tt : BT} {t : Tmps} (tb : TB d n tt t) {x : SOp} (hx : sopOk n x = true) : wantF d tt x.g = wantS x.g t := by
  unfold sopOk at hx
  simp only [Bool.and_eq_true] at hx
  have hg := hx.2
  unfold wantF wantS
  cases hxg : x.g with
  | none => rfl
  | some p =>
    obtain ⟨o, want⟩ := p
    cases o with
    | none => rfl
    | some i =>
      rw [hxg] at hg
      have hi : i < n := by simpa using hg
      have hl : i < List.length t := by rw [tb.len]; exact hi
      simp only [Option.bind_some]
      rw [getp_eq, tb.get i hi, List.getD_eq_getElem?_getD, List.getElem?_eq_getElem hl]
      simp only [Option.getD_some]
      cases t[i] <;> rfl
theorem step_le (le : CallLe call callv) {d n : Nat} {tt : BT} {t : Tmps} (tb : TB d n tt t) {x : SOp} (hx : sopOk n x = true) {h : Heap} {r : Value × Heap} (hs : stepF E call (evF d tt) h x = some r) :
    stepV E callv x.o (t, h) = some r := by
  rw [stepF_eq, stepE_congr (sop_ev tb hx)] at hs
  exact stepE_mono le hs
theorem ops_le (le : CallLe call callv) {d n : Nat} : ∀ (l : List SOp) (tt : BT) (t : Tmps) (h : Heap) (tt' : BT) (h' : Heap), l.all (sopOk n) = true → TB d n tt t → opsF E call d l tt h = some (tt', h') →
    ∃ t', opsS E callv l (t, h) = some (t', h') ∧ TB d n tt' t' := by
  intro l
  induction l with
  | nil =>
    intro tt t h tt' h' _ tb hs
    have hs : some (tt, h) = some (tt', h') := hs
    cases hs
    exact ⟨t, rfl, tb⟩
  | cons x l ih =>
    intro tt t h tt' h' hok tb hs
    rw [List.all_cons, Bool.and_eq_true] at hok
    have hs : Bool.rec (motive := fun _ => Option (BT × Heap)) (opsF E call d l (putF d x.d undef tt) h) (opsK (opsF E call d l) d x.d tt (stepF E call (evF d tt) h x)) (wantF d tt x.g) = some (tt', h') := hs
    rw [want_eq tb hok.1] at hs
    rw [opsS]
    cases hw : wantS x.g t with
    | false =>
      rw [hw] at hs
      rw [if_neg (by simp)]
      exact ih _ _ _ _ _ hok.2 (tb.putF (sop_d hok.1) undef) hs
    | true =>
      rw [hw] at hs
      have hs : opsK (opsF E call d l) d x.d tt (stepF E call (evF d tt) h x) = some (tt', h') := hs
      rw [if_pos (by simp)]
      cases hst : stepF E call (evF d tt) h x with
      | none => rw [hst] at hs; cases hs
      | some r =>
        obtain ⟨v, h1⟩ := r
        rw [hst] at hs
        have hs : opsF E call d l (putF d x.d v tt) h1 = some (tt', h') := hs
        rw [step_le le tb hok.1 hst]
        exact ih _ _ _ _ _ hok.2 (tb.putF (sop_d hok.1) v) hs
structure SeenRel (d n : Nat) (f : FSeen) (s : SSeen) : Prop where
  at_ : f.at_ = s.at_
  op : f.op = s.op
  v : f.v = s.v
  ok : sopOk n s.op = true
  tb : TB d n f.t s.t
def Covers (d n : Nat) (rs : List FSeen) (ss : List SSeen) : Prop := ∀ s ∈ ss, ∃ f ∈ rs, SeenRel d n f s
theorem reads_le {d n : Nat} {tt : BT} {t : Tmps} (tb : TB d n tt t) {x : SOp} (hx : sopOk n x = true) {h : Heap} (hr : isRead E x t h = true) : readsF E (evF d tt) h x = true := by
  have he := sop_ev tb hx
  unfold isRead at hr
  rw [← pure_congr he, ← read_congr he] at hr
  unfold readsF
  cases hm : maybeRead x with
  | none => exact hr
  | some b =>
    cases b with
    | true => rfl
    | false =>
      exfalso
      obtain ⟨xd, op, ty, g⟩ := x
      unfold maybeRead at hm
      cases op <;> simp only [reduceCtorEq, Option.some.injEq] at hm <;> (simp [readV, SOp.o] at hr)
theorem draw_le (le : CallLe call callv) {d n : Nat} : ∀ (l : List SOp) (j : Nat) (tt : BT) (t : Tmps) (h : Heap) (hs : List Heap) (rs : List FSeen) (ss : List SSeen) (tt' : BT) (h' : Heap) (hs' : List Heap) (rs' : List FSeen),
    l.all (sopOk n) = true → TB d n tt t → Covers d n rs ss → drawF E call d l j tt h hs rs = some (tt', h', hs', rs') →
    ∃ t' ss', drawT E callv l j (t, h) hs ss = some ((t', h'), hs', ss') ∧ TB d n tt' t' ∧ Covers d n rs' ss' := by
  intro l
  induction l with
  | nil =>
    intro j tt t h hs rs ss tt' h' hs' rs' _ tb cv hd
    have hd : some (tt, h, hs ++ [h], rs) = some (tt', h', hs', rs') := hd
    cases hd
    exact ⟨t, ss, rfl, tb, cv⟩
  | cons x l ih =>
    intro j tt t h hs rs ss tt' h' hs' rs' hok tb cv hd
    rw [List.all_cons, Bool.and_eq_true] at hok
    have hhs : (Bool.rec (motive := fun _ => List Heap) hs (hs ++ [h]) (heavyOp x.o)) = (if heavyOp x.o then hs ++ [h] else hs) := by cases heavyOp x.o <;> rfl
    have hd : Bool.rec (motive := fun _ => Option (BT × Heap × List Heap × List FSeen))
      (drawF E call d l (j + 1) (putF d x.d undef tt) h (Bool.rec (motive := fun _ => List Heap) hs (hs ++ [h]) (heavyOp x.o)) rs)
      (drawK (fun t' h' rs' => drawF E call d l (j + 1) t' h' (Bool.rec (motive := fun _ => List Heap) hs (hs ++ [h]) (heavyOp x.o)) rs') d x.d tt (stepF E call (evF d tt) h x)
        (fun v => Bool.rec (motive := fun _ => List FSeen) (Bool.rec (motive := fun _ => List FSeen) rs (⟨j, x, tt, v⟩ :: rs) (readsF E (evF d tt) h x)) rs (heavyOp x.o)))
      (wantF d tt x.g) = some (tt', h', hs', rs') := hd
    rw [want_eq tb hok.1, hhs] at hd
    rw [drawT]
    cases hw : wantS x.g t with
    | false =>
      rw [hw] at hd
      simp only [Bool.false_eq_true, if_false]
      exact ih _ _ _ _ _ _ _ _ _ _ _ hok.2 (tb.putF (sop_d hok.1) undef) cv hd
    | true =>
      rw [hw] at hd
      simp only [if_true]
      have hd : drawK (fun t' h' rs' => drawF E call d l (j + 1) t' h' (if heavyOp x.o then hs ++ [h] else hs) rs') d x.d tt (stepF E call (evF d tt) h x)
        (fun v => Bool.rec (motive := fun _ => List FSeen) (Bool.rec (motive := fun _ => List FSeen) rs (⟨j, x, tt, v⟩ :: rs) (readsF E (evF d tt) h x)) rs (heavyOp x.o)) = some (tt', h', hs', rs') := hd
      cases hst : stepF E call (evF d tt) h x with
      | none => rw [hst] at hd; cases hd
      | some r =>
        obtain ⟨v, h1⟩ := r
        rw [hst] at hd
        have hd : drawF E call d l (j + 1) (putF d x.d v tt) h1 (if heavyOp x.o then hs ++ [h] else hs)
          (Bool.rec (motive := fun _ => List FSeen) (Bool.rec (motive := fun _ => List FSeen) rs (⟨j, x, tt, v⟩ :: rs) (readsF E (evF d tt) h x)) rs (heavyOp x.o)) = some (tt', h', hs', rs') := hd
        rw [step_le le tb hok.1 hst]
        simp only
        refine ih _ _ _ _ _ _ _ _ _ _ _ hok.2 (tb.putF (sop_d hok.1) v) ?_ hd
        intro s hsm
        cases hh : heavyOp x.o with
        | true =>
          rw [hh] at hsm
          simp only [Bool.not_true, Bool.false_and, Bool.false_eq_true, if_false] at hsm
          exact cv s hsm
        | false =>
          rw [hh] at hsm
          simp only [Bool.not_false, Bool.true_and] at hsm
          show ∃ f ∈ (Bool.rec (motive := fun _ => List FSeen) rs (⟨j, x, tt, v⟩ :: rs) (readsF E (evF d tt) h x)), _
          split at hsm
          · rename_i hr
            rw [reads_le tb hok.1 hr]
            rcases List.mem_cons.1 hsm with rfl | hsm
            · exact ⟨_, List.mem_cons_self, rfl, rfl, rfl, hok.1, tb⟩
            · obtain ⟨f, hf, hr2⟩ := cv s hsm
              exact ⟨f, List.mem_cons_of_mem _ hf, hr2⟩
          · obtain ⟨f, hf, hr2⟩ := cv s hsm
            cases readsF E (evF d tt) h x with
            | false => exact ⟨f, hf, hr2⟩
            | true => exact ⟨f, List.mem_cons_of_mem _ hf, hr2⟩
theorem seen_le {d n : Nat} {p : Plan} {hs : List Heap} {f : FSeen} {s : SSeen} (r : SeenRel d n f s) (h : seenF E d p hs f = true) : seenT E p hs s = true := by
  obtain ⟨ha, ho, hv, hok, tb⟩ := r
  unfold seenF at h
  unfold seenT
  rw [← ha]
  refine List.all_eq_true.2 fun k hk => ?_
  have := List.all_eq_true.1 h k hk
  unfold sameAt at this
  cases hh : hs[p.lo.getD f.at_ 0 + k]? with
  | none => rw [hh] at this; cases this
  | some hp =>
    rw [hh] at this
    simp only at this ⊢
    rw [ho, read_congr (sop_ev tb hok), hv] at this
    exact this
theorem reg_le (le : CallLe call callv) {d n : Nat} {pl : Option Plan} {ops : Array Oper} {tt : BT} {t : Tmps} {h : Heap} {x : Ex} {tt' : BT} {h' : Heap} (hok : (ops.toList.map (slim ops)).all (sopOk n) = true) (tb : TB d n tt t)
    (hs : regF E call d pl (ops.toList.map (slim ops)) tt h = some (x, tt', h')) : x = .normal ∧ ∃ t', regionV E callv pl ops true (t, h) = some (t', h') ∧ TB d n tt' t' := by
  unfold regF at hs
  split at hs
  · rename_i p
    cases hd : drawF E call d (ops.toList.map (slim ops)) 0 tt h [] [] with
    | none => rw [hd] at hs; cases hs
    | some q =>
      obtain ⟨t1, h1, hs1, rs1⟩ := q
      rw [hd] at hs
      have hs : Bool.rec (motive := fun _ => Option (Ex × BT × Heap)) none (some (.normal, t1, h1)) (rs1.all (seenF E d p hs1)) = some (x, tt', h') := hs
      cases hall : rs1.all (seenF E d p hs1) with
      | false => rw [hall] at hs; cases hs
      | true =>
        rw [hall] at hs
        cases hs
        obtain ⟨t', ss', h2, tb', cv⟩ := draw_le le _ 0 tt t h [] [] [] _ _ _ _ hok tb (fun _ h => absurd h (by simp)) hd
        refine ⟨rfl, t', region_slim E callv h2 (List.all_eq_true.2 fun s hsm => ?_), tb'⟩
        obtain ⟨f, hf, hr⟩ := cv s hsm
        exact seen_le hr (List.all_eq_true.1 hall f hf)
  · cases hs
theorem seqF_inv {b : BT → Heap → Option (Ex × BT × Heap)} {y : Option (Ex × BT × Heap)} {r : Ex × BT × Heap} (h : seqF b y = some r) :
    (∃ t1 h1, y = some (.normal, t1, h1) ∧ b t1 h1 = some r) ∨ (y = some r ∧ r.1 ≠ .normal) := by
  unfold seqF at h
  split at h
  · exact .inl ⟨_, _, rfl, h⟩
  · rename_i hne
    refine .inr ⟨h, fun e => ?_⟩
    obtain ⟨a, b, c⟩ := r
    simp only at e
    subst e
    exact hne _ _ h
theorem code_le (le : CallLe call callv) {pl : Nat → Option Plan} {fuel d n : Nat} : ∀ (c : Code) (tt : BT) (t : Tmps) (h : Heap) (x : Ex) (tt' : BT) (h' : Heap), codeChk n c = true → TB d n tt t →
    codeF E call pl fuel d n c tt h = some (x, tt', h') → ∃ t', codeV E callv pl fuel c (t, h) = some (x, t', h') ∧ TB d n tt' t' := by
  intro c
  induction c with
  | skip =>
    intro tt t h x tt' h' _ tb hs
    have hs : some (Ex.normal, tt, h) = some (x, tt', h') := hs
    cases hs; exact ⟨t, rfl, tb⟩
  | exit id =>
    intro tt t h x tt' h' _ tb hs
    have hs : some (Ex.exit id, tt, h) = some (x, tt', h') := hs
    cases hs; exact ⟨t, rfl, tb⟩
  | ret =>
    intro tt t h x tt' h' _ tb hs
    have hs : some (Ex.ret, tt, h) = some (x, tt', h') := hs
    cases hs; exact ⟨t, rfl, tb⟩
  | region id ops draw =>
    intro tt t h x tt' h' hc tb hs
    have hc : (ops.toList.map (slim ops)).all (sopOk n) = true := hc
    cases draw with
    | false =>
      have hs : endF (opsF E call d (ops.toList.map (slim ops)) tt h) = some (x, tt', h') := hs
      cases hq : opsF E call d (ops.toList.map (slim ops)) tt h with
      | none => rw [hq] at hs; cases hs
      | some q =>
        obtain ⟨t1, h1⟩ := q
        rw [hq] at hs
        cases hs
        obtain ⟨t', h2, tb'⟩ := ops_le le _ tt t h _ _ hc tb hq
        refine ⟨t', ?_, tb'⟩
        rw [codeV]
        unfold regionV
        simp only [Bool.false_eq_true, if_false]
        rw [ops_slim, h2]; rfl
    | true =>
      have hs : regF E call d (pl id) (ops.toList.map (slim ops)) tt h = some (x, tt', h') := hs
      obtain ⟨rfl, t', h2, tb'⟩ := reg_le le hc tb hs
      exact ⟨t', by rw [codeV, h2]; rfl, tb'⟩
  | seq a b iha ihb =>
    intro tt t h x tt' h' hc tb hs
    simp only [codeChk, Bool.and_eq_true] at hc
    have hs : seqF (codeF E call pl fuel d n b) (codeF E call pl fuel d n a tt h) = some (x, tt', h') := hs
    rw [codeV]
    rcases seqF_inv hs with ⟨t1, h1, ha, hb⟩ | ⟨ha, hne⟩
    · obtain ⟨ta, h2, tba⟩ := iha _ _ _ _ _ _ hc.1 tb ha
      rw [h2]
      exact ihb _ _ _ _ _ _ hc.2 tba hb
    · obtain ⟨ta, h2, tba⟩ := iha _ _ _ _ _ _ hc.1 tb ha
      rw [h2]
      refine ⟨ta, ?_, tba⟩
      cases x with
      | normal => exact absurd rfl hne
      | exit i => rfl
      | ret => rfl
  | cond c a b iha ihb =>
    intro tt t h x tt' h' hc tb hs
    simp only [codeChk, Bool.and_eq_true] at hc
    have hs : condF (codeF E call pl fuel d n a) (codeF E call pl fuel d n b) tt h (evF d tt c) = some (x, tt', h') := hs
    rw [tb.ev hc.1.1] at hs
    rw [codeV]
    unfold condF at hs
    cases hv : evV t c <;> rw [hv] at hs <;> try (cases hs; done)
    rename_i q
    cases q with
    | false => exact ihb _ _ _ _ _ _ hc.2 tb hs
    | true => exact iha _ _ _ _ _ _ hc.1.2 tb hs
  | block id b ih =>
    intro tt t h x tt' h' hc tb hs
    have hs : blockF id (codeF E call pl fuel d n b tt h) = some (x, tt', h') := hs
    rw [codeV]
    cases hq : codeF E call pl fuel d n b tt h with
    | none => rw [hq] at hs; cases hs
    | some q =>
      obtain ⟨y, t1, h1⟩ := q
      obtain ⟨tb1, h2, tbb⟩ := ih _ _ _ _ _ _ hc tb hq
      rw [hq] at hs
      rw [h2]
      cases y with
      | normal => cases hs; exact ⟨tb1, rfl, tbb⟩
      | ret => cases hs; exact ⟨tb1, rfl, tbb⟩
      | exit i =>
        have hs : (if i = id then some (Ex.normal, t1, h1) else some (.exit i, t1, h1)) = some (x, tt', h') := hs
        simp only
        split at hs
        · rename_i hi; cases hs; exact ⟨tb1, by rw [if_pos hi], tbb⟩
        · rename_i hi; cases hs; exact ⟨tb1, by rw [if_neg hi], tbb⟩
  | loop b ih =>
    intro tt t h x tt' h' hc tb hs
    have hs : iterF (codeF E call pl fuel d n b) fuel tt h = some (x, tt', h') := hs
    rw [codeV]
    have key : ∀ (m : Nat) (tt : BT) (t : Tmps) (h : Heap), TB d n tt t → iterF (codeF E call pl fuel d n b) m tt h = some (x, tt', h') → ∃ t', iterV (codeV E callv pl fuel b) m (t, h) = some (x, t', h') ∧ TB d n tt' t' := by
      intro m
      induction m with
      | zero => intro tt t h _ hs; cases hs
      | succ m ihm =>
        intro tt t h tb hs
        have hs : seqF (iterF (codeF E call pl fuel d n b) m) (codeF E call pl fuel d n b tt h) = some (x, tt', h') := hs
        unfold iterV
        rcases seqF_inv hs with ⟨t1, h1, ha, hb⟩ | ⟨ha, hne⟩
        · obtain ⟨ta, h2, tba⟩ := ih _ _ _ _ _ _ hc tb ha
          rw [h2]
          exact ihm _ _ _ tba hb
        · obtain ⟨ta, h2, tba⟩ := ih _ _ _ _ _ _ hc tb ha
          rw [h2]
          refine ⟨ta, ?_, tba⟩
          cases x with
          | normal => exact absurd rfl hne
          | exit i => rfl
          | ret => rfl
    exact key fuel tt t h tb hs
  | rangeFunc g ps a b _ _ =>
    intro tt t h x tt' h' hc tb hs
    simp only [codeChk, Bool.and_eq_true] at hc
    have hs : Bool.rec (motive := fun _ => Option (Ex × BT × Heap)) none (rangeF call d n pl ps a b tt h (evF d tt g)) (flat a && flat b) = some (x, tt', h') := hs
    rw [tb.ev hc.1.1] at hs
    cases hf : (flat a && flat b) with
    | false => rw [hf] at hs; cases hs
    | true =>
      rw [hf] at hs
      have hs : rangeF call d n pl ps a b tt h (evV t g) = some (x, tt', h') := hs
      rw [Bool.and_eq_true] at hf
      rw [codeV]
      rw [if_neg (by simp [hf.1, hf.2])]
      unfold rangeF at hs
      cases hv : evV t g <;> rw [hv] at hs <;> try (cases hs; done)
      rename_i fn first captured
      cases fn <;> try (cases hs; done)
      rename_i f
      simp only at hs ⊢
      rw [newF_eq, toL_eq tb] at hs
      unfold rangeE at hs
      split at hs
      · rename_i u h2 hcall
        rw [le.fn _ _ _ _ hcall]
        simp only [getR_eq] at hs ⊢
        split at hs
        · rename_i r hr
          rw [hr]
          simp only
          split at hs
          · cases hs
          · rename_i hb
            rw [if_neg hb]
            split at hs
            · rename_i x0 hx
              cases hs
              rw [hx]
              refine ⟨t, ?_, tb⟩
              rw [setR_heap]; rfl
            · cases hs
        · cases hs
      · cases hs
  | scope b _ => intro tt t h x tt' h' _ _ hs; cases hs
  | label l => intro tt t h x tt' h' _ _ hs; cases hs
  | goto l => intro tt t h x tt' h' _ _ hs; cases hs
  | refuse w => intro tt t h x tt' h' _ _ hs; cases hs
theorem res_le {d n : Nat} {tt : BT} {t : Tmps} (tb : TB d n tt t) (h : Heap) : ∀ (rs : List ResultVar) (l : List Value), resF1 E d n tt h rs = some l → resultsV E (t, h) rs = some l := by
  intro rs
  induction rs with
  | nil => intro l hs; exact hs
  | cons r rs ih =>
    intro l hs
    cases r with
    | tmp i =>
      have hs : (if i < n then (match resF1 E d n tt h rs with | some l => some (BT.get d i tt :: l) | none => none) else none) = some l := hs
      split at hs
      · rename_i hi
        split at hs
        · rename_i l0 hl0
          cases hs
          simp only [resultsV, ih _ hl0, Option.map_some, tb.get i hi]
        · cases hs
      · cases hs
    | cell a ty =>
      have hs : (if a < n then (match loadF E ty (BT.get d a tt) h, resF1 E d n tt h rs with | some v, some l => some (v :: l) | _, _ => none) else none) = some l := hs
      split at hs
      · rename_i hi
        split at hs
        · rename_i v l0 hv hl0
          cases hs
          rw [loadF_eq, tb.get a hi] at hv
          simp only [resultsV, ih _ hl0, hv, Option.bind_eq_bind, Option.bind_some]
        · cases hs
      · cases hs
theorem fn_le (le : CallLe call callv) {fuel : Nat} {fn : Fun} {args : List Value} {h : Heap} {r : Value × Heap} (hs : fnF E call fuel fn args h = some r) :
    (match codeV E callv fn.plan fuel fn.body (args ++ List.replicate (fn.fn.ntmps - args.length) undef, h) with
      | some (.normal, s) | some (.ret, s) => (resultsV E s fn.fn.results.toList).map fun l => (oneOrTuple l, s.2)
      | _ => none) = some r := by
  unfold fnF at hs
  cases hc : fnChk fn with
  | false => rw [hc] at hs; cases hs
  | true =>
    rw [hc] at hs
    have hs : (if args.length ≤ fn.fn.ntmps then retF E (depthOf fn.fn.ntmps) fn.fn.ntmps fn.fn.results.toList (codeF E call fn.plan fuel (depthOf fn.fn.ntmps) fn.fn.ntmps fn.body (BT.ofL (depthOf fn.fn.ntmps) args) h) else none) = some r := hs
    split at hs
    · rename_i hl
      unfold retF at hs
      split at hs
      · rename_i e t1 h1 hq
        obtain ⟨t', h2, tb'⟩ := code_le le _ _ _ _ _ _ _ hc (TB.ofL (depth_fits _) hl) hq
        rw [h2]
        split at hs
        · cases hs
        · rename_i hne
          split at hs
          · rename_i l hl
            cases hs
            have := res_le tb' h1 _ _ hl
            cases e with
            | exit i => exact absurd rfl (hne i)
            | normal => simp only [this, Option.map_some]
            | ret => simp only [this, Option.map_some]
          · cases hs
      · cases hs
    · cases hs
theorem setAll_len : ∀ (l : List (Tmp × Value)) (t : List Value), (setAll l t).length = t.length := by
  intro l
  induction l with
  | nil => intro t; rfl
  | cons p l ih => intro t; obtain ⟨d, v⟩ := p; rw [setAll, ih, List.length_set]
theorem yld_le (le : CallLe call callv) {fuel l : Nat} {args : List Value} {h : Heap} {r : Value × Heap} (hs : yldF E call fuel l args h = some r) : yldV E callv fuel l args h = some r := by
  unfold yldF at hs
  unfold yldV
  simp only [getR_eq] at hs
  split at hs
  · rename_i q hq
    rw [hq]
    simp only
    split at hs
    · cases hs
    · rename_i hl
      rw [if_neg hl]
      cases hc : (codeChk q.tmps.length q.assign && codeChk q.tmps.length q.body) with
      | false => rw [hc] at hs; cases hs
      | true =>
        rw [hc] at hs
        rw [Bool.and_eq_true] at hc
        simp only at hs
        split at hs
        · rename_i t1 h1 ha
          have hlen : (setAll (q.params.toList.zip args) q.tmps).length = q.tmps.length := setAll_len _ _
          have tb0 := TB.ofL (l := setAll (q.params.toList.zip args) q.tmps) (depth_fits q.tmps.length) (by rw [hlen]; exact Nat.le_refl _)
          rw [hlen, Nat.sub_self, List.replicate_zero, List.append_nil] at tb0
          obtain ⟨ta, h2, tba⟩ := code_le le _ _ _ _ _ _ _ hc.1 tb0 ha
          rw [h2]
          simp only
          split at hs
          · rename_i r1 hr1
            rw [hr1]
            simp only
            split at hs
            · rename_i hst
              rw [if_pos hst]
              split at hs
              · rename_i x t3 h3 hb
                obtain ⟨tb3, h4, _⟩ := code_le le _ _ _ _ _ _ _ hc.2 tba hb
                rw [setR_heap] at h4
                rw [h4]
                simp only
                split at hs
                · rename_i r3 hr3
                  rw [hr3]
                  cases hs
                  simp only [setR_heap]
                · cases hs
              · cases hs
            · cases hs
          · cases hs
        · cases hs
  · cases hs
end
theorem call_le (E : Env) : ∀ n, CallLe (callF E n) (callV E n) := by
  intro n
  induction n with
  | zero => exact ⟨fun f a h r hs => (by cases hs), fun l a h r hs => (by cases hs)⟩
  | succ n ih =>
    refine ⟨fun f a h r hs => ?_, fun l a h r hs => ?_⟩
    · have hs : (match E.ext f with | some g => g a h | none => match E.fn f with | some fn => fnF E (callF E n) n fn a h | none => none) = some r := hs
      rw [callV_fn]
      split at hs
      · rename_i g hg; rw [hg]; exact hs
      · rename_i hg
        rw [hg]
        split at hs
        · rename_i fn hf
          rw [hf]
          exact fn_le ih hs
        · cases hs
    · have hs : yldF E (callF E n) n l a h = some r := hs
      rw [callV_yld]
      exact yld_le ih hs
end Go.Vi
