/- Vi0: a deterministic interpreter over an abstract heap: its definitions. No program in sight. Vi1: the interpreter of code: regions whose order is drawn, control, calls. Viu: the entries of a map in an unknown order. Vi2: the relation between the abstract heap and a world; values. Vi3: operations that touch no memory, against the model. Vi4: operations that touch no memory, one by one, and all. Vi5: operations that touch no memory: addresses, parts, all of them. -/
import Derived.Orders
import Derived.Laws.Sem
import Derived.Laws.World
import Derived.Laws.Cells
import Derived.Laws.Tables
import Derived.LaidEql
import Derived.Laws.Strings2
namespace Go.Vi
inductive Trie (α : Type) where
  | leaf
  | node (l : Trie α) (v : Option α) (r : Trie α)
def bitsAt : Nat → Nat → List Bool
  | 0, _ => []
  | f + 1, n => if n = 0 then [] else (n % 2 == 1) :: bitsAt f (n / 2)
def bits (n : Nat) : List Bool := bitsAt n n
def Trie.get {α : Type} : Trie α → List Bool → Option α
  | .leaf, _ => none
  | .node _ v _, [] => v
  | .node l _ r, b :: p => match b with | true => r.get p | false => l.get p
def Trie.put {α : Type} (x : Option α) : List Bool → Trie α → Trie α
  | [], .leaf => .node .leaf x .leaf
  | [], .node l _ r => .node l x r
  | b :: p, .leaf => match b with | true => .node .leaf none (Trie.put x p .leaf) | false => .node (Trie.put x p .leaf) none .leaf
  | b :: p, .node l v r => match b with | true => .node l v (Trie.put x p r) | false => .node (Trie.put x p l) v r
structure Plan where
  heavy : List Nat
  lo : List Nat
  hi : List Nat
  deriving DecidableEq
structure LoopV where
  st : LoopState
  pending : Option Code
  tmps : List Value
  params : Array Tmp
  assign : Code
  body : Code
  plan : Nat → Option Plan
inductive Blk where
  | cells (cs : List Value) (wr : Bool) (opn : Option (Nat × Nat))
  | map (es : List MapEntry) (clock : Nat)
  | loop (r : LoopV)
  | sit (s : ByteArray) (pos : Nat)
  | mit (m : Option Nat) (since : Nat) (seen : List Nat) (last : Nat)
  | chan (cap : Nat) (buf : List Value)
  | umap (es : List MapEntry)
structure Heap where
  next : Nat
  tr : Trie Blk
def Heap.get (h : Heap) (b : Nat) : Option Blk := h.tr.get (bits b)
def Heap.set (h : Heap) (b : Nat) (o : Blk) : Heap := { h with tr := Trie.put (some o) (bits b) h.tr }
def Heap.kill (h : Heap) (b : Nat) : Heap := { h with tr := Trie.put none (bits b) h.tr }
def Heap.new (h : Heap) (o : Blk) : Heap := { next := h.next + 1, tr := Trie.put (some o) (bits h.next) h.tr }
structure Ty where
  under : TypeDesc
  agg : Bool
  size : Nat
  bytes : Nat
  zero : Option Value
  eqg : Bool
  held : Bool
  cmp : Bool
  places : Option (List (Nat × Nat))
  /-- a struct whose first field points to such a struct: its blocks bear their type. -/
  tag : Bool := false
structure Fun where
  fn : Func
  body : Code
  plan : Nat → Option Plan
structure Env where
  ty : TypeId → Option Ty
  fn : FuncId → Option Fun
  meth : TypeId → String → Option FuncId
  ext : FuncId → Option (List Value → Heap → Option (Value × Heap))
  row : FuncId → Option (List Value → Heap → Option (Value × Heap))
def cellsOf : Value → List Value
  | .agg cs => cs.toList
  | v => [v]
def aggOf (l : List Value) : Value := .agg ⟨l⟩
def ofCells (agg : Bool) (l : List Value) : Option Value :=
  if agg then some (aggOf l) else match l with | [v] => some v | _ => none
def strL (s : ByteArray) : List UInt8 := s.data.toList
def strOf (l : List UInt8) : ByteArray := ⟨⟨l⟩⟩
def byteV (b : UInt8) : Value := .int .u8 b.toNat
def unbyte : Value → Option UInt8
  | .int .u8 n => some (UInt8.ofNat n.toNat)
  | _ => none
def unbytes : List Value → Option (List UInt8)
  | [] => some []
  | v :: r => match unbyte v, unbytes r with | some b, some l => some (b :: l) | _, _ => none
mutual
def veq : Nat → Value → Value → Bool
  | 0, _, _ => false
  | n + 1, x, y => match x, y with
    | .bool a, .bool b => a == b
    | .int j a, .int k b => j == k && a == b
    | .string a, .string b => strL a == strL b
    | .pointer a, .pointer b => a == b
    | .slice a l c, .slice b m d => a == b && l == m && c == d
    | .map a, .map b => a == b
    | .chan a, .chan b => a == b
    | .func f x1 y1, .func g x2 y2 => f == g && veqs n x1.toList x2.toList && veqs n y1.toList y2.toList
    | .nilFunc, .nilFunc => true
    | .iface t v, .iface u w => t == u && veq n v w
    | .nilIface, .nilIface => true
    | .agg a, .agg b => veqs n a.toList b.toList
    | .tuple a, .tuple b => veqs n a.toList b.toList
    | _, _ => false
def veqs : Nat → List Value → List Value → Bool
  | 0, _, _ => false
  | n + 1, l, m => match l, m with
    | [], [] => true
    | x :: r, y :: s => veq n x y && veqs n r s
    | _, _ => false
end
def plainB : Nat → Value → Bool
  | 0, _ => false
  | n + 1, v => match v with
    | .bool _ | .int _ _ | .string _ | .pointer none | .map none | .chan none | .nilFunc | .nilIface => true
    | .slice none 0 0 => true
    | .iface _ v => plainB n v
    | .agg l => l.toList.all (plainB n)
    | .tuple l => l.toList.all (plainB n)
    | .func (.func _) l c => l.toList.isEmpty && c.toList.isEmpty
    | _ => false
def okOperand : Operand → Bool
  | .const v => plainB 100 v
  | .global _ => false
  | _ => true
def rdN (h : Heap) (a : Addr) (n : Nat) : Option (List Value) :=
  match a.spot, h.get a.block with
  | none, some (.cells cs _ _) => if a.off + n ≤ cs.length then some ((cs.drop a.off).take n) else none
  | _, _ => none
def rdE (h : Heap) (a : Addr) (n : Nat) : Option (List Value) := if a.spot.isSome && n == 0 then some [] else rdN h a n
def splice (cs : List Value) (off : Nat) (l : List Value) : List Value := cs.take off ++ l ++ cs.drop (off + l.length)
def wrN (h : Heap) (a : Addr) (l : List Value) : Option Heap :=
  match a.spot, h.get a.block with
  | none, some (.cells cs true o) => if a.off + l.length ≤ cs.length then some (h.set a.block (.cells (splice cs a.off l) true o)) else none
  | _, _ => none
def oneCell (v : Value) : Bool := match v with | .agg _ => false | .tuple _ => false | _ => true
def ptrOf : Value → Option Addr
  | .pointer (some a) => if a.spot.isNone then some a else none
  | _ => none
def loadV (E : Env) (t : TypeId) (p : Value) (h : Heap) : Option Value := do
  let i ← E.ty t
  let a ← ptrOf p
  let l ← rdN h a i.size
  if i.agg then some (aggOf l) else if i.size = 1 then ofCells false l else none
def storeV (E : Env) (t : TypeId) (p v : Value) (h : Heap) : Option Heap := do
  let i ← E.ty t
  let a ← ptrOf p
  let l := cellsOf v
  if l.length = i.size ∧ l.all oneCell then wrN h a l else none
def fillV (place : Nat → Option (Nat × Nat)) : List Value → List (Nat × Value) → Option (List Value)
  | cs, [] => some cs
  | cs, (i, v) :: r =>
    match place i with
    | none => none
    | some (off, size) =>
      let l := cellsOf v
      if l.length = size ∧ off + size ≤ cs.length then fillV place (splice cs off l) r else none
def partsV (ev : Operand → Value) (ps : Array (Nat × Operand)) : List (Nat × Value) := ps.toList.map fun (i, x) => (i, ev x)
def rep (n : Nat) (l : List Value) : List Value := (List.replicate n l).flatten
def zeros (i : Ty) (n : Nat) : Option (List Value) := do
  let z ← i.zero
  if (cellsOf z).length = i.size then some (rep n (cellsOf z)) else none
def partV (i : Ty) (cs : List Value) (off : Nat) : Option Value :=
  if i.agg then if off + i.size ≤ cs.length then some (aggOf ((cs.drop off).take i.size)) else none else cs[off]?
def eqFields (E : Env) (eq : TypeId → Value → Value → Option Bool) (xs ys : List Value) : List Field → Option Bool
  | [] => some true
  | f :: r =>
    if f.name = "_" then eqFields E eq xs ys r else do
    let i ← E.ty f.type
    let x ← partV i xs f.offset
    let y ← partV i ys f.offset
    match eq f.type x y with
    | some true => eqFields E eq xs ys r
    | some false => some false
    | none => none
def eqElems (i : Ty) (eq : Value → Value → Option Bool) (xs ys : List Value) : Nat → Nat → Option Bool
  | 0, _ => some true
  | n + 1, k => do
    let x ← partV i xs (k * i.size)
    let y ← partV i ys (k * i.size)
    match eq x y with
    | some true => eqElems i eq xs ys n (k + 1)
    | some false => some false
    | none => none
def eqV (E : Env) : Nat → TypeId → Value → Value → Option Bool
  | 0, _, _, _ => none
  | d + 1, t, x, y => do
    let i ← E.ty t
    match i.under, x, y with
    | .bool, .bool a, .bool b => some (a == b)
    | .int _, .int k a, .int k' b => if k = k' then some (a == b) else none
    | .string, .string a, .string b => some (strL a == strL b)
    | .pointer _, .pointer none, .pointer b => some b.isNone
    | .pointer _, .pointer (some _), .pointer none => some false
    | .pointer e, .pointer (some a), .pointer (some b) => do
      let _ ← E.ty e
      if a = b then some true else none
    | .interface _, .nilIface, .nilIface => some true
    | .interface _, .nilIface, .iface _ _ => some false
    | .interface _, .iface _ _, .nilIface => some false
    | .slice _, .slice none _ _, .slice b _ _ => some b.isNone
    | .slice _, .slice (some _) _ _, .slice none _ _ => some false
    | .map _ _, .map none, .map b => some b.isNone
    | .map _ _, .map (some _), .map none => some false
    | .func _ _ _, .nilFunc, .nilFunc => some true
    | .func _ _ _, .nilFunc, .func _ _ _ => some false
    | .func _ _ _, .func _ _ _, .nilFunc => some false
    | .struct fs, .agg xs, .agg ys => if i.held then none else eqFields E (eqV E d) xs.toList ys.toList fs.toList
    | .array n e, .agg xs, .agg ys => do
      let j ← E.ty e
      eqElems j (eqV E d e) xs.toList ys.toList n 0
    | .interface _, .iface tx vx, .iface ty vy =>
      if tx ≠ ty then some false else do
      let j ← E.ty tx
      if j.cmp then eqV E d tx vx vy else none
    | _, _, _ => none
def cmpV (op : BinOp) (x y : Int) : Option Value :=
  match op with
  | .eql => some (.bool (x == y))
  | .neq => some (.bool (x != y))
  | .lss => some (.bool (decide (x < y)))
  | .leq => some (.bool (decide (x ≤ y)))
  | .gtr => some (.bool (decide (x > y)))
  | .geq => some (.bool (decide (x ≥ y)))
  | _ => none
def strV (op : BinOp) (x y : ByteArray) : Option Value :=
  let eq := strL x == strL y
  let lt := Op.bytesLess (strL x) (strL y)
  match op with
  | .add => if x.size + y.size ≤ 2 ^ 62 then some (.string (strOf (strL x ++ strL y))) else none
  | .eql => some (.bool eq)
  | .neq => some (.bool !eq)
  | .lss => some (.bool lt)
  | .leq => some (.bool (lt || eq))
  | .gtr => some (.bool !(lt || eq))
  | .geq => some (.bool !lt)
  | _ => none
def bitV (op : BinOp) (k : IntKind) (x y : Int) : Option Value :=
  let a := BitVec.ofInt k.bits x
  let b := BitVec.ofInt k.bits y
  match op with
  | .and => some (.int k (k.wrap (a &&& b).toNat))
  | .or => some (.int k (k.wrap (a ||| b).toNat))
  | .xor => some (.int k (k.wrap (a ^^^ b).toNat))
  | .andNot => some (.int k (k.wrap (a &&& ~~~b).toNat))
  | _ => none
def arithV (op : BinOp) (k : IntKind) (x y : Int) : Option Value :=
  match op with
  | .add => some (.int k (k.wrap (x + y)))
  | .sub => some (.int k (k.wrap (x - y)))
  | .mul => some (.int k (k.wrap (x * y)))
  | .quo => if y = 0 then none else some (.int k (k.wrap (x.tdiv y)))
  | .rem => if y = 0 then none else some (.int k (x.tmod y))
  | .shl => if y < 0 then none else some (.int k (k.wrap (x * 2 ^ (min y.toNat k.bits))))
  | .shr => if y < 0 then none else some (.int k (x.fdiv (2 ^ (min y.toNat k.bits))))
  | .and | .or | .xor | .andNot => bitV op k x y
  | _ => cmpV op x y
def isNilIface : Value → Bool
  | .nilIface => true
  | _ => false
def isAggV : Value → Bool
  | .agg _ => true
  | _ => false
def binV (E : Env) (op : BinOp) (t : TypeId) (cst : Bool) (x y : Value) : Option Value :=
  match x, y with
  | .int k a, .int k' b =>
    if k = k' then arithV op k a b else
    match op with
    | .shl | .shr => arithV op k a b
    | _ => none
  | .string a, .string b => strV op a b
  | x, y =>
    if (isNilIface x && isNilIface y && !cst) || (isAggV x && isAggV y && ((E.ty t).map (·.eqg)).getD true) then none else
    match op with
    | .eql => (eqV E 10000 t x y).map .bool
    | .neq => (eqV E 10000 t x y).map fun b => .bool !b
    | _ => none
def unV (op : UnOp) (x : Value) : Option Value :=
  match op, x with
  | .neg, .int k n => arithV .sub k 0 n
  | .xor, .int k n => bitV .xor k (if k.signed then -1 else k.max) n
  | .not, .bool b => some (.bool !b)
  | _, _ => none
def intOf : Value → Option Int
  | .int _ n => some n
  | _ => none
def boundV (x : Value) (y : Nat) : Option Nat := do
  let i ← intOf x
  if 0 ≤ i ∧ i ≤ y then some i.toNat else none
def mxB (max : Option Value) (cap : Nat) : Option Nat :=
  match max with
  | some v => boundV v cap
  | none => some cap
def hiB (high max : Option Value) (m len : Nat) : Option Nat :=
  match high with
  | some v => boundV v m
  | none => if max.isSome then none else some len
def loB (low : Option Value) (h : Nat) : Option Nat :=
  match low with
  | some v => boundV v h
  | none => some 0
def boundsV (len cap : Nat) (low high max : Option Value) : Option (Nat × Nat × Nat) :=
  (mxB max cap).bind fun m => (hiB high max m len).bind fun h => (loB low h).bind fun l => some (l, h, m)
def sliceV (E : Env) (t : TypeId) (x : Value) (low high max : Option Value) : Option Value := do
  let i ← E.ty t
  match i.under, x with
  | .string, .string s =>
    if max.isSome then none else do
    let (l, h, _) ← boundsV s.size s.size low high none
    some (.string (strOf (((strL s).drop l).take (h - l))))
  | _, _ => none
def fieldAddrV (E : Env) (s : TypeId) (x : Value) (f : Nat) : Option Value := do
  let i ← E.ty s
  match i.under, x with
  | .struct fs, .pointer (some a) => do
    let f ← fs[f]?
    let e ← E.ty f.type
    if e.size = 0 then none else some (.pointer (some (a.add f.offset)))
  | _, _ => none
def indexAddrV (E : Env) (t : TypeId) (x ix : Value) : Option Value := do
  let i ← E.ty t
  let n ← intOf ix
  match i.under, x with
  | .array len elem, .pointer (some a) => do
    let e ← E.ty elem
    if 0 ≤ n ∧ n < len ∧ e.size ≠ 0 then some (.pointer (some (a.add (n.toNat * e.size)))) else none
  | .slice elem, .slice (some a) len _ => do
    let e ← E.ty elem
    if 0 ≤ n ∧ n < len ∧ e.size ≠ 0 then some (.pointer (some (a.add (n.toNat * e.size)))) else none
  | _, _ => none
def indexV (E : Env) (t : TypeId) (x ix : Value) : Option Value := do
  let i ← E.ty t
  let n ← intOf ix
  match i.under, x with
  | .array len elem, .agg cs => do
    let e ← E.ty elem
    if 0 ≤ n ∧ n < len then partV e cs.toList (n.toNat * e.size) else none
  | .string, .string s => if 0 ≤ n then ((strL s)[n.toNat]?).map byteV else none
  | _, _ => none
def fieldV (E : Env) (t : TypeId) (x : Value) (f : Nat) : Option Value := do
  let i ← E.ty t
  match i.under, x with
  | .struct fs, .agg cs => do
    let f ← fs[f]?
    let e ← E.ty f.type
    partV e cs.toList f.offset
  | _, _ => none
def buildV (E : Env) (t : TypeId) (parts : List (Nat × Value)) : Option Value := do
  let i ← E.ty t
  let z ← i.zero
  match i.under with
  | .struct _ => do
    let pl ← i.places
    (fillV (fun i => pl[i]?) (cellsOf z) parts).map aggOf
  | .array _ elem => do
    let e ← E.ty elem
    (fillV (fun i => some (i * e.size, e.size)) (cellsOf z) parts).map aggOf
  | _ => none
def convV (E : Env) (s d : TypeId) (x : Value) : Option Value := do
  let i ← E.ty s
  let j ← E.ty d
  match i.under, j.under, x with
  | .int _, .int k, .int _ n => some (.int k (k.wrap n))
  | .string, .string, .string s => some (.string s)
  | _, _, _ => none
def assertV (E : Env) (x : Value) (asserted : TypeId) (ok : Bool) : Option Value := do
  let i ← E.ty asserted
  match i.under, x with
  | .interface _, _ => none
  | _, .nilIface => if ok then i.zero.map fun z => .tuple #[z, .bool false] else none
  | _, .iface t v =>
    if t = asserted then some (if ok then .tuple #[v, .bool true] else v)
    else if ok then i.zero.map fun z => .tuple #[z, .bool false] else none
  | _, _ => none
def isIface (d : TypeDesc) : Bool := match d with | .interface _ => true | _ => false
def mnV : Value → List Value → Option Value
  | .int k x, [] => some (.int k x)
  | .int k x, .int k' y :: r => if k = k' then mnV (.int k (if y < x then y else x)) r else none
  | _, _ => none
def mxV : Value → List Value → Option Value
  | .int k x, [] => some (.int k x)
  | .int k x, .int k' y :: r => if k = k' then mxV (.int k (if y > x then y else x)) r else none
  | _, _ => none
def isConstO : Operand → Bool
  | .const _ => true
  | _ => false
def pureV (E : Env) (ev : Operand → Value) (o : Oper) : Option Value :=
  match o.op with
  | .move x | .assign x => some (ev x)
  | .pick c a b => match ev c with | .bool t => some (if t then ev a else ev b) | _ => none
  | .build t ps => buildV E t (partsV ev ps)
  | .nilCheck x => match ev x with
    | .pointer (some a) => some (.pointer (some a))
    | .iface t v => some (.iface t v)
    | .func (.func f) a c => some (.func (.func f) a c)
    | _ => none
  | .binOp op t x y _ => binV E op t (isConstO x || isConstO y) (ev x) (ev y)
  | .unOp op _ x => unV op (ev x)
  | .convert s d x => if s = d then none else convV E s d (ev x)
  | .makeInterface t x => do
    let i ← E.ty t
    if isIface i.under then none else some (.iface t (ev x))
  | .makeFunc (.func f) first captured => some (.func (.func f) (first.map ev) (captured.map ev))
  | .slice t x lo hi mx => sliceV E t (ev x) (lo.map ev) (hi.map ev) (mx.map ev)
  | .fieldAddr s x f => fieldAddrV E s (ev x) f
  | .field t x f => fieldV E t (ev x) f
  | .indexAddr t x ix => indexAddrV E t (ev x) (ev ix)
  | .index t x ix => indexV E t (ev x) (ev ix)
  | .typeAssert x _ asserted ok => assertV E (ev x) asserted ok
  | .extract t ix => match ev t with | .tuple vs => vs[ix]? | _ => none
  | .call c => match c.callee with
    | .builtin .len => match c.argTypes[0]?, c.args[0]? with
      | some t, some x => do
        let i ← E.ty t
        match i.under, ev x with
        | .string, .string s => some (.int .i64 s.size)
        | .array n _, _ => some (.int .i64 n)
        | .slice _, .slice _ n _ => some (.int .i64 n)
        | .map _ _, .map none => some (.int .i64 0)
        | _, _ => none
      | _, _ => none
    | .builtin .min => match (c.args.map ev).toList with | x :: r => mnV x r | [] => none
    | .builtin .max => match (c.args.map ev).toList with | x :: r => mxV x r | [] => none
    | _ => none
  | _ => none
def keyEq : Value → Value → Option Bool
  | .int k a, .int k' b => if k = k' then some (a == b) else none
  | .string a, .string b => some (strL a == strL b)
  | _, _ => none
def findV (k : Value) : List MapEntry → Nat → Option (Option (Nat × Value))
  | [], _ => some none
  | e :: es, i =>
    match keyEq k e.key with
    | some true => some (some (i, e.val))
    | some false => findV k es (i + 1)
    | none => none
def plainKey : TypeDesc → Value → Bool
  | .int _, .int _ _ => true
  | .string, .string _ => true
  | _, _ => false
def mapOf (h : Heap) : Value → Option (List MapEntry × Nat)
  | .map (some r) => match h.get r with | some (.map es c) => some (es, c) | _ => none
  | _ => none
def umapOf (h : Heap) : Value → Option (List MapEntry)
  | .map (some r) => match h.get r with | some (.umap es) => some es | _ => none
  | _ => none
def allOf (h : Heap) (x : Value) : Option (List MapEntry) := match mapOf h x with
  | some (es, _) => some es
  | none => umapOf h x
def entriesOf (h : Heap) (x : Value) : Option (List MapEntry) :=
  match x with
  | .map none => some []
  | x => allOf h x
def lookupV (E : Env) (t : TypeId) (x ix : Value) (ok : Bool) (h : Heap) : Option Value := do
  let i ← E.ty t
  match i.under with
  | .map key elem => do
    let k ← E.ty key
    let e ← E.ty elem
    if !plainKey k.under ix then none else do
    let es ← entriesOf h x
    match findV ix es 0 with
    | some (some (_, v)) => some (if ok then .tuple #[v, .bool true] else v)
    | some none => e.zero.map fun z => if ok then .tuple #[z, .bool false] else z
    | none => none
  | _ => none
def okSize (h : Heap) (b size : Nat) : Bool :=
  match h.get b with
  | some (.cells _ _ none) => true
  | some (.cells _ _ (some z)) => z.1 == size
  | _ => false
def closed (h : Heap) (b : Nat) : Bool :=
  match h.get b with
  | some (.cells _ _ none) => true
  | _ => false
def sliceS (E : Env) (t : TypeId) (x : Value) (low high max : Option Value) (h : Heap) : Option Value := do
  let i ← E.ty t
  match i.under, x with
  | .slice elem, .slice a len cap => do
    let e ← E.ty elem
    let (l, hi, m) ← boundsV len cap low high max
    if e.size = 0 then none else
    match a with
    | none => if m = l then some (.slice none (hi - l) (m - l)) else none
    | some a => if okSize h a.block e.size then some (.slice (some (if m = l then a else a.add (l * e.size))) (hi - l) (m - l)) else none
  | .array n elem, .pointer (some a) => do
    let e ← E.ty elem
    let (l, hi, m) ← boundsV n n low high max
    if e.size ≠ 0 ∧ closed h a.block then some (.slice (some (if m = l then a else a.add (l * e.size))) (hi - l) (m - l)) else none
  | .pointer arr, .pointer (some a) => do
    let j ← E.ty arr
    match j.under with
    | .array n elem => do
      let e ← E.ty elem
      let (l, hi, m) ← boundsV n n low high max
      if e.size ≠ 0 ∧ closed h a.block then some (.slice (some (if m = l then a else a.add (l * e.size))) (hi - l) (m - l)) else none
    | _ => none
  | _, _ => none
def chanLen (h : Heap) (x : Value) : Option Value :=
  match x with
  | .chan (some r) => match h.get r with
    | some (.chan _ buf) => some (.int .i64 buf.length)
    | _ => none
  | _ => none
def seenV (E : Env) (e : TypeId) (x : Value) (h : Heap) : Option Value :=
  match x with
  | .pointer (some ⟨b, 0, none⟩) => do
    let i ← E.ty e
    if i.tag then
      match h.get b with
      | some (.cells cs _ (some z)) => if z = (0, e) ∧ cs.length = i.size ∧ i.size ≠ 0 then some x else none
      | _ => none
    else none
  | _ => none
def sdataV : Value → Option Value
  | .slice none _ _ => some (.pointer none)
  | .slice (some ⟨b, o, none⟩) _ cap => if cap = 0 then none else some (.pointer (some ⟨b, o, none⟩))
  | _ => none
def ustrV (E : Env) (t : TypeId) (p n : Value) (h : Heap) : Option (Value × Heap) :=
  match p, n with
  | .pointer (some ⟨b, o, none⟩), .int .i64 (.ofNat n) => do
    let i ← E.ty t
    match i.under with
    | .pointer e => do
      let j ← E.ty e
      if n = 0 ∨ j.size ≠ 1 ∨ n > 2 ^ 40 then none else
      match h.get b with
      | some (.cells cs _ (some z)) =>
        if z = (1, e) then do
          let l ← rdN h ⟨b, o, none⟩ n
          let s ← unbytes l
          some (.string (strOf s), h.set b (.cells cs false (some z)))
        else none
      | _ => none
    | _ => none
  | _, _ => none
def readV (E : Env) (ev : Operand → Value) (h : Heap) (o : Oper) : Option Value :=
  match o.op with
  | .load t a => loadV E t (ev a) h
  | .convert s d x => if s = d then none else do
    let i ← E.ty s
    let j ← E.ty d
    match i.under, j.under with
    | .slice e, .string => do
      let e ← E.ty e
      match e.under with
      | .int .u8 => match ev x with
        | .slice none _ _ => some (.string .empty)
        | .slice (some a) len _ => do
          let l ← rdE h a len
          let b ← unbytes l
          some (.string (strOf b))
        | _ => none
      | _ => none
    | .pointer e, .unsafePointer => seenV E e (ev x) h
    | .unsafePointer, .pointer e => seenV E e (ev x) h
    | _, _ => none
  | .slice t x lo hi mx => sliceS E t (ev x) (lo.map ev) (hi.map ev) (mx.map ev) h
  | .lookup t x ix ok => lookupV E t (ev x) (ev ix) ok h
  | .call c => match c.callee with
    | .builtin .len => match c.argTypes[0]?, c.args[0]? with
      | some t, some x => do
        let i ← E.ty t
        match i.under with
        | .map _ _ => do
          let es ← allOf h (ev x)
          some (.int .i64 es.length)
        | .chan _ _ => chanLen h (ev x)
        | _ => none
      | _, _ => none
    | .builtin .cap => match c.argTypes[0]?, c.args[0]? with
      | some t, some x => do
        let i ← E.ty t
        match i.under, ev x with
        | .slice _, .slice none _ cap => some (.int .i64 cap)
        | .slice _, .slice (some a) _ cap => match h.get a.block with
          | some (.cells _ _ none) => some (.int .i64 cap)
          | _ => none
        | _, _ => none
      | _, _ => none
    | _ => none
  | _ => none
inductive Mk where
  | ptr
  | slice (len cap : Nat)
  | map
def Mk.val (m : Mk) (id : Nat) : Value :=
  match m with
  | .ptr => .pointer (some ⟨id, 0, none⟩)
  | .slice l c => .slice (some ⟨id, 0, none⟩) l c
  | .map => .map (some id)
def tagOf (b : Bool) (t : Nat) : Option (Nat × Nat) := match b with | true => some (0, t) | false => none
def newV (E : Env) (ev : Operand → Value) (o : Oper) : Option (Blk × Mk) :=
  match o.op with
  | .alloc t => do
    let i ← E.ty t
    let z ← i.zero
    some (.cells (cellsOf z) true (tagOf i.tag t), .ptr)
  | .box _ x => some (.cells (cellsOf (ev x)) true none, .ptr)
  | .buildSlice t len ps => do
    let i ← E.ty t
    match i.under with
    | .slice elem => do
      let e ← E.ty elem
      if len * e.size > 2 ^ 24 then none else do
      let z ← zeros e len
      let cs ← fillV (fun i => some (i * e.size, e.size)) z (partsV ev ps)
      some (.cells cs true none, .slice len len)
    | _ => none
  | .makeSlice t l c => do
    let i ← E.ty t
    match i.under with
    | .slice elem => do
      let e ← E.ty elem
      let l ← intOf (ev l)
      let c ← intOf (ev c)
      if 0 ≤ l ∧ l ≤ c ∧ c < 2 ^ 62 ∧ e.bytes * c ≤ 2 ^ 48 then do
        let z ← zeros e c.toNat
        some (.cells z true none, .slice l.toNat c.toNat)
      else none
    | _ => none
  | .makeMap t r => match r.map ev with
    | none => some (.map [] 0, .map)
    | some (.int _ _) => do
      let i ← E.ty t
      match i.under with
      | .map _ _ => some (.map [] 0, .map)
      | _ => none
    | _ => none
  | .convert s d x => if s = d then none else do
    let i ← E.ty s
    let j ← E.ty d
    match i.under, j.under, ev x with
    | .string, .slice el, .string s => do
      let e ← E.ty el
      match e.under with
      | .int .u8 => some (.cells ((strL s).map byteV) true (some (1, el)), .slice s.size s.size)
      | _ => none
    | _, _, _ => none
  | _ => none
def setEntry (es : List MapEntry) (i : Nat) (k v : Value) : List MapEntry :=
  match es, i with
  | [], _ => []
  | e :: r, 0 => { e with key := k, val := v } :: r
  | e :: r, i + 1 => e :: setEntry r i k v
def dropEntry (es : List MapEntry) (i : Nat) : List MapEntry := es.eraseIdx i
def mapPutV (E : Env) (t : TypeId) (m k v : Value) (h : Heap) : Option Heap := do
  let i ← E.ty t
  match i.under, m with
  | .map key _, .map (some r) => do
    let ki ← E.ty key
    if !plainKey ki.under k then none else
    match mapOf h m with
    | some (es, c) => match findV k es 0 with
      | some (some (j, _)) => some (h.set r (.map (setEntry es j k v) c))
      | some none => some (h.set r (.map (es ++ [{ key := k, val := v, born := c }]) (c + 1)))
      | none => none
    | none => match umapOf h m with
      | some es => match findV k es 0 with
        | some (some (j, _)) => some (h.set r (.umap (setEntry es j k v)))
        | some none => some (h.set r (.umap (es ++ [{ key := k, val := v, born := 0 }])))
        | none => none
      | none => none
  | _, _ => none
def mapEntryV (E : Env) (t : TypeId) (m k : Value) (h : Heap) : Option (Value × Heap) := do
  let i ← E.ty t
  match i.under, m with
  | .map key elem, .map (some r) => do
    let ki ← E.ty key
    let e ← E.ty elem
    let (es, c) ← mapOf h m
    if !plainKey ki.under k then none else
    match findV k es 0 with
    | some (some (j, v)) => do
      let x ← es[j]?
      some (.tuple #[v, .int .i64 x.born], h.set r (.map (setEntry es j k v) c))
    | some none => do
      let z ← e.zero
      some (.tuple #[z, .int .i64 c], h.set r (.map (es ++ [{ key := k, val := z, born := c }]) (c + 1)))
    | none => none
  | _, _ => none
def stampAt (n : Int) : List MapEntry → Nat → Option Nat
  | [], _ => none
  | e :: r, i => if (e.born : Int) == n then some i else stampAt n r (i + 1)
def entryStoreV (m stamp v : Value) (h : Heap) : Option Heap := do
  match m with
  | .map (some r) => do
    let (es, c) ← mapOf h m
    let n ← intOf stamp
    let i ← stampAt n es 0
    let e ← es[i]?
    some (h.set r (.map (setEntry es i e.key v) c))
  | _ => none
def srcV (size : Nat) (x : Value) (h : Heap) : Option (Nat × List Value) :=
  match x with
  | .slice none _ _ => some (0, [])
  | .slice (some a) n _ => if n = 0 then some (0, []) else (rdN h a (n * size)).map fun l => (n, l)
  | .string s => some (s.size, (strL s).map byteV)
  | _ => none
def okSrc (E : Env) (xt : Option TypeId) : Option Bool :=
  match xt with
  | some u => (E.ty u).map fun j => match j.under with | .int _ => false | _ => true
  | none => some true
def zsrcV (e : Ty) (x : Value) : Option (Nat × List Value) :=
  match x with
  | .int _ n => if 0 ≤ n ∧ n < 2 ^ 36 ∧ n.toNat * e.bytes ≤ 2 ^ 36 then (zeros e n.toNat).map fun l => (n.toNat, l) else none
  | _ => none
def srcA (okx : Bool) (e : Ty) (x : Value) (h : Heap) : Option (Nat × List Value) := if okx then srcV e.size x h else zsrcV e x
def appendV (E : Env) (t : TypeId) (xt : Option TypeId) (s x : Value) (h : Heap) : Option (Value × Heap) := do
  let i ← E.ty t
  match i.under, s with
  | .slice elem, .slice base len cap => do
    let e ← E.ty elem
    let okx ← okSrc E xt
    let (n, new) ← srcA okx e x h
    if e.size = 0 || new.length ≠ n * e.size || !new.all oneCell then none else
    if len + n ≤ cap then
      if n = 0 then some (s, h) else
      match base with
      | some a => do
        let h' ← wrN h (a.add (len * e.size)) new
        some (.slice base (len + n) cap, h')
      | none => none
    else if (len + n) * e.bytes > 2 ^ 36 ∨ len + n > 2 ^ 36 ∨ (e.zero.map fun z => (cellsOf z).length) ≠ some e.size then none else
    match base with
    | none => if len = 0 then some (.slice (some ⟨h.next, 0, none⟩) n n, h.new (.cells new true (some (e.size, elem)))) else none
    | some a =>
      match a.spot, h.get a.block with
      | none, some (.cells cs wr o) =>
        if a.off + len * e.size ≤ cs.length then
          let old := (cs.drop a.off).take (len * e.size)
          let h' := h.new (.cells (old ++ new) true (some (e.size, elem)))
          match o with
          | none => some (.slice (some ⟨h.next, 0, none⟩) (len + n) (len + n), h')
          | some z => if z = (e.size, elem) ∧ wr then some (.slice (some ⟨h.next, 0, none⟩) (len + n) (len + n), h'.kill a.block) else none
        else none
      | _, _ => none
  | _, _ => none
def copyV (E : Env) (t : TypeId) (d x : Value) (h : Heap) : Option (Value × Heap) := do
  let i ← E.ty t
  match i.under, d with
  | .slice elem, .slice base dlen _ => do
    let e ← E.ty elem
    let (n, l) ← srcV e.size x h
    if e.size = 0 || l.length ≠ n * e.size || !l.all oneCell then none else
    let k := min n dlen
    if k = 0 then some (.int .i64 0, h) else
    match base with
    | some a => do
      let h' ← wrN h a (l.take (k * e.size))
      some (.int .i64 k, h')
    | none => none
  | _, _ => none
def clearV (E : Env) (t : TypeId) (x : Value) (h : Heap) : Option Heap := do
  let i ← E.ty t
  match i.under, x with
  | .slice _, .slice _ 0 _ => some h
  | .slice elem, .slice (some a) n _ => do
    let e ← E.ty elem
    let z ← zeros e n
    if z.all oneCell then wrN h a z else none
  | _, _ => none
def deleteV (E : Env) (t : TypeId) (m k : Value) (h : Heap) : Option Heap := do
  let i ← E.ty t
  match i.under, m with
  | .map key _, .map none => do
    let ki ← E.ty key
    if plainKey ki.under k then some h else none
  | .map key _, .map (some r) => do
    let ki ← E.ty key
    if !plainKey ki.under k then none else
    match mapOf h m with
    | some (es, c) => match findV k es 0 with
      | some (some (j, _)) => some (h.set r (.map (dropEntry es j) c))
      | some none => some (h.set r (.map es c))
      | none => none
    | none => match umapOf h m with
      | some es => match findV k es 0 with
        | some (some (j, _)) => some (h.set r (.umap (dropEntry es j)))
        | some none => some (h.set r (.umap es))
        | none => none
      | none => none
  | _, _ => none
def entryV (it : Value) (h : Heap) : Option (Value × Heap) :=
  match it with
  | .pointer (some ⟨r, 0, none⟩) =>
    match h.get r with
    | some (.mit (some m) _ seen stepped) =>
      match seen.getLast?, h.get m with
      | some stamp, some (.map es clock) =>
        if clock ≠ stepped then none else (es.find? fun e => e.born == stamp).map fun e => (.tuple #[e.key, e.val], h)
      | _, _ => none
    | _ => none
  | _ => none
def makeChanV (E : Env) (t : TypeId) (x : Value) (h : Heap) : Option (Value × Heap) := do
  let i ← E.ty t
  match i.under, x with
  | .chan _ elem, .int _ n => do
    let e ← E.ty elem
    if 0 ≤ n ∧ n ≤ 2 ^ 20 ∧ (e.bytes : Int) * n ≤ 2 ^ 40 then some (.chan (some h.next), h.new (.chan n.toNat [])) else none
  | _, _ => none
def selV (E : Env) (ev : Operand → Value) (h : Heap) (cs : Array SelectCase) (blocking : Bool) : Option (Value × Heap) :=
  match cs.toList, blocking with
  | [c], false => do
    let i ← E.ty c.elem
    let z ← i.zero
    match ev c.chan with
    | .chan (some r) => match h.get r with
      | some (.chan cap buf) => match c.send with
        | some x => if buf.length < cap then some (.tuple #[.int .i64 0, .bool false], h.set r (.chan cap (buf ++ [ev x]))) else some (.tuple #[.int .i64 (-1), .bool false], h)
        | none => match buf with
          | v :: r' => some (.tuple #[.int .i64 0, .bool true, v], h.set r (.chan cap r'))
          | [] => some (.tuple #[.int .i64 (-1), .bool false, z], h)
      | _ => none
    | _ => none
  | _, _ => none
structure CallV where
  fn : FuncId → List Value → Heap → Option (Value × Heap)
  yld : Nat → List Value → Heap → Option (Value × Heap)
instance : CoeFun CallV (fun _ => FuncId → List Value → Heap → Option (Value × Heap)) := ⟨CallV.fn⟩
def sameV (E : Env) (s : TypeId) (x : Value) (h : Heap) : Option (Value × Heap) := do
  let i ← E.ty s
  match i.under, x with
  | .int k, .int _ n => some (.int k (k.wrap n), h)
  | .string, .string b => some (.string b, h)
  | .slice e, .slice (some a) l c => do
    let e ← E.ty e
    match e.under, a.spot, h.get a.block with
    | .int .u8, none, some (.cells cs wr o) => if (wr || o.isSome) = true then some (.slice (some a) l c, h.set a.block (.cells cs false o)) else none
    | _, _, _ => none
  | _, _ => none
def rangeV (E : Env) (t : TypeId) (x : Value) (h : Heap) : Option (Value × Heap) := do
  let i ← E.ty t
  match i.under, x with
  | .string, .string s => some (.pointer (some ⟨h.next, 0, none⟩), h.new (.sit s 0))
  | .map _ _, .map none => some (.pointer (some ⟨h.next, 0, none⟩), h.new (.mit none 0 [] 0))
  | .map _ _, .map (some m) => do
    let (_, c) ← mapOf h (.map (some m))
    some (.pointer (some ⟨h.next, 0, none⟩), h.new (.mit (some m) c [] c))
  | _, _ => none
def leftOf (es : List MapEntry) (seen : List Nat) : List MapEntry := es.filter fun e => !seen.contains e.born
def oldOf (es : List MapEntry) (since : Nat) : List MapEntry := es.filter fun e => decide (e.born < since)
def newOf (es : List MapEntry) (since : Nat) : List MapEntry := es.filter fun e => decide (e.born ≥ since)
def candsOf (es : List MapEntry) (since : Nat) (seen : List Nat) : List (Option MapEntry) :=
  (if (oldOf (leftOf es seen) since).isEmpty then [none] else []) ++ (oldOf (leftOf es seen) since ++ newOf (leftOf es seen) since).map some
def nextV (it : Value) (isS : Bool) (h : Heap) : Option (Value × Heap) :=
  match it with
  | .pointer (some ⟨r, 0, none⟩) =>
    match h.get r, isS with
    | some (.sit s pos), true =>
      if pos < s.size then
        some (.tuple #[.bool true, .int .i64 pos, .int .i32 (Utf8.decode s pos).1], h.set r (.sit s (pos + (Utf8.decode s pos).2)))
      else some (.tuple #[.bool false], h)
    | some (.mit none _ _ _), false => some (.tuple #[.bool false], h)
    | some (.mit (some m) since seen last), false =>
      match h.get m with
      | some (.map es clock) =>
        if !seen.isEmpty && !es.isEmpty && es.all (fun e => decide (e.born ≥ last)) then none else
        match candsOf es since seen with
        | [some e] => some (.tuple #[.bool true, e.key, e.val], h.set r (.mit (some m) since (seen ++ [e.born]) clock))
        | [none] => some (.tuple #[.bool false], h)
        | _ => none
      | _ => none
    | _, _ => none
  | _ => none
def heavyV (E : Env) (call : CallV) (ev : Operand → Value) (h : Heap) (o : Oper) : Option (Value × Heap) :=
  match o.op with
  | .store t a x => (storeV E t (ev a) (ev x) h).map fun h => (undef, h)
  | .mapUpdate t m k x | .insert t m k x => (mapPutV E t (ev m) (ev k) (ev x) h).map fun h => (undef, h)
  | .mapEntry t m k => mapEntryV E t (ev m) (ev k) h
  | .entryStore _ m s x => (entryStoreV (ev m) (ev s) (ev x) h).map fun h => (undef, h)
  | .convert s d x => if s = d then sameV E s (ev x) h else none
  | .range t x => rangeV E t (ev x) h
  | .next it isS => nextV (ev it) isS h
  | .entry it => entryV (ev it) h
  | .makeChan t x => makeChanV E t (ev x) h
  | .select cs bl => selV E ev h cs bl
  | .call c => match c.callee with
    | .builtin .append => match c.args[0]?, c.args[1]?, c.argTypes[0]? with
      | some s, some x, some t => appendV E t (c.argTypes[1]?) (ev s) (ev x) h
      | _, _, _ => none
    | .builtin .copy => match c.args[0]?, c.args[1]?, c.argTypes[0]? with
      | some s, some x, some t => copyV E t (ev s) (ev x) h
      | _, _, _ => none
    | .builtin .clear => match c.args[0]?, c.argTypes[0]? with
      | some x, some t => (clearV E t (ev x) h).map fun h => (.tuple #[], h)
      | _, _ => none
    | .builtin .delete => match c.args[0]?, c.args[1]?, c.argTypes[0]? with
      | some m, some k, some t => (deleteV E t (ev m) (ev k) h).map fun h => (.tuple #[], h)
      | _, _, _ => none
    | .builtin .unsafeSliceData => match c.args.toList with
      | [x] => (sdataV (ev x)).map fun v => (v, h)
      | _ => none
    | .builtin .unsafeString => match c.args.toList, c.argTypes[0]? with
      | [x, n], some t => ustrV E t (ev x) (ev n) h
      | _, _ => none
    | .builtin _ => none
    | .value f => match ev f with
      | .func (.func g) first captured =>
        match E.row g with
        | some r => r (first.toList ++ (c.args.map ev).toList ++ captured.toList) h
        | none => call g (first.toList ++ (c.args.map ev).toList ++ captured.toList) h
      | .func (.yield l) first captured => if first.toList.isEmpty && captured.toList.isEmpty then call.yld l (c.args.map ev).toList h else none
      | _ => none
    | .invoke r name => match ev r with
      | .iface t v => do
        let g ← E.meth t name
        call g (v :: (c.args.map ev).toList) h
      | _ => none
  | _ => none
abbrev Tmps := List Value
def evV (t : Tmps) : Operand → Value
  | .tmp i => t.getD i undef
  | .const v => if plainB 100 v then v else undef
  | .global _ => undef
  | .func f => .func (.func f) #[] #[]
def putV (t : Tmps) (d : Option Tmp) (v : Value) : Tmps :=
  match d with
  | some d => t.set d v
  | none => t
inductive Ex where
  | normal
  | exit (id : Nat)
  | ret
  deriving DecidableEq
abbrev St := Tmps × Heap
def stepV (E : Env) (call : CallV) (o : Oper) (s : St) : Option (Value × Heap) :=
  let ev := evV s.1
  match pureV E ev o with
  | some v => some (v, s.2)
  | none =>
  match readV E ev s.2 o with
  | some v => some (v, s.2)
  | none =>
  match newV E ev o with
  | some (b, m) => some (m.val s.2.next, s.2.new b)
  | none => heavyV E call ev s.2 o
def wantedV (ops : Array Oper) (o : Oper) (t : Tmps) : Bool :=
  match o.guard with
  | none => true
  | some (j, want) => match ((ops[j]?).bind (·.dst)).bind (t[·]?) with
    | some (.bool b) => b == want
    | _ => false
def opsV (E : Env) (call : CallV) (ops : Array Oper) : List Oper → St → Option St
  | [], s => some s
  | o :: r, s =>
    if wantedV ops o s.1 then
      match stepV E call o s with
      | some (v, h) => opsV E call ops r (putV s.1 o.dst v, h)
      | none => none
    else opsV E call ops r (putV s.1 o.dst undef, s.2)
def iterV (f : St → Option (Ex × St)) : Nat → St → Option (Ex × St)
  | 0, _ => none
  | n + 1, s => match f s with
    | some (.normal, s') => iterV f n s'
    | r => r
end Go.Vi
namespace Go.Vi
def heavyOp (o : Oper) : Bool :=
  match o.op with
  | .call c => match c.callee with
    | .builtin .len | .builtin .cap | .builtin .min | .builtin .max => false
    | _ => true
  | .convert s d _ => s == d
  | .store .. | .mapUpdate .. | .insert .. | .mapEntry .. | .entryStore .. => true
  | .move .. | .assign .. | .pick .. | .build .. | .nilCheck .. | .binOp .. | .unOp .. | .makeInterface .. | .makeFunc .. | .slice ..
  | .fieldAddr .. | .field .. | .indexAddr .. | .index .. | .typeAssert .. | .extract .. | .load .. | .lookup .. | .alloc .. | .box .. | .buildSlice .. | .makeSlice .. | .makeMap .. => false
  | _ => true
def tmpsOf (ops : Array Oper) (o : Oper) : List Tmp :=
  (o.op.operands.toList.filterMap fun | .tmp t => some t | _ => none) ++
  (match o.guard with | some (g, _) => ((ops[g]?).bind (·.dst)).toList | none => [])
def befores (ops : Array Oper) : List Nat := (Region.before ops).toList
def chainOk (bef : List Nat) : List Nat → Bool
  | a :: b :: r => (bef.getD b 0).testBit a && chainOk bef (b :: r)
  | _ => true
def slotsOk (ops : Array Oper) (bef : List Nat) : Bool :=
  let l := ops.toList.zipIdx
  l.all fun (o, j) => l.all fun (p, i) => match p.dst with
    | none => true
    | some d => i == j || (!(tmpsOf ops o).contains d && o.dst != some d) || (bef.getD j 0).testBit i || (bef.getD i 0).testBit j
def edgesOk (ops : Array Oper) : Bool :=
  ops.toList.zipIdx.all fun (o, j) => o.after.all fun e => !Region.binds .any e || decide (e.on < j)
def guardsOk (ops : Array Oper) (bef : List Nat) : Bool :=
  ops.toList.zipIdx.all fun (o, j) => match o.guard with
    | none => true
    | some (g, _) => (bef.getD j 0).testBit g
def mkPlan (ops : Array Oper) : Option Plan :=
  let bef := befores ops
  let hs := (List.range ops.size).filter fun i => match ops[i]? with | some o => heavyOp o | none => false
  if chainOk bef hs && slotsOk ops bef && edgesOk ops && guardsOk ops bef then
    some { heavy := hs
           lo := (List.range ops.size).map fun j => (hs.filter fun c => (bef.getD j 0).testBit c).length
           hi := (List.range ops.size).map fun j => (hs.takeWhile fun c => !(bef.getD c 0).testBit j).length }
  else none
def planFor (pl : Option Plan) (ops : Array Oper) : Bool :=
  match pl with
  | none => true
  | some p => decide (mkPlan ops = some p)
def planOk (pl : Nat → Option Plan) : Code → Bool
  | .region id ops draw => !draw || planFor (pl id) ops
  | .seq a b => planOk pl a && planOk pl b
  | .cond _ a b => planOk pl a && planOk pl b
  | .block _ b => planOk pl b
  | .loop b => planOk pl b
  | .rangeFunc _ _ a b => planOk pl a && planOk pl b
  | _ => true
structure Seen where
  at_ : Nat
  op : Oper
  t : Tmps
  v : Value
def drawV (E : Env) (call : CallV) (ops : Array Oper) : List Oper → Nat → St → List Heap → List Seen → Option (St × List Heap × List Seen)
  | [], _, s, hs, rs => some (s, hs ++ [s.2], rs)
  | o :: r, j, s, hs, rs =>
    let hs := if heavyOp o then hs ++ [s.2] else hs
    if wantedV ops o s.1 then
      match stepV E call o s with
      | some (v, h) =>
        let rs := if !heavyOp o && (pureV E (evV s.1) o).isNone && (readV E (evV s.1) s.2 o).isSome then { at_ := j, op := o, t := s.1, v := v } :: rs else rs
        drawV E call ops r (j + 1) (putV s.1 o.dst v, h) hs rs
      | none => none
    else drawV E call ops r (j + 1) (putV s.1 o.dst undef, s.2) hs rs
def seenOk (E : Env) (p : Plan) (hs : List Heap) (x : Seen) : Bool :=
  let lo := p.lo.getD x.at_ 0
  let hi := p.hi.getD x.at_ 0
  (List.range (hi + 1 - lo)).all fun k => match hs[lo + k]? with
    | some h => match readV E (evV x.t) h x.op with
      | some v => veq 100000 v x.v
      | none => false
    | none => false
def regionV (E : Env) (call : CallV) (pl : Option Plan) (ops : Array Oper) (draw : Bool) (s : St) : Option St :=
  if draw then
    match pl with
    | none => none
    | some p => match drawV E call ops ops.toList 0 s [] [] with
      | some (s', hs, rs) => if rs.all (seenOk E p hs) then some s' else none
      | none => none
  else opsV E call ops ops.toList s
def opOk (o : Oper) : Bool := o.op.operands.all okOperand && (match o.op with | .select .. | .defer .. => false | _ => true)
def selHead (ops : Array Oper) : Bool :=
  match ops.toList with
  | o :: r => (match o.op with | .select _ _ => true | _ => false) && o.op.operands.all okOperand && o.guard.isNone && r.all opOk
  | [] => false
def codeOk : Code → Bool
  | .region _ ops draw => ops.toList.all opOk || (!draw && selHead ops)
  | .seq a b => codeOk a && codeOk b
  | .cond c a b => okOperand c && codeOk a && codeOk b
  | .block _ b => codeOk b
  | .loop b => codeOk b
  | .rangeFunc g _ a b => okOperand g && codeOk a && codeOk b
  | _ => true
def flat : Code → Bool
  | .seq a b => flat a && flat b
  | .cond _ a b => flat a && flat b
  | .block _ b => flat b
  | .loop b => flat b
  | .rangeFunc .. => false
  | _ => true
def jumpOf : Ex → Option Code
  | .normal => none
  | .exit id => some (.exit id)
  | .ret => some .ret
def exOf : Option Code → Option Ex
  | none => some .normal
  | some (.exit id) => some (.exit id)
  | some .ret => some .ret
  | _ => none
def codeV (E : Env) (call : CallV) (pl : Nat → Option Plan) (fuel : Nat) : Code → St → Option (Ex × St)
  | .skip, s => some (.normal, s)
  | .region id ops draw, s => (regionV E call (pl id) ops draw s).map fun s => (.normal, s)
  | .seq a b, s => match codeV E call pl fuel a s with
    | some (.normal, s') => codeV E call pl fuel b s'
    | r => r
  | .cond c a b, s => match evV s.1 c with
    | .bool true => codeV E call pl fuel a s
    | .bool false => codeV E call pl fuel b s
    | _ => none
  | .block id b, s => match codeV E call pl fuel b s with
    | some (.exit i, s') => if i = id then some (.normal, s') else some (.exit i, s')
    | r => r
  | .loop b, s => iterV (codeV E call pl fuel b) fuel s
  | .exit id, s => some (.exit id, s)
  | .ret, s => some (.ret, s)
  | .rangeFunc g ps a b, s =>
    if !flat a || !flat b then none else
    match evV s.1 g with
    | .func (.func f) first captured =>
      match call f (first.toList ++ [.func (.yield s.2.next) #[] #[]] ++ captured.toList) (s.2.new (.loop { st := .ready, pending := none, tmps := s.1, params := ps, assign := a, body := b, plan := pl })) with
      | some (_, h) =>
        match h.get s.2.next with
        | some (.loop r) => if r.st == .busy then none else (exOf r.pending).map fun x => (x, (s.1, h.set s.2.next (.loop { r with st := .exhausted })))
        | _ => none
      | none => none
    | _ => none
  | _, _ => none
def resultsV (E : Env) (s : St) : List ResultVar → Option (List Value)
  | [] => some []
  | .tmp t :: r => (resultsV E s r).map fun l => s.1.getD t undef :: l
  | .cell a t :: r => do
    let v ← loadV E t (s.1.getD a undef) s.2
    let l ← resultsV E s r
    some (v :: l)
def oneOrTuple : List Value → Value
  | [v] => v
  | l => .tuple ⟨l⟩
def setAll : List (Tmp × Value) → List Value → List Value
  | [], t => t
  | (d, v) :: r, t => setAll r (t.set d v)
def yldV (E : Env) (call : CallV) (n : Nat) (l : Nat) (args : List Value) (h : Heap) : Option (Value × Heap) :=
  match h.get l with
  | some (.loop r) =>
    if args.length ≠ r.params.size then none else
    match codeV E call r.plan n r.assign (setAll (r.params.toList.zip args) r.tmps, h) with
    | some (.normal, s1) =>
      match s1.2.get l with
      | some (.loop r1) =>
        if r1.st == .ready then
          match codeV E call r.plan n r.body (s1.1, s1.2.set l (.loop { r1 with st := .busy })) with
          | some (x, s3) =>
            match s3.2.get l with
            | some (.loop r3) => some (.bool (jumpOf x).isNone, s3.2.set l (.loop { r3 with st := if (jumpOf x).isNone then .ready else .done, pending := jumpOf x }))
            | _ => none
          | none => none
        else none
      | _ => none
    | _ => none
  | _ => none
def callV (E : Env) : Nat → CallV
  | 0 => { fn := fun _ _ _ => none, yld := fun _ _ _ => none }
  | n + 1 =>
    { fn := fun f args h =>
        match E.ext f with
        | some g => g args h
        | none =>
        match E.fn f with
        | none => none
        | some fn =>
          match codeV E (callV E n) fn.plan n fn.body (args ++ List.replicate (fn.fn.ntmps - args.length) undef, h) with
          | some (.normal, s) | some (.ret, s) => (resultsV E s fn.fn.results.toList).map fun l => (oneOrTuple l, s.2)
          | _ => none
      yld := yldV E (callV E n) n }
end Go.Vi
namespace Go.Vi
def kv (e : MapEntry) : Value × Value := (e.key, e.val)
def Dist (es : List MapEntry) : Prop := (es.map (·.key)).Pairwise fun a b => keyEq a b = some false
structure UPerm (es es2 : List MapEntry) (c : Nat) : Prop where
  perm : (es.map kv).Perm (es2.map kv)
  dist : Dist es2
  nodup : (es2.map (·.born)).Nodup
  below : ∀ e ∈ es2, e.born < c
theorem keyEq_true {a b : Value} (h : keyEq a b = some true) : a = b := by
  unfold keyEq at h
  split at h
  · split at h
    · rename_i e
      have h := Option.some.inj h
      rw [beq_iff_eq] at h
      rw [e, h]
    · cases h
  · rename_i x y
    have h := Option.some.inj h
    rw [beq_iff_eq] at h
    have : x = y := ByteArray.ext (Array.toList_inj.1 h)
    rw [this]
  · cases h
theorem keyEq_symm {a b : Value} {z : Bool} (h : keyEq a b = some z) : keyEq b a = some z := by
  unfold keyEq at h ⊢
  split at h
  · split at h
    · rename_i e
      subst e
      simp only [if_true]
      rw [← h]
      congr 1
      exact Bool.eq_iff_iff.2 ⟨fun e => by rw [beq_iff_eq] at e ⊢; exact e.symm, fun e => by rw [beq_iff_eq] at e ⊢; exact e.symm⟩
    · cases h
  · rw [← h]
    congr 1
    exact Bool.eq_iff_iff.2 ⟨fun e => by rw [beq_iff_eq] at e ⊢; exact e.symm, fun e => by rw [beq_iff_eq] at e ⊢; exact e.symm⟩
  · cases h
theorem find_none {k : Value} : ∀ {es : List MapEntry} {i : Nat}, findV k es i = some none → ∀ e ∈ es, keyEq k e.key = some false
  | [], _, _, e, he => nomatch he
  | a :: r, i, h, e, he => by
    rw [findV] at h
    split at h
    · cases h
    · rename_i hz
      rcases List.mem_cons.1 he with rfl | he
      · exact hz
      · exact find_none h e he
    · cases h
theorem find_noneI {k : Value} : ∀ {es : List MapEntry} (i : Nat), (∀ e ∈ es, keyEq k e.key = some false) → findV k es i = some none
  | [], _, _ => rfl
  | a :: r, i, h => by
    rw [findV, h a (List.mem_cons_self ..)]
    exact find_noneI (i + 1) fun e he => h e (List.mem_cons_of_mem _ he)
theorem find_some {k : Value} : ∀ {es : List MapEntry} (i : Nat) {e : MapEntry}, Dist es → e ∈ es → keyEq k e.key = some true → ∃ j, findV k es i = some (some (i + j, e.val)) ∧ es[j]? = some e
  | a :: r, i, e, hd, he, hk => by
    rcases List.mem_cons.1 he with rfl | he
    · exact ⟨0, by rw [findV, hk]; rfl, rfl⟩
    · unfold Dist at hd
      rw [List.map_cons, List.pairwise_cons] at hd
      obtain ⟨j, h1, h2⟩ := find_some (i + 1) hd.2 he hk
      have h3 : keyEq k a.key = some false := by
        rw [keyEq_true hk]
        exact keyEq_symm (hd.1 e.key (List.mem_map_of_mem he))
      exact ⟨j + 1, by rw [findV, h3]; simp only; rw [h1, show i + 1 + j = i + (j + 1) by omega], by simpa using h2⟩
theorem find_inv {k : Value} : ∀ {es : List MapEntry} {i j : Nat} {v : Value}, findV k es i = some (some (j, v)) → ∃ n e, j = i + n ∧ es[n]? = some e ∧ e.val = v ∧ keyEq k e.key = some true
  | [], _, _, _, h => nomatch h
  | a :: r, i, j, v, h => by
    rw [findV] at h
    split at h
    · rename_i hz
      cases h
      exact ⟨0, a, rfl, rfl, rfl, hz⟩
    · obtain ⟨n, e, h1, h2, h3, h4⟩ := find_inv h
      exact ⟨n + 1, e, by omega, by simpa using h2, h3, h4⟩
    · cases h
theorem UPerm.mem {es es2 : List MapEntry} {c : Nat} (u : UPerm es es2 c) {e : MapEntry} (he : e ∈ es) : ∃ e2 ∈ es2, kv e2 = kv e :=
  List.mem_map.1 (u.perm.mem_iff.1 (List.mem_map_of_mem he))
theorem UPerm.mem2 {es es2 : List MapEntry} {c : Nat} (u : UPerm es es2 c) {e : MapEntry} (he : e ∈ es2) : ∃ e2 ∈ es, kv e2 = kv e :=
  List.mem_map.1 (u.perm.mem_iff.2 (List.mem_map_of_mem he))
theorem UPerm.find {es es2 : List MapEntry} {c : Nat} (u : UPerm es es2 c) {k : Value} {r : Option (Nat × Value)} (h : findV k es 0 = some r) :
    (r = none ∧ findV k es2 0 = some none ∧ ∀ e ∈ es2, keyEq k e.key = some false) ∨ ∃ j v j2 e e2, r = some (j, v) ∧ es[j]? = some e ∧ es2[j2]? = some e2 ∧ kv e = kv e2 ∧ keyEq k e.key = some true ∧ findV k es2 0 = some (some (j2, v)) := by
  cases r with
  | none =>
    have h2 : ∀ e ∈ es2, keyEq k e.key = some false := fun e he => by
      obtain ⟨e2, h3, h4⟩ := u.mem2 he
      have := find_none h e2 h3
      rw [show e2.key = e.key from congrArg Prod.fst h4] at this
      exact this
    exact .inl ⟨rfl, find_noneI 0 h2, h2⟩
  | some p =>
    obtain ⟨j, v⟩ := p
    obtain ⟨n, e, h1, h2, h3, h4⟩ := find_inv h
    rw [Nat.zero_add] at h1
    subst h1
    obtain ⟨e2, h5, h6⟩ := u.mem (List.mem_of_getElem? h2)
    have h7 : keyEq k e2.key = some true := by rw [show e2.key = e.key from congrArg Prod.fst h6]; exact h4
    obtain ⟨j2, h8, h9⟩ := find_some 0 u.dist h5 h7
    rw [Nat.zero_add, show e2.val = e.val from congrArg Prod.snd h6, h3] at h8
    exact .inr ⟨j, v, j2, e, e2, rfl, h2, h9, h6.symm, h4, h8⟩
theorem split_perm : ∀ {es : List MapEntry} {j : Nat} {e : MapEntry}, es[j]? = some e → (es.map kv).Perm (kv e :: (es.eraseIdx j).map kv)
  | [], _, _, h => by simp at h
  | a :: r, 0, e, h => by simp at h; subst h; exact .refl _
  | a :: r, j + 1, e, h => by
    have := split_perm (es := r) (j := j) (e := e) (by simpa using h)
    rw [List.eraseIdx_cons_succ, List.map_cons, List.map_cons]
    exact (List.Perm.cons _ this).trans (.swap _ _ _)
theorem setEntry_perm (k v : Value) : ∀ {es : List MapEntry} {j : Nat} {e : MapEntry}, es[j]? = some e → ((setEntry es j k v).map kv).Perm ((k, v) :: (es.eraseIdx j).map kv)
  | [], _, _, h => by simp at h
  | a :: r, 0, e, h => .refl _
  | a :: r, j + 1, e, h => by
    have := setEntry_perm k v (es := r) (j := j) (e := e) (by simpa using h)
    rw [setEntry, List.eraseIdx_cons_succ, List.map_cons, List.map_cons]
    exact (List.Perm.cons _ this).trans (.swap _ _ _)
theorem setEntry_keys (v : Value) : ∀ {es : List MapEntry} {j : Nat} {e : MapEntry}, es[j]? = some e → (setEntry es j e.key v).map (·.key) = es.map (·.key)
  | [], _, _, _ => rfl
  | a :: r, 0, e, h => by simp at h; subst h; rfl
  | a :: r, j + 1, e, h => by
    rw [setEntry, List.map_cons, List.map_cons, setEntry_keys v (by simpa using h)]
theorem setEntry_borns (k v : Value) : ∀ (es : List MapEntry) (j : Nat), (setEntry es j k v).map (·.born) = es.map (·.born)
  | [], _ => rfl
  | a :: r, 0 => rfl
  | a :: r, j + 1 => by rw [setEntry, List.map_cons, List.map_cons, setEntry_borns k v r j]
theorem below_map {es es2 : List MapEntry} {c : Nat} (h : es.map (·.born) = es2.map (·.born)) (b : ∀ e ∈ es2, e.born < c) : ∀ e ∈ es, e.born < c := fun e he => by
  have : e.born ∈ es2.map (·.born) := by rw [← h]; exact List.mem_map_of_mem he
  obtain ⟨e2, h1, h2⟩ := List.mem_map.1 this
  rw [← h2]
  exact b e2 h1
theorem UPerm.rest {es es2 : List MapEntry} {c : Nat} (u : UPerm es es2 c) {j j2 : Nat} {e e2 : MapEntry} (h1 : es[j]? = some e) (h2 : es2[j2]? = some e2) (he : kv e = kv e2) : ((es.eraseIdx j).map kv).Perm ((es2.eraseIdx j2).map kv) := by
  have := ((split_perm h1).symm.trans u.perm).trans (split_perm h2)
  rw [he] at this
  exact List.Perm.cons_inv this
theorem UPerm.set {es es2 : List MapEntry} {c : Nat} (u : UPerm es es2 c) {j j2 : Nat} {e e2 : MapEntry} (h1 : es[j]? = some e) (h2 : es2[j2]? = some e2) (he : kv e = kv e2) (v : Value) : UPerm (setEntry es j e.key v) (setEntry es2 j2 e.key v) c := by
  have hk : e.key = e2.key := congrArg Prod.fst he
  refine ⟨((setEntry_perm _ _ h1).trans (.cons _ (u.rest h1 h2 he))).trans (setEntry_perm _ _ h2).symm, ?_, by rw [setEntry_borns]; exact u.nodup, below_map (setEntry_borns _ _ _ _) u.below⟩
  unfold Dist
  rw [hk, setEntry_keys v h2]
  exact u.dist
theorem UPerm.push {es es2 : List MapEntry} {c : Nat} (u : UPerm es es2 c) {k : Value} (v : Value) (h : ∀ e ∈ es2, keyEq k e.key = some false) : UPerm (es ++ [{ key := k, val := v, born := 0 }]) (es2 ++ [{ key := k, val := v, born := c }]) (c + 1) := by
  refine ⟨?_, ?_, ?_, fun e he => ?_⟩
  · rw [List.map_append, List.map_append]
    exact u.perm.append_right _
  · unfold Dist
    rw [List.map_append, List.pairwise_append]
    refine ⟨u.dist, by simp, fun a ha b hb => ?_⟩
    obtain ⟨e, he, rfl⟩ := List.mem_map.1 ha
    simp at hb
    subst hb
    exact keyEq_symm (h e he)
  · rw [List.map_append, List.nodup_append]
    refine ⟨u.nodup, by simp, fun a ha b hb => ?_⟩
    obtain ⟨e, he, rfl⟩ := List.mem_map.1 ha
    simp at hb
    subst hb
    have := u.below e he
    omega
  · rcases List.mem_append.1 he with he | he
    · have := u.below e he; omega
    · simp at he; subst he; exact Nat.lt_succ_self _
theorem UPerm.drop {es es2 : List MapEntry} {c : Nat} (u : UPerm es es2 c) {j j2 : Nat} {e e2 : MapEntry} (h1 : es[j]? = some e) (h2 : es2[j2]? = some e2) (he : kv e = kv e2) : UPerm (dropEntry es j) (dropEntry es2 j2) c := by
  have hs : (es2.eraseIdx j2).Sublist es2 := List.eraseIdx_sublist ..
  exact ⟨u.rest h1 h2 he, u.dist.sublist (hs.map _), u.nodup.sublist (hs.map _), fun e he => u.below e (hs.mem he)⟩
theorem UPerm.len {es es2 : List MapEntry} {c : Nat} (u : UPerm es es2 c) : es.length = es2.length := by
  have := u.perm.length_eq
  rwa [List.length_map, List.length_map] at this
end Go.Vi
namespace Go.Vi
structure Info where
  blk : Nat
  base : Nat
  opn : Option (Nat × Nat)
  tot : Nat
  ro : Bool := false
abbrev Map := Nat → Option Info
inductive VRel (ρ : Map) : Value → Value → Prop where
  | bool (b : Bool) : VRel ρ (.bool b) (.bool b)
  | int (k : IntKind) (n : Int) : VRel ρ (.int k n) (.int k n)
  | string (s : ByteArray) : VRel ρ (.string s) (.string s)
  | ptr0 : VRel ρ (.pointer none) (.pointer none)
  | ptr (b o : Nat) (i : Info) (h : ρ b = some i) : VRel ρ (.pointer (some ⟨b, o, none⟩)) (.pointer (some ⟨i.blk, i.base + o, none⟩))
  | slice0 : VRel ρ (.slice none 0 0) (.slice none 0 0)
  | slice (b o len cap : Nat) (i : Info) (o' cap' : Nat) (h : ρ b = some i) (hl : len ≤ cap) (ho : o' = i.base + o ∨ (len = 0 ∧ cap = 0 ∧ i.opn ≠ none ∧ i.base ≤ o'))
      (hc : cap ≤ cap') (hn : i.opn = none → cap' = cap) (hr : ∀ z, i.opn = some z → o' + cap' * z.1 ≤ i.tot) :
      VRel ρ (.slice (some ⟨b, o, none⟩) len cap) (.slice (some ⟨i.blk, o', none⟩) len cap')
  | sliceE (a : Addr) : VRel ρ (.slice (some ⟨0, 0, some 0⟩) 0 0) (.slice (some a) 0 0)
  | map0 : VRel ρ (.map none) (.map none)
  | map (b : Nat) (i : Info) (h : ρ b = some i) : VRel ρ (.map (some b)) (.map (some i.blk))
  | chan0 : VRel ρ (.chan none) (.chan none)
  | chan (b : Nat) (i : Info) (h : ρ b = some i) : VRel ρ (.chan (some b)) (.chan (some i.blk))
  | nilFunc : VRel ρ .nilFunc .nilFunc
  | func (g : FuncId) (l l' c c' : Array Value) (hl : l.toList.length = l'.toList.length) (h : ∀ j (h : j < l.toList.length) (h' : j < l'.toList.length), VRel ρ l.toList[j] l'.toList[j])
      (kl : c.toList.length = c'.toList.length) (k : ∀ j (h : j < c.toList.length) (h' : j < c'.toList.length), VRel ρ c.toList[j] c'.toList[j]) :
      VRel ρ (.func (.func g) l c) (.func (.func g) l' c')
  | yield (b : Nat) (i : Info) (h : ρ b = some i) (hb : i.base = 0) : VRel ρ (.func (.yield b) #[] #[]) (.func (.yield i.blk) #[] #[])
  | nilIface : VRel ρ .nilIface .nilIface
  | iface (t : TypeId) (v v' : Value) (h : VRel ρ v v') : VRel ρ (.iface t v) (.iface t v')
  | agg (l l' : Array Value) (hl : l.toList.length = l'.toList.length) (h : ∀ j (h : j < l.toList.length) (h' : j < l'.toList.length), VRel ρ l.toList[j] l'.toList[j]) : VRel ρ (.agg l) (.agg l')
  | tuple (l l' : Array Value) (hl : l.toList.length = l'.toList.length) (h : ∀ j (h : j < l.toList.length) (h' : j < l'.toList.length), VRel ρ l.toList[j] l'.toList[j]) : VRel ρ (.tuple l) (.tuple l')
def VRels (ρ : Map) (l l' : List Value) : Prop := l.length = l'.length ∧ ∀ j (h : j < l.length) (h' : j < l'.length), VRel ρ l[j] l'[j]
theorem VRel.agg' {ρ : Map} {l l' : List Value} (h : VRels ρ l l') : VRel ρ (.agg ⟨l⟩) (.agg ⟨l'⟩) := .agg _ _ h.1 h.2
theorem VRel.tuple' {ρ : Map} {l l' : List Value} (h : VRels ρ l l') : VRel ρ (.tuple ⟨l⟩) (.tuple ⟨l'⟩) := .tuple _ _ h.1 h.2
theorem VRels.nil {ρ : Map} : VRels ρ [] [] := ⟨rfl, fun _ h => absurd h (by simp)⟩
theorem VRels.cons {ρ : Map} {v v' : Value} {l l' : List Value} (hv : VRel ρ v v') (h : VRels ρ l l') : VRels ρ (v :: l) (v' :: l') := by
  refine ⟨by simp [h.1], fun j hj hj' => ?_⟩
  cases j with
  | zero => exact hv
  | succ j => exact h.2 j (by simpa using hj) (by simpa using hj')
theorem VRels.head {ρ : Map} {v v' : Value} {l l' : List Value} (h : VRels ρ (v :: l) (v' :: l')) : VRel ρ v v' := h.2 0 (by simp) (by simp)
theorem VRels.tail {ρ : Map} {v v' : Value} {l l' : List Value} (h : VRels ρ (v :: l) (v' :: l')) : VRels ρ l l' :=
  ⟨by simpa using h.1, fun j hj hj' => h.2 (j + 1) (by simpa using hj) (by simpa using hj')⟩
theorem VRels.nil_inv {ρ : Map} {l' : List Value} (h : VRels ρ [] l') : l' = [] := by
  have := h.1; cases l' <;> simp_all
theorem VRels.cons_inv {ρ : Map} {v : Value} {l l' : List Value} (h : VRels ρ (v :: l) l') : ∃ v' r', l' = v' :: r' ∧ VRel ρ v v' ∧ VRels ρ l r' := by
  cases l' with
  | nil => have := h.1; simp at this
  | cons v' r' => exact ⟨v', r', rfl, h.head, h.tail⟩
theorem VRels.append {ρ : Map} {l l' m m' : List Value} (h : VRels ρ l l') (k : VRels ρ m m') : VRels ρ (l ++ m) (l' ++ m') := by
  induction l generalizing l' with
  | nil => cases h.nil_inv; exact k
  | cons v l ih => obtain ⟨v', r', rfl, hv, hr⟩ := h.cons_inv; exact VRels.cons hv (ih hr)
theorem VRels.get {ρ : Map} {l l' : List Value} (h : VRels ρ l l') {j : Nat} {v : Value} (hj : l[j]? = some v) : ∃ v', l'[j]? = some v' ∧ VRel ρ v v' := by
  obtain ⟨hj', rfl⟩ := List.getElem?_eq_some_iff.1 hj
  exact ⟨l'[j]'(h.1 ▸ hj'), List.getElem?_eq_getElem _, h.2 j _ _⟩
theorem VRels.of_get {ρ : Map} {l l' : List Value} (hl : l.length = l'.length) (h : ∀ (j : Nat) (v v' : Value), l[j]? = some v → l'[j]? = some v' → VRel ρ v v') : VRels ρ l l' :=
  ⟨hl, fun j hj hj' => h j _ _ (List.getElem?_eq_getElem hj) (List.getElem?_eq_getElem hj')⟩
theorem VRels.take {ρ : Map} {l l' : List Value} (n : Nat) (h : VRels ρ l l') : VRels ρ (l.take n) (l'.take n) := by
  refine .of_get (by simp [h.1]) fun j v v' hj hj' => ?_
  rw [List.getElem?_take] at hj hj'
  split at hj
  · rename_i hn
    rw [if_pos hn] at hj'
    obtain ⟨u, hu, hr⟩ := h.get hj
    rw [hu] at hj'; cases hj'; exact hr
  · cases hj
theorem VRels.drop {ρ : Map} {l l' : List Value} (n : Nat) (h : VRels ρ l l') : VRels ρ (l.drop n) (l'.drop n) := by
  refine .of_get (by simp [h.1]) fun j v v' hj hj' => ?_
  rw [List.getElem?_drop] at hj hj'
  obtain ⟨u, hu, hr⟩ := h.get hj
  rw [hu] at hj'; cases hj'; exact hr
theorem VRels.splice {ρ : Map} {l l' m m' : List Value} (n : Nat) (h : VRels ρ l l') (k : VRels ρ m m') : VRels ρ (splice l n m) (splice l' n m') := by
  unfold Vi.splice
  rw [k.1]
  exact ((h.take n).append k).append (h.drop _)
theorem VRels.flatten_replicate {ρ : Map} {l l' : List Value} (n : Nat) (h : VRels ρ l l') : VRels ρ (rep n l) (rep n l') := by
  unfold rep
  induction n with
  | zero => exact .nil
  | succ n ih => rw [List.replicate_succ, List.replicate_succ, List.flatten_cons, List.flatten_cons]; exact h.append ih
theorem VRel.agg_inv {ρ : Map} {l : Array Value} {v' : Value} (h : VRel ρ (.agg l) v') : ∃ l', v' = .agg l' ∧ VRels ρ l.toList l'.toList := by
  cases h with
  | agg l l' hl h => exact ⟨l', rfl, hl, h⟩
theorem VRel.tuple_inv {ρ : Map} {l : Array Value} {v' : Value} (h : VRel ρ (.tuple l) v') : ∃ l', v' = .tuple l' ∧ VRels ρ l.toList l'.toList := by
  cases h with
  | tuple l l' hl h => exact ⟨l', rfl, hl, h⟩
theorem VRel.cells {ρ : Map} {v v' : Value} (h : VRel ρ v v') : VRels ρ (cellsOf v) v'.cells.toList ∧ (cellsOf v').length = v'.cells.size := by
  cases h with
  | agg l l' hl h => exact ⟨⟨hl, h⟩, by simp [cellsOf, Value.cells]⟩
  | _ => exact ⟨VRels.cons (by constructor <;> assumption) VRels.nil, rfl⟩
theorem cellsOf_eq (v : Value) : cellsOf v = v.cells.toList := by cases v <;> rfl
theorem plain_rels {ρ : Map} {n : Nat} (ih : ∀ v, plainB n v = true → VRel ρ v v) (l : List Value) (h : l.all (plainB n) = true) : VRels ρ l l := by
  refine ⟨rfl, fun j hj _ => ih _ ?_⟩
  exact List.all_eq_true.1 h _ (List.getElem_mem hj)
theorem plain_rel {ρ : Map} : ∀ (n : Nat) (v : Value), plainB n v = true → VRel ρ v v := by
  intro n
  induction n with
  | zero => intro v h; simp [plainB] at h
  | succ n ih =>
    intro v h
    cases v with
    | bool b => exact .bool b
    | int k n => exact .int k n
    | string s => exact .string s
    | pointer a => cases a <;> simp [plainB] at h; exact .ptr0
    | slice a l c =>
      cases a with
      | some a => simp [plainB] at h
      | none => cases l <;> cases c <;> simp [plainB] at h; exact .slice0
    | map r => cases r <;> simp [plainB] at h; exact .map0
    | nilFunc => exact .nilFunc
    | nilIface => exact .nilIface
    | iface t v => exact .iface t v v (ih v (by simpa [plainB] using h))
    | agg l => exact .agg l l rfl (plain_rels ih l.toList (by simpa [plainB] using h)).2
    | tuple l => exact .tuple l l rfl (plain_rels ih l.toList (by simpa [plainB] using h)).2
    | func f l c =>
      cases f <;> simp [plainB] at h
      obtain ⟨rfl, rfl⟩ := h
      exact .func _ _ _ _ _ rfl (fun _ h => absurd h (by simp)) rfl (fun _ h => absurd h (by simp))
    | float _ _ => simp [plainB] at h
    | complex _ _ _ => simp [plainB] at h
    | chan r => cases r <;> simp [plainB] at h; exact .chan0
theorem undef_rel {ρ : Map} : VRel ρ undef undef := plain_rel 2 _ rfl
def Ext (ρ ρ' : Map) : Prop := ∀ b i, ρ b = some i → ρ' b = some i
theorem VRel.ext {ρ ρ' : Map} (e : Ext ρ ρ') {v v' : Value} (h : VRel ρ v v') : VRel ρ' v v' := by
  induction h with
  | bool b => exact .bool b
  | int k n => exact .int k n
  | string s => exact .string s
  | ptr0 => exact .ptr0
  | ptr b o i h => exact .ptr b o i (e _ _ h)
  | slice0 => exact .slice0
  | slice b o len cap i o' cap' h hl ho hc hn hr => exact .slice b o len cap i o' cap' (e _ _ h) hl ho hc hn hr
  | sliceE a => exact .sliceE a
  | map0 => exact .map0
  | map b i h => exact .map b i (e _ _ h)
  | chan0 => exact .chan0
  | chan b i h => exact .chan b i (e _ _ h)
  | nilFunc => exact .nilFunc
  | func g l l' c c' hl _ kl _ ih ik => exact .func g l l' c c' hl ih kl ik
  | yield b i h hb => exact .yield b i (e _ _ h) hb
  | nilIface => exact .nilIface
  | iface t v v' _ ih => exact .iface t v v' ih
  | agg l l' hl _ ih => exact .agg l l' hl ih
  | tuple l l' hl _ ih => exact .tuple l l' hl ih
theorem VRels.ext {ρ ρ' : Map} (e : Ext ρ ρ') {l l' : List Value} (h : VRels ρ l l') : VRels ρ' l l' := ⟨h.1, fun j a b => (h.2 j a b).ext e⟩
theorem Ext.refl (ρ : Map) : Ext ρ ρ := fun _ _ h => h
theorem Ext.trans {a b c : Map} (h : Ext a b) (k : Ext b c) : Ext a c := fun _ _ e => k _ _ (h _ _ e)
theorem VRel.oneCell {ρ : Map} {v v' : Value} (h : VRel ρ v v') : oneCell v = v'.oneCell' := by cases h <;> rfl
structure MERel (ρ : Map) (e e' : MapEntry) : Prop where
  key : VRel ρ e.key e'.key
  val : VRel ρ e.val e'.val
  born : e.born = e'.born
def MRel (ρ : Map) (l l' : List MapEntry) : Prop := l.length = l'.length ∧ ∀ (j : Nat) (e e' : MapEntry), l[j]? = some e → l'[j]? = some e' → MERel ρ e e'
def ORel (ρ : Map) (o : Blk) (i : Info) (w : World) : Prop :=
  match o with
  | .cells cs wr opn => opn = i.opn ∧ ∃ c elem fr, w.heap[i.blk]? = some (.cells c elem fr) ∧ c.size = i.tot ∧ i.base + cs.length ≤ i.tot ∧
      VRels ρ cs ((c.toList.drop i.base).take cs.length) ∧ (wr = true → ∀ j, i.base ≤ j → j < i.tot → ¬ (fr.1 ≤ j ∧ j < fr.2)) ∧ (∀ z, opn = some z → elem = z.2 ∧ (z.1 = 0 → i.base = 0 ∧ i.tot = cs.length))
  | .map es clk => ∃ es' : Array MapEntry, w.heap[i.blk]? = some (.map es' clk) ∧ MRel ρ es es'.toList
  | .loop r => i.base = 0 ∧ codeOk r.assign = true ∧ codeOk r.body = true ∧ planOk r.plan r.assign = true ∧ planOk r.plan r.body = true ∧ flat r.assign = true ∧ flat r.body = true ∧
      ∃ L : Loop, w.heap[i.blk]? = some (.loop L) ∧ L.state = r.st ∧ L.pending = r.pending ∧ L.params = r.params ∧ L.assign = r.assign ∧ L.body = r.body ∧ VRels ρ r.tmps L.tmps.toList
  | .sit s pos => i.base = 0 ∧ w.heap[i.blk]? = some (.stringIter s pos)
  | .mit m since seen last => i.base = 0 ∧ ∃ m' : Option Nat, w.heap[i.blk]? = some (.mapIter m' since ⟨seen⟩ last) ∧
      (match m with | none => m' = none | some b => ∃ j, ρ b = some j ∧ m' = some j.blk)
  | .chan cap buf => ∃ (buf' : Array Value) (s r : Nat), w.heap[i.blk]? = some (.chan cap buf' false s r false) ∧ VRels ρ buf buf'.toList
  | .umap es => ∃ (es2 : List MapEntry) (c : Nat), UPerm es es2 c ∧ ∃ es' : Array MapEntry, w.heap[i.blk]? = some (.map es' c) ∧ MRel ρ es2 es'.toList
structure Known where
  is : Map → World → Prop
  keep : ∀ {ρ ρ' : Map} {w w' : World}, Ext ρ ρ' → w.heap.size ≤ w'.heap.size → (∀ r, r < w.heap.size → (∀ b i, ρ b = some i → i.ro = false → i.blk ≠ r) → w'.heap[r]? = w.heap[r]?) →
    (∀ b i, ρ b = none → ρ' b = some i → i.ro = false ∧ (w.heap.size ≤ i.blk ∨ ∃ c j, ρ c = some j ∧ j.ro = false ∧ j.blk = i.blk)) → is ρ w → is ρ' w'
  down : ∀ {ρ : Map} {w : World}, is ρ w → is (fun _ => none) w
def Known.none : Known := ⟨fun _ _ => True, fun _ _ _ _ h => h, fun h => h⟩
def roB : Blk → Bool
  | .cells _ wr o => !wr && o.isNone
  | _ => false
structure Good0 (ρ : Map) (h : Heap) (w : World) : Prop where
  rel : ∀ b i o, ρ b = some i → h.get b = some o → ORel ρ o i w
  inj : ∀ b c i j, ρ b = some i → ρ c = some j → h.get b ≠ none → h.get c ≠ none → i.ro = false → i.blk = j.blk → b = c
  lt : ∀ b i, ρ b = some i → i.ro = false → i.blk < w.heap.size
  fresh : ∀ b, h.next ≤ b → h.get b = none
  ro : ∀ b i o, ρ b = some i → h.get b = some o → i.ro = true → roB o = true
theorem heap_lt' {w : World} {r : Nat} {o : Obj} (h : w.heap[r]? = some o) : r < w.heap.size := (Array.getElem?_eq_some_iff.1 h).1
theorem ORel.lt {ρ : Map} {o : Blk} {i : Info} {w : World} (h : ORel ρ o i w) : i.blk < w.heap.size := by
  cases o with
  | cells cs wr opn => obtain ⟨_, c, el, fr, h, _⟩ := h; exact heap_lt' h
  | map es clk => obtain ⟨_, h, _⟩ := h; exact heap_lt' h
  | loop r => obtain ⟨_, _, _, _, _, _, _, _, h, _⟩ := h; exact heap_lt' h
  | sit s p => exact heap_lt' h.2
  | mit m a b c => obtain ⟨_, _, h, _⟩ := h; exact heap_lt' h
  | chan c b => obtain ⟨_, _, _, h, _⟩ := h; exact heap_lt' h
  | umap es => obtain ⟨_, _, _, _, h, _⟩ := h; exact heap_lt' h
theorem ORel.apart {ρ : Map} {o : Blk} {i : Info} {w : World} (h : ORel ρ o i w) {r : Nat} {d : Option (List Deferred)} (hr : w.heap[r]? = some (.deferred d)) : i.blk ≠ r := by
  rintro rfl
  cases o with
  | cells cs wr opn => obtain ⟨_, c, el, fr, h, _⟩ := h; rw [hr] at h; cases h
  | map es clk => obtain ⟨_, h, _⟩ := h; rw [hr] at h; cases h
  | loop r => obtain ⟨_, _, _, _, _, _, _, _, h, _⟩ := h; rw [hr] at h; cases h
  | sit s p => have := h.2; rw [hr] at this; cases this
  | mit m a b c => obtain ⟨_, _, h, _⟩ := h; rw [hr] at h; cases h
  | chan c b => obtain ⟨_, _, _, h, _⟩ := h; rw [hr] at h; cases h
  | umap es => obtain ⟨_, _, _, _, h, _⟩ := h; rw [hr] at h; cases h
theorem Good0.ltL {ρ : Map} {h : Heap} {w : World} (g : Good0 ρ h w) {b : Nat} {i : Info} (hb : ρ b = some i) (hp : h.get b ≠ none) : i.blk < w.heap.size := by
  cases hq : h.get b with
  | none => exact absurd hq hp
  | some o => exact (g.rel _ _ _ hb hq).lt
structure Good (K : Known) (ρ : Map) (h : Heap) (w : World) : Prop extends Good0 ρ h w where
  known : K.is ρ w
structure Stp (ρ : Map) (h : Heap) (w : World) (ρ' : Map) (h' : Heap) (w' : World) : Prop where
  ext : Ext ρ ρ'
  dom : ∀ b, ρ b = none → ρ' b ≠ none → h.next ≤ b ∧ b < h'.next
  win : ∀ b, h.next ≤ b → b < h'.next → ρ b = none
  next : h.next ≤ h'.next
  vframe : ∀ b, b < h.next → ρ b = none → h'.get b = h.get b
  dead : ∀ b, b < h.next → h.get b = none → h'.get b = none
  grow : w.heap.size ≤ w'.heap.size
  rframe : ∀ r, r < w.heap.size → (∀ b i, ρ b = some i → h.get b ≠ none → i.ro = false → i.blk ≠ r) → w'.heap[r]? = w.heap[r]?
  fromN : ∀ b i, ρ b = none → ρ' b = some i → i.ro = false ∧ (w.heap.size ≤ i.blk ∨ ∃ c j, ρ c = some j ∧ h.get c ≠ none ∧ j.ro = false ∧ h'.get c = none ∧ j.blk = i.blk)
  side : w'.os = w.os ∧ w'.output = w.output
theorem Stp.known {K : Known} {ρ ρ' : Map} {h h' : Heap} {w w' : World} (s : Stp ρ h w ρ' h' w') (k : K.is ρ w) : K.is ρ' w' :=
  K.keep s.ext s.grow (fun r hr hq => s.rframe r hr fun b i hb _ hz => hq b i hb hz) (fun b i hb hi => ⟨(s.fromN b i hb hi).1, (s.fromN b i hb hi).2.imp id fun ⟨c, j, hc, _, hz, _, he⟩ => ⟨c, j, hc, hz, he⟩⟩) k
theorem Good0.with {K : Known} {ρ ρ' : Map} {h h' : Heap} {w w' : World} (k : K.is ρ w) (q : Good0 ρ' h' w' ∧ Stp ρ h w ρ' h' w') : Good K ρ' h' w' ∧ Stp ρ h w ρ' h' w' := ⟨⟨q.1, q.2.known k⟩, q.2⟩
theorem Stp.refl (ρ : Map) (h : Heap) (w : World) : Stp ρ h w ρ h w :=
  ⟨.refl _, fun _ a b => absurd a b, fun _ a b => by omega, Nat.le_refl _, fun _ _ _ => rfl, fun _ _ h => h, Nat.le_refl _, fun _ _ _ => rfl, fun _ _ a b => (by rw [a] at b; cases b), ⟨rfl, rfl⟩⟩
theorem Ext.back {ρ ρ' : Map} (e : Ext ρ ρ') {b : Nat} (h : ρ' b = none) : ρ b = none := by
  cases hq : ρ b with
  | none => rfl
  | some i => rw [e _ _ hq] at h; cases h
theorem Stp.was {ρ ρ' : Map} {h h' : Heap} {w w' : World} (s : Stp ρ h w ρ' h' w') (f : ∀ b, h'.next ≤ b → h'.get b = none) {b : Nat} {i : Info} (hb : ρ b = some i) (hp : h'.get b ≠ none) :
    b < h.next ∧ h.get b ≠ none := by
  have h1 : b < h'.next := Nat.lt_of_not_le fun hx => hp (f b hx)
  have h2 : b < h.next := Nat.lt_of_not_le fun hx => by have := s.win b hx h1; rw [hb] at this; cases this
  exact ⟨h2, fun hx => hp (s.dead b h2 hx)⟩
theorem Stp.trans {ρ ρ' ρ'' : Map} {h h' h'' : Heap} {w w' w'' : World} (f0 : ∀ b, h.next ≤ b → h.get b = none) (f : ∀ b, h'.next ≤ b → h'.get b = none) (s : Stp ρ h w ρ' h' w') (t : Stp ρ' h' w' ρ'' h'' w'') : Stp ρ h w ρ'' h'' w'' where
  ext := s.ext.trans t.ext
  dom := fun b hb hb'' => by
    by_cases h1 : ρ' b = none
    · have := t.dom b h1 hb''; have := s.next; omega
    · have := s.dom b hb h1; have := t.next; omega
  win := fun b h1 h2 => by
    by_cases hq : b < h'.next
    · exact s.win b h1 hq
    · exact s.ext.back (t.win b (by omega) h2)
  next := Nat.le_trans s.next t.next
  vframe := fun b hb hn => by
    have h1 : ρ' b = none := by
      cases hq : ρ' b with
      | none => rfl
      | some i => have := (s.dom b hn (by rw [hq]; simp)).1; omega
    rw [t.vframe b (Nat.lt_of_lt_of_le hb s.next) h1, s.vframe b hb hn]
  dead := fun b hb hn => t.dead b (Nat.lt_of_lt_of_le hb s.next) (s.dead b hb hn)
  grow := Nat.le_trans s.grow t.grow
  side := ⟨t.side.1.trans s.side.1, t.side.2.trans s.side.2⟩
  rframe := fun r hr hq => by
    rw [t.rframe r (Nat.lt_of_lt_of_le hr s.grow) ?_, s.rframe r hr hq]
    intro b i hb hp hro
    cases h1 : ρ b with
    | none =>
      rcases (s.fromN b i h1 hb).2 with h2 | ⟨c, j, hc, hp', hr', _, he⟩
      · omega
      · rw [← he]; exact hq c j hc hp' hr'
    | some i0 =>
      have := s.ext _ _ h1
      rw [hb] at this; cases this
      exact hq b i h1 (s.was f h1 hp).2 hro
  fromN := fun b i hb hb'' => by
    cases h1 : ρ' b with
    | some i' =>
      have := t.ext _ _ h1
      rw [hb''] at this; cases this
      obtain ⟨h0, h2⟩ := s.fromN b i hb h1
      refine ⟨h0, ?_⟩
      rcases h2 with h2 | ⟨c, j, hc, hp, hr, hd, he⟩
      · exact .inl h2
      · refine .inr ⟨c, j, hc, hp, hr, ?_, he⟩
        have hl : c < h.next := Nat.lt_of_not_le fun hx => hp (f0 c hx)
        exact t.dead c (Nat.lt_of_lt_of_le hl s.next) hd
    | none =>
      obtain ⟨h0, h2⟩ := t.fromN b i h1 hb''
      refine ⟨h0, ?_⟩
      rcases h2 with h2 | ⟨c, j, hc, hp, hr, hd, he⟩
      · exact .inl (Nat.le_trans s.grow h2)
      · cases h3 : ρ c with
        | some j0 =>
          have := s.ext _ _ h3
          rw [hc] at this; cases this
          exact .inr ⟨c, j, h3, (s.was f h3 hp).2, hr, hd, he⟩
        | none =>
          rcases (s.fromN c j h3 hc).2 with h4 | ⟨c0, j0, hc0, hp0, hr0, hd0, he0⟩
          · exact .inl (by omega)
          · refine .inr ⟨c0, j0, hc0, hp0, hr0, ?_, by omega⟩
            have hl : c0 < h.next := Nat.lt_of_not_le fun hx => hp0 (f0 c0 hx)
            exact t.dead c0 (Nat.lt_of_lt_of_le hl s.next) hd0
theorem Good0.wr {ρ : Map} {h : Heap} {w : World} (g : Good0 ρ h w) {b : Nat} {i : Info} {o : Blk} (hi : ρ b = some i) (ho : h.get b = some o) (hr : roB o = false) : i.ro = false := by
  cases hq : i.ro with
  | false => rfl
  | true => rw [g.ro b i o hi ho hq] at hr; cases hr
end Go.Vi
namespace Go.Vi
def aggD (d : TypeDesc) : Bool := match d with | .struct _ | .array _ _ => true | _ => false
structure TyOk (P : Program) (t : TypeId) (i : Ty) : Prop where
  under : P.underlying t = some i.under
  agg : i.agg = aggD i.under
  info : ∃ x, P.info? t = some x ∧ x.size = i.size ∧ x.bytes = i.bytes ∧ x.zero = i.zero ∧ x.comparable = i.cmp
  zero : ∀ z, i.zero = some z → plainB 100 z = true
  eqg : i.eqg = false → P.eqGuardType P.depth t = false
  held : i.held = false → P.stoodInHeld t = false
  tag : i.tag = true → liesAt P P.depth t 1 0 t 1 = true
  places : ∀ fs pl, i.under = .struct fs → i.places = some pl → fs.toList.mapM (fun f => (P.info? f.type).map fun i => (f.offset, i.size)) = some pl
def TysOk (P : Program) (E : Env) : Prop := ∀ t i, E.ty t = some i → TyOk P t i
section
variable {P : Program} {E : Env} {t : TypeId} {i : Ty} {w : World}
theorem run_und (k : TyOk P t i) : (underlying t).run P w = .ok i.under w := by
  simp [underlying, k.under]
theorem run_size (k : TyOk P t i) : (sizeOf t).run P w = .ok i.size w := by
  obtain ⟨x, hx, hs, _⟩ := k.info
  simp [sizeOf, typeInfo, hx, hs]
theorem run_agg (k : TyOk P t i) : (isAgg t).run P w = .ok i.agg w := by
  simp only [isAgg, Sem.run_bind, run_und k, Result.andThen_ok, k.agg, aggD]
  cases i.under <;> rfl
theorem run_zero (k : TyOk P t i) {z : Value} (hz : i.zero = some z) : (zeroValue t).run P w = .ok z w := by
  obtain ⟨x, hx, _, _, hz', _⟩ := k.info
  simp [zeroValue, typeInfo, hx, hz', hz]
theorem run_info (k : TyOk P t i) : ∃ x, (∀ w, (typeInfo t).run P w = .ok x w) ∧ x.bytes = i.bytes ∧ x.size = i.size ∧ x.comparable = i.cmp := by
  obtain ⟨x, hx, hs, hb, _, hc⟩ := k.info
  exact ⟨x, fun w => by simp [typeInfo, hx], hb, hs, hc⟩
theorem zero_rel {ρ : Map} (k : TyOk P t i) {z : Value} (hz : i.zero = some z) : VRel ρ z z := plain_rel _ _ (k.zero z hz)
end
def RunsV (P : Program) (ρ : Map) (s : Sem Value) (v : Value) : Prop := ∃ v', VRel ρ v v' ∧ ∀ w, s.run P w = .ok v' w
theorem strL_list (s : ByteArray) : s.toList = strL s := ByteArray.toList_eq s
theorem str_beq (a b : ByteArray) : (a == b) = (strL a == strL b) := by
  cases a; cases b
  rename_i x y
  show (x == y) = (x.toList == y.toList)
  rw [Bool.eq_iff_iff, beq_iff_eq, beq_iff_eq]
  exact ⟨fun h => by rw [h], fun h => Array.ext' h⟩
theorem strL_size (s : ByteArray) : (strL s).length = s.size := rfl
theorem extract_eq (s : ByteArray) (l h : Nat) : s.extract l h = strOf (((strL s).drop l).take (h - l)) := by
  have := ByteArray.extract_mk (strL s) l h
  exact this
theorem append_eq (a b : ByteArray) : a ++ b = strOf (strL a ++ strL b) := by
  apply ByteArray.ext
  simp [strOf, strL, ByteArray.data_append]
section
variable {P : Program} {E : Env} {ρ : Map}
theorem VRel.int_inv {k : IntKind} {n : Int} {v' : Value} (h : VRel ρ (.int k n) v') : v' = .int k n := by cases h; rfl
theorem VRel.bool_inv {b : Bool} {v' : Value} (h : VRel ρ (.bool b) v') : v' = .bool b := by cases h; rfl
theorem VRel.string_inv {s : ByteArray} {v' : Value} (h : VRel ρ (.string s) v') : v' = .string s := by cases h; rfl
theorem intOf_inv {v v' : Value} {n : Int} (hr : VRel ρ v v') (h : intOf v = some n) : ∃ k, v = .int k n ∧ v' = .int k n := by
  cases v <;> simp [intOf] at h
  subst h; exact ⟨_, rfl, hr.int_inv⟩
theorem cmp_run {op : BinOp} {x y : Int} {v : Value} (h : cmpV op x y = some v) : (∀ w, (Op.intCmp op x y).run P w = .ok v w) ∧ VRel ρ v v := by
  cases op <;> simp [cmpV] at h <;> subst h <;> exact ⟨fun w => rfl, .bool _⟩
theorem bit_run {op : BinOp} {k : IntKind} {x y : Int} {v : Value} (h : bitV op k x y = some v) : (∀ w, (Op.intBits op k x y).run P w = .ok v w) ∧ VRel ρ v v := by
  cases op <;> simp only [bitV, Option.some.injEq, reduceCtorEq] at h <;> subst h <;> exact ⟨fun w => rfl, .int _ _⟩
theorem str_run {op : BinOp} {x y : ByteArray} {v : Value} (h : strV op x y = some v) : (∀ w, (Op.stringOp op x y).run P w = .ok v w) ∧ VRel ρ v v := by
  unfold strV at h
  unfold Op.stringOp
  simp only [strL_list]
  cases op <;> simp only [Option.some.injEq, reduceCtorEq] at h
  case add =>
    split at h
    · cases h
      rename_i hle
      refine ⟨fun w => ?_, .string _⟩
      rw [if_neg (by simp only [IntKind.max, IntKind.signed, IntKind.bits]; simp; omega), append_eq]; rfl
    · cases h
  all_goals (subst h; exact ⟨fun w => rfl, .bool _⟩)
theorem arith_run {op : BinOp} {t : TypeId} {k : IntKind} {x y : Int} {v : Value} (h : arithV op k x y = some v) : (∀ w, (binOp op t (.int k x) (.int k y)).run P w = .ok v w) ∧ VRel ρ v v := by
  cases op <;> simp only [arithV] at h
  case add => cases h; exact ⟨fun w => by simp [binOp, Op.intArith], .int _ _⟩
  case sub => cases h; exact ⟨fun w => by simp [binOp, Op.intArith], .int _ _⟩
  case mul => cases h; exact ⟨fun w => by simp [binOp, Op.intArith], .int _ _⟩
  case quo => split at h; cases h; cases h; rename_i hy; exact ⟨fun w => by simp [binOp, Op.intDiv, hy], .int _ _⟩
  case rem => split at h; cases h; cases h; rename_i hy; exact ⟨fun w => by simp [binOp, Op.intDiv, hy], .int _ _⟩
  case shl => split at h; cases h; cases h; rename_i hy; exact ⟨fun w => by simp [binOp, Op.shift, hy], .int _ _⟩
  case shr => split at h; cases h; cases h; rename_i hy; exact ⟨fun w => by simp [binOp, Op.shift, hy], .int _ _⟩
  case and => have := bit_run (P := P) (ρ := ρ) h; exact ⟨fun w => by simpa [binOp] using this.1 w, this.2⟩
  case or => have := bit_run (P := P) (ρ := ρ) h; exact ⟨fun w => by simpa [binOp] using this.1 w, this.2⟩
  case xor => have := bit_run (P := P) (ρ := ρ) h; exact ⟨fun w => by simpa [binOp] using this.1 w, this.2⟩
  case andNot => have := bit_run (P := P) (ρ := ρ) h; exact ⟨fun w => by simpa [binOp] using this.1 w, this.2⟩
  all_goals (have := cmp_run (P := P) (ρ := ρ) h; exact ⟨fun w => by simpa [binOp] using this.1 w, this.2⟩)
theorem shift_run {op : BinOp} {t : TypeId} {k k' : IntKind} {x y : Int} {v : Value} (hs : op = .shl ∨ op = .shr) (h : arithV op k x y = some v) :
    (∀ w, (binOp op t (.int k x) (.int k' y)).run P w = .ok v w) ∧ VRel ρ v v := by
  rcases hs with rfl | rfl <;> simp only [arithV] at h <;> split at h <;> cases h <;> rename_i hy <;> exact ⟨fun w => by simp [binOp, Op.shift, hy], .int _ _⟩
theorem part_run {t : TypeId} {i : Ty} (k : TyOk P t i) {cs : List Value} {cs' : Array Value} {off : Nat} {v : Value} (hr : VRels ρ cs cs'.toList) (h : partV i cs off = some v) :
    ∃ v', VRel ρ v v' ∧ ∀ w, (part t cs' off).run P w = .ok v' w := by
  unfold partV at h
  unfold part
  by_cases ha : i.agg = true
  · rw [if_pos ha] at h
    split at h
    · cases h
      refine ⟨.agg (cs'.extract off (off + i.size)), ?_, fun w => by simp [run_agg k, run_size k, ha]⟩
      have : (cs'.extract off (off + i.size)) = ⟨(cs'.toList.drop off).take i.size⟩ := by
        apply Array.ext'; simp [Array.toList_extract, List.extract_eq_take_drop]
      rw [this]
      exact VRel.agg' ((hr.drop off).take i.size)
    · cases h
  · rw [if_neg ha] at h
    obtain ⟨v', hv', hrel⟩ := hr.get h
    refine ⟨v', hrel, fun w => ?_⟩
    have ha' : i.agg = false := by simpa using ha
    have : cs'[off]? = some v' := by rw [← Array.getElem?_toList]; exact hv'
    simp [run_agg k, ha', this]
theorem fields_run {E : Env} (ko : TysOk P E) {eq : TypeId → Value → Value → Option Bool} {eq' : TypeId → Value → Value → Sem Bool} {xs ys : List Value} {xs' ys' : Array Value}
    (hx : VRels ρ xs xs'.toList) (hy : VRels ρ ys ys'.toList)
    (he : ∀ t x y x' y' b, VRel ρ x x' → VRel ρ y y' → eq t x y = some b → ∀ w, (eq' t x' y').run P w = .ok b w) :
    ∀ (fs : List Field) (b : Bool), eqFields E eq xs ys fs = some b → ∃ r : Option Bool, r.getD true = b ∧ ∀ w,
      (forIn fs ((none, ()) : Option Bool × Unit) fun f _ =>
          if f.name = "_" then pure (ForInStep.yield (none, ())) else do
            let x ← part f.type xs' f.offset
            let y ← part f.type ys' f.offset
            let z ← eq' f.type x y
            if z = false then pure (ForInStep.done (some false, ())) else pure (ForInStep.yield (none, ())) : Sem (Option Bool × Unit)).run P w = .ok (r, ()) w := by
  intro fs
  induction fs with
  | nil => intro b h; simp [eqFields] at h; subst h; exact ⟨none, rfl, fun w => by simp⟩
  | cons f r ih =>
    intro b h
    unfold eqFields at h
    by_cases hn : f.name = "_"
    · rw [if_pos hn] at h
      obtain ⟨q, hq, hrun⟩ := ih b h
      refine ⟨q, hq, fun w => ?_⟩
      simp only [List.forIn_cons, hn, if_true, pure_bind]
      exact hrun w
    · rw [if_neg hn] at h
      simp only [Option.bind_eq_bind, Option.bind_eq_some_iff] at h
      obtain ⟨i, hi, x, hpx, y, hpy, h⟩ := h
      obtain ⟨x', rx, runx⟩ := part_run (ko _ _ hi) hx hpx
      obtain ⟨y', ry, runy⟩ := part_run (ko _ _ hi) hy hpy
      cases hq : eq f.type x y with
      | none => rw [hq] at h; cases h
      | some z =>
        rw [hq] at h
        have hz := he _ _ _ _ _ _ rx ry hq
        cases z with
        | true =>
          obtain ⟨q, hq, hrun⟩ := ih b h
          refine ⟨q, hq, fun w => ?_⟩
          simp only [List.forIn_cons, hn, if_false, bind_assoc, Sem.run_bind, runx, runy, Result.andThen_ok, hz]
          simpa using hrun w
        | false =>
          cases h
          exact ⟨some false, rfl, fun w => by simp [List.forIn_cons, hn, runx, runy, hz]⟩
theorem elems_run {e : TypeId} {i : Ty} (k : TyOk P e i) {eq : Value → Value → Option Bool} {eq' : Value → Value → Sem Bool} {xs ys : List Value} {xs' ys' : Array Value}
    (hx : VRels ρ xs xs'.toList) (hy : VRels ρ ys ys'.toList)
    (he : ∀ x y x' y' b, VRel ρ x x' → VRel ρ y y' → eq x y = some b → ∀ w, (eq' x' y').run P w = .ok b w) :
    ∀ (n s : Nat) (b : Bool), eqElems i eq xs ys n s = some b → ∃ r : Option Bool, r.getD true = b ∧ ∀ w,
      (forIn (List.range' s n) ((none, ()) : Option Bool × Unit) fun j _ => do
            let x ← part e xs' (j * i.size)
            let y ← part e ys' (j * i.size)
            let z ← eq' x y
            if z = false then pure (ForInStep.done (some false, ())) else pure (ForInStep.yield (none, ())) : Sem (Option Bool × Unit)).run P w = .ok (r, ()) w := by
  intro n
  induction n with
  | zero => intro s b h; simp [eqElems] at h; subst h; exact ⟨none, rfl, fun w => by simp⟩
  | succ n ih =>
    intro s b h
    unfold eqElems at h
    simp only [Option.bind_eq_bind, Option.bind_eq_some_iff] at h
    obtain ⟨x, hpx, y, hpy, h⟩ := h
    obtain ⟨x', rx, runx⟩ := part_run k hx hpx
    obtain ⟨y', ry, runy⟩ := part_run k hy hpy
    cases hq : eq x y with
    | none => rw [hq] at h; cases h
    | some z =>
      rw [hq] at h
      have hz := he _ _ _ _ _ rx ry hq
      cases z with
      | true =>
        obtain ⟨q, hq, hrun⟩ := ih (s + 1) b h
        refine ⟨q, hq, fun w => ?_⟩
        simp only [List.range'_succ, List.forIn_cons, bind_assoc, Sem.run_bind, runx, runy, Result.andThen_ok, hz]
        simpa using hrun w
      | false =>
        cases h
        exact ⟨some false, rfl, fun w => by simp [List.range'_succ, List.forIn_cons, runx, runy, hz]⟩
theorem eq_run (ko : TysOk P E) : ∀ (d : Nat) (t : TypeId) (x y x' y' : Value) (b : Bool), VRel ρ x x' → VRel ρ y y' → eqV E d t x y = some b → ∀ w, (Op.equalIn d t x' y').run P w = .ok b w := by
  intro d
  induction d with
  | zero => intro t x y x' y' b _ _ h; simp [eqV] at h
  | succ d ih =>
    intro t x y x' y' b hx hy h w
    unfold eqV at h
    simp only [Option.bind_eq_bind, Option.bind_eq_some_iff] at h
    obtain ⟨i, hi, h⟩ := h
    have k := ko _ _ hi
    unfold Op.equalIn
    simp only [Sem.run_bind, run_und k, Result.andThen_ok]
    split at h
    · rename_i hu; cases hx; cases hy; simp only [hu]; cases h; rfl
    · rename_i hu
      split at h
      · rename_i he; subst he; cases hx; cases hy; simp only [hu]; cases h; simp
      · cases h
    · rename_i hu; cases hx; cases hy; simp only [hu, str_beq]; cases h; rfl
    · rename_i hu; cases hx; simp only [hu]; cases h; cases hy <;> rfl
    · rename_i hu; cases hx; cases hy; simp only [hu]; cases h; rfl
    · rename_i e a b hu
      simp only [Option.bind_eq_some_iff] at h
      obtain ⟨j, hj, h⟩ := h
      split at h
      · rename_i hab
        subst hab
        cases h
        cases hx with
        | ptr c o q hq =>
          cases hy with
          | ptr _ _ q2 hq2 =>
            rw [hq] at hq2
            cases hq2
            simp [hu, run_size (ko _ _ hj), run_sameAddr_same]
      · cases h
    · rename_i hu; cases hx; cases hy; simp only [hu]; cases h; rfl
    · rename_i hu; cases hx; cases hy; simp only [hu]; cases h; rfl
    · rename_i hu; cases hx; cases hy; simp only [hu]; cases h; rfl
    · rename_i hu; cases hx <;> (simp only [hu]; cases h; cases hy <;> rfl)
    · rename_i hu; cases hx <;> cases hy <;> (simp only [hu]; cases h; rfl)
    · rename_i hu; cases hx <;> (simp only [hu]; cases h; cases hy <;> rfl)
    · rename_i hu; cases hx; cases hy; simp only [hu]; cases h; rfl
    · rename_i hu; cases hx; cases hy; simp only [hu]; cases h; rfl
    · rename_i hu; cases hx; cases hy <;> (simp only [hu]; cases h; rfl)
    · rename_i hu; cases hx <;> cases hy <;> (simp only [hu]; cases h; rfl)
    · rename_i fs xs ys hu
      split at h
      · cases h
      · rename_i hh
        obtain ⟨xs', rfl, rx⟩ := hx.agg_inv
        obtain ⟨ys', rfl, ry⟩ := hy.agg_inv
        obtain ⟨q, rfl, hz⟩ := fields_run ko rx ry (eq := eqV E d) (eq' := Op.equalIn d) (fun t x y x' y' b hx hy he => ih t x y x' y' b hx hy he) fs.toList b h
        simp only [hu, Sem.run_bind, run_program, Result.andThen_ok, k.held (by simpa using hh), Bool.false_eq_true, if_false]
        rw [← Array.forIn_toList]
        simp [hz, -Array.forIn_toList]
        cases q <;> rfl
    · rename_i n e xs ys hu
      simp only [Option.bind_eq_some_iff] at h
      obtain ⟨j, hj, h⟩ := h
      obtain ⟨xs', rfl, rx⟩ := hx.agg_inv
      obtain ⟨ys', rfl, ry⟩ := hy.agg_inv
      obtain ⟨q, rfl, hz⟩ := elems_run (ko _ _ hj) rx ry (eq := eqV E d e) (eq' := Op.equalIn d e) (fun x y x' y' b hx hy he => ih e x y x' y' b hx hy he) n 0 b h
      simp only [hu, Sem.run_bind, run_size (ko _ _ hj), Result.andThen_ok]
      simp [Std.Legacy.Range.forIn_eq_forIn_range', hz]
      cases q <;> rfl
    · rename_i tx vx ty vy hu
      cases hx; cases hy
      simp only [hu]
      split at h
      · rename_i hne; cases h; simp [hne]
      · rename_i heq
        have heq : tx = ty := by simpa using heq
        subst heq
        simp only [Option.bind_eq_some_iff] at h
        obtain ⟨j, hj, h⟩ := h
        split at h
        · rename_i hc
          rename_i vx' rx vy' ry
          obtain ⟨q, hq, _, _, hcmp⟩ := run_info (ko _ _ hj)
          have := ih tx vx vy vx' vy' b rx ry h w
          simp [hq, hcmp, hc, this]
        · cases h
    · cases h
end
end Go.Vi
namespace Go.Vi
section
variable {P : Program} {E : Env} {ρ : Map}
theorem bind_some {α β : Type} {o : Option α} {f : α → Option β} {b : β} : (o >>= f) = some b ↔ ∃ a, o = some a ∧ f a = some b := by
  cases o <;> simp
theorem eqGuard_run (ko : TysOk P E) {op : BinOp} {t : TypeId} {x y : Operand} {a b a' b' : Value} (ha : VRel ρ a a') (hb : VRel ρ b b')
    (h : ((isNilIface a && isNilIface b && !(isConstO x || isConstO y)) || (isAggV a && isAggV b && ((E.ty t).map (·.eqg)).getD true)) = false) (w : World) :
    (eqGuard op t x y a' b').run P w = .ok () w := by
  unfold eqGuard
  cases op
  case eql =>
    simp only [Bool.not_true, Bool.false_eq_true, if_false]
    cases ha
    case nilIface =>
      cases hb
      case nilIface =>
        simp only [isNilIface, Bool.and_self, Bool.true_and, isAggV, Bool.false_and, Bool.or_false, Bool.not_eq_false'] at h
        cases x <;> cases y <;> simp_all [isConstO]
      all_goals simp
    case agg =>
      cases hb
      case agg =>
        simp only [isNilIface, isAggV, Bool.and_self, Bool.false_and, Bool.false_or, Bool.true_and] at h
        cases hi : E.ty t with
        | none => rw [hi] at h; simp at h
        | some i =>
          rw [hi] at h
          simp at h
          have := (ko _ _ hi).eqg h
          simp [this]
      all_goals simp
    all_goals simp
  case neq =>
    simp only [Bool.not_true, Bool.false_eq_true, if_false]
    cases ha
    case nilIface =>
      cases hb
      case nilIface =>
        simp only [isNilIface, Bool.and_self, Bool.true_and, isAggV, Bool.false_and, Bool.or_false, Bool.not_eq_false'] at h
        cases x <;> cases y <;> simp_all [isConstO]
      all_goals simp
    case agg =>
      cases hb
      case agg =>
        simp only [isNilIface, isAggV, Bool.and_self, Bool.false_and, Bool.false_or, Bool.true_and] at h
        cases hi : E.ty t with
        | none => rw [hi] at h; simp at h
        | some i =>
          rw [hi] at h
          simp at h
          have := (ko _ _ hi).eqg h
          simp [this]
      all_goals simp
    all_goals simp
  all_goals rfl
theorem eqV_bin (ko : TysOk P E) {op : BinOp} {t : TypeId} {a b a' b' : Value} {v : Value} (ha : VRel ρ a a') (hb : VRel ρ b b')
    (hint : ∀ k n k' m, ¬ (a = .int k n ∧ b = .int k' m)) (hstr : ∀ s u, ¬ (a = .string s ∧ b = .string u))
    (h : (match op with | .eql => (eqV E 10000 t a b).map Value.bool | .neq => (eqV E 10000 t a b).map fun b => Value.bool !b | _ => none) = some v) :
    (∀ w, (binOp op t a' b').run P w = .ok v w) ∧ VRel ρ v v := by
  cases op <;> simp only [reduceCtorEq, Option.map_eq_some_iff] at h
  · obtain ⟨z, hz, rfl⟩ := h
    refine ⟨fun w => ?_, .bool _⟩
    have := eq_run ko 10000 t a b a' b' z ha hb hz w
    cases ha <;> cases hb <;> first | exact absurd ⟨rfl, rfl⟩ (hint _ _ _ _) | exact absurd ⟨rfl, rfl⟩ (hstr _ _) | (simp [binOp, Op.equal, Op.maxDepth, this])
  · obtain ⟨z, hz, rfl⟩ := h
    refine ⟨fun w => ?_, .bool _⟩
    have := eq_run ko 10000 t a b a' b' z ha hb hz w
    cases ha <;> cases hb <;> first | exact absurd ⟨rfl, rfl⟩ (hint _ _ _ _) | exact absurd ⟨rfl, rfl⟩ (hstr _ _) | (simp [binOp, Op.equal, Op.maxDepth, this])
theorem bin_run (ko : TysOk P E) {op : BinOp} {t : TypeId} {x y : Operand} {a b a' b' : Value} {v : Value} (ha : VRel ρ a a') (hb : VRel ρ b b')
    (h : binV E op t (isConstO x || isConstO y) a b = some v) :
    RunsV P ρ (do eqGuard op t x y a' b'; binOp op t a' b') v := by
  refine ⟨v, ?_⟩
  unfold binV at h
  split at h
  · rename_i k n k' m
    rw [ha.int_inv, hb.int_inv]
    have hg : ∀ w, (eqGuard op t x y (.int k n) (.int k' m)).run P w = .ok () w := fun w => by
      cases op <;> rfl
    split at h
    · rename_i he; subst he
      have := arith_run (P := P) (ρ := ρ) (t := t) h
      exact ⟨this.2, fun w => by simp [hg, this.1]⟩
    · split at h
      · have := shift_run (P := P) (ρ := ρ) (t := t) (k' := k') (.inl rfl) h
        exact ⟨this.2, fun w => by simp [hg, this.1]⟩
      · have := shift_run (P := P) (ρ := ρ) (t := t) (k' := k') (.inr rfl) h
        exact ⟨this.2, fun w => by simp [hg, this.1]⟩
      · cases h
  · rename_i s u
    rw [ha.string_inv, hb.string_inv]
    have hg : ∀ w, (eqGuard op t x y (.string s) (.string u)).run P w = .ok () w := fun w => by
      cases op <;> rfl
    have := str_run (P := P) (ρ := ρ) h
    exact ⟨this.2, fun w => by
      have e : binOp op t (.string s) (.string u) = Op.stringOp op s u := by cases op <;> rfl
      simp [hg, e, this.1]⟩
  · rename_i hint hstr
    by_cases hg : ((isNilIface a && isNilIface b && !(isConstO x || isConstO y)) || (isAggV a && isAggV b && ((E.ty t).map (·.eqg)).getD true)) = true
    · rw [if_pos hg] at h; cases h
    · rw [if_neg hg] at h
      have hg := eqGuard_run ko (x := x) (y := y) ha hb (Bool.eq_false_iff.mpr hg) (op := op) (t := t)
      have := eqV_bin ko ha hb (fun k n k' m hh => hint _ _ _ _ hh.1 hh.2) (fun s u hh => hstr _ _ hh.1 hh.2) (op := op) (t := t) (v := v) (by cases op <;> exact h)
      exact ⟨this.2, fun w => by simp [hg, this.1]⟩
theorem un_run {op : UnOp} {x x' v : Value} (hx : VRel ρ x x') (h : unV op x = some v) : RunsV P ρ (Op.unary op x') v := by
  refine ⟨v, ?_⟩
  unfold unV at h
  split at h
  · rw [hx.int_inv]; cases h; exact ⟨.int _ _, fun w => rfl⟩
  · rw [hx.int_inv]; have := bit_run (P := P) (ρ := ρ) h; exact ⟨this.2, fun w => by simpa [Op.unary] using this.1 w⟩
  · rw [hx.bool_inv]; cases h; exact ⟨.bool _, fun w => rfl⟩
  · cases h
def ORelV (ρ : Map) (o o' : Option Value) : Prop := match o, o' with
  | none, none => True
  | some v, some v' => VRel ρ v v'
  | _, _ => False
theorem bound_run {x x' : Value} {y y' n : Nat} {c : BoundsCode} (hx : VRel ρ x x') (hy : y ≤ y') (h : boundV x y = some n) : n ≤ y ∧ ∀ w, (Instr.sliceBound x' y' c).run P w = .ok n w := by
  unfold boundV at h
  obtain ⟨i, hi, h2⟩ := bind_some.1 h
  obtain ⟨k, rfl, rfl⟩ := intOf_inv hx hi
  by_cases hb : 0 ≤ i ∧ i ≤ (y : Int)
  · rw [if_pos hb] at h2
    cases h2
    have : 0 ≤ i ∧ i ≤ (y' : Int) := ⟨hb.1, by omega⟩
    exact ⟨by omega, fun w => by simp [Instr.sliceBound, asIntOf, this]⟩
  · rw [if_neg hb] at h2; cases h2
theorem bounds_run {isS : Bool} {len cap cap' : Nat} {lo hi mx lo' hi' mx' : Option Value} {l h m : Nat} (hc : cap ≤ cap') (rl : ORelV ρ lo lo') (rh : ORelV ρ hi hi') (rm : ORelV ρ mx mx')
    (e : boundsV len cap lo hi mx = some (l, h, m)) :
    ∃ m', l ≤ h ∧ (hi ≠ none → h ≤ m) ∧ (hi = none → h = len) ∧ m ≤ cap ∧ m ≤ m' ∧ m' ≤ cap' ∧ (mx ≠ none → m' = m) ∧ (mx = none → m = cap ∧ m' = cap') ∧ ∀ w, (Instr.sliceBounds isS len cap' lo' hi' mx').run P w = .ok (l, h, m') w := by
  unfold boundsV at e
  simp only [Option.bind_eq_some_iff, Option.some.injEq, Prod.mk.injEq] at e
  obtain ⟨m0, hm, h0, hh, l0, hl, rfl, rfl, rfl⟩ := e
  have hmax : ∃ m', m0 ≤ cap ∧ m0 ≤ m' ∧ m' ≤ cap' ∧ (mx ≠ none → m' = m0) ∧ (mx = none → m0 = cap ∧ m' = cap') ∧
      (match mx' with | some v => ∀ c w, (Instr.sliceBound v cap' c).run P w = .ok m' w | none => m' = cap') := by
    cases mx with
    | none => cases mx' <;> simp [ORelV] at rm; cases hm; exact ⟨cap', Nat.le_refl _, hc, Nat.le_refl _, fun h => absurd rfl h, fun _ => ⟨rfl, rfl⟩, rfl⟩
    | some v =>
      cases mx' with
      | none => simp [ORelV] at rm
      | some v' => exact ⟨m0, (bound_run (P := P) (c := .slice3B) rm hc hm).1, Nat.le_refl _, by have := (bound_run (P := P) (c := .slice3B) rm hc hm).1; omega, fun _ => rfl, fun h => by simp at h, fun c => (bound_run rm hc hm).2⟩
  obtain ⟨m', q1, q2, q3, q4, q5, q6⟩ := hmax
  have hhi : (hi ≠ none → h0 ≤ m0) ∧ (hi = none → h0 = len ∧ mx = none) ∧ (match hi' with | some v => ∀ c w, (Instr.sliceBound v m' c).run P w = .ok h0 w | none => h0 = len) := by
    cases hi with
    | none =>
      cases hi' <;> simp [ORelV] at rh
      cases mx with
      | none => simp [hiB] at hh; exact ⟨fun h => absurd rfl h, fun _ => ⟨hh.symm, rfl⟩, hh.symm⟩
      | some v => simp [hiB] at hh
    | some v =>
      cases hi' with
      | none => simp [ORelV] at rh
      | some v' => exact ⟨fun _ => (bound_run (P := P) (c := .slice3B) rh q2 hh).1, fun h => by simp at h, fun c => (bound_run rh q2 hh).2⟩
  obtain ⟨p1, p2, p3⟩ := hhi
  have hlo : l0 ≤ h0 ∧ (match lo' with | some v => ∀ c w, (Instr.sliceBound v h0 c).run P w = .ok l0 w | none => l0 = 0) := by
    cases lo with
    | none => cases lo' <;> simp [ORelV] at rl; cases hl; exact ⟨Nat.zero_le _, rfl⟩
    | some v =>
      cases lo' with
      | none => simp [ORelV] at rl
      | some v' => exact ⟨(bound_run (P := P) (c := .slice3B) rl (Nat.le_refl h0) hl).1, fun c => (bound_run rl (Nat.le_refl h0) hl).2⟩
  obtain ⟨r1, r2⟩ := hlo
  refine ⟨m', r1, p1, fun h => (p2 h).1, q1, q2, q3, q4, q5, fun w => ?_⟩
  unfold Instr.sliceBounds
  cases mx' with
  | none =>
    simp only at q6; subst q6
    cases hi' with
    | none =>
      simp only at p3; subst p3
      cases lo' with
      | none => simp only at r2; subst r2; simp
      | some v => simp [r2]
    | some u =>
      simp only at p3
      cases lo' with
      | none => simp only at r2; subst r2; simp [p3]
      | some v => simp [r2, p3]
  | some s =>
    simp only at q6
    cases hi' with
    | none =>
      have : hi = none := by cases hi with | none => rfl | some v => simp [ORelV] at rh
      have := (p2 this).2
      rw [this] at rm; simp [ORelV] at rm
    | some u =>
      simp only at p3
      cases lo' with
      | none => simp only at r2; subst r2; simp [p3, q6]
      | some v => simp [r2, p3, q6]
end
end Go.Vi
namespace Go.Vi
section
variable {P : Program} {E : Env} {ρ : Map}
theorem add_rel {b o n : Nat} {i : Info} (h : ρ b = some i) (o' : Nat) (ho : o' = i.base + o) :
    VRel ρ (.pointer (some (Addr.add ⟨b, o, none⟩ n))) (.pointer (some (Addr.add ⟨i.blk, o', none⟩ n))) := by
  subst ho
  unfold Addr.add
  by_cases hn : n = 0
  · simp only [hn, if_true]; exact .ptr b o i h
  · simp only [hn, if_false]
    rw [Nat.add_assoc]
    exact .ptr b (o + n) i h
theorem ptr_inv {a : Addr} {v' : Value} (h : VRel ρ (.pointer (some a)) v') : ∃ i, ρ a.block = some i ∧ a.spot = none ∧ v' = .pointer (some ⟨i.blk, i.base + a.off, none⟩) := by
  cases h with
  | ptr b o i h => exact ⟨i, h, rfl, rfl⟩
theorem fieldAddr_run (ko : TysOk P E) {s : TypeId} {x x' v : Value} {f : Nat} (hx : VRel ρ x x') (h : fieldAddrV E s x f = some v) : RunsV P ρ (Instr.fieldAt s x' f) v := by
  unfold fieldAddrV at h
  replace h := bind_some.1 h; obtain ⟨i, hi, h⟩ := h
  split at h
  · rename_i fs a hu
    replace h := bind_some.1 h; obtain ⟨fd, hf, h⟩ := h
    replace h := bind_some.1 h; obtain ⟨e, he, h⟩ := h
    split at h
    · cases h
    · rename_i hs
      cases h
      obtain ⟨j, hj, hsp, rfl⟩ := ptr_inv hx
      obtain ⟨b, o, sp⟩ := a
      simp only at hsp hj; subst hsp
      refine ⟨_, add_rel (n := fd.offset) hj _ rfl, fun w => ?_⟩
      simp [Instr.fieldAt, run_und (ko _ _ hi), hu, hf, Instr.sureAddr, fieldPlace, run_size (ko _ _ he), hs]
  · cases h
theorem indexAddr_run (ko : TysOk P E) {t : TypeId} {x x' ix ix' v : Value} (hx : VRel ρ x x') (hix : VRel ρ ix ix') (h : indexAddrV E t x ix = some v) : RunsV P ρ (Instr.indexAt t x' ix') v := by
  unfold indexAddrV at h
  replace h := bind_some.1 h; obtain ⟨i, hi, h⟩ := h
  replace h := bind_some.1 h; obtain ⟨n, hn, h⟩ := h
  obtain ⟨k, rfl, rfl⟩ := intOf_inv hix hn
  split at h
  · rename_i len elem a hu
    replace h := bind_some.1 h; obtain ⟨e, he, h⟩ := h
    split at h
    · rename_i hb
      cases h
      obtain ⟨j, hj, hsp, rfl⟩ := ptr_inv hx
      obtain ⟨b, o, sp⟩ := a
      simp only at hsp hj; subst hsp
      refine ⟨_, add_rel (n := n.toNat * e.size) hj _ rfl, fun w => ?_⟩
      have : 0 ≤ n ∧ n < (len : Int) := ⟨hb.1, hb.2.1⟩
      simp [Instr.indexAt, asIntOf, run_und (ko _ _ hi), hu, Instr.sureAddr, run_size (ko _ _ he), this]
    · cases h
  · rename_i elem a len cap hu
    replace h := bind_some.1 h; obtain ⟨e, he, h⟩ := h
    split at h
    · rename_i hb
      cases h
      cases hx with
      | sliceE a => have := hb.2.1; omega
      | slice b o _ _ j o' cap' hj hl ho hc hn' hr =>
        have ho : o' = j.base + o := by
          rcases ho with ho | ho
          · exact ho
          · have := hb.2.1; omega
        refine ⟨_, add_rel (n := n.toNat * e.size) hj o' ho, fun w => ?_⟩
        have : 0 ≤ n ∧ n < (len : Int) := ⟨hb.1, hb.2.1⟩
        simp [Instr.indexAt, asIntOf, run_und (ko _ _ hi), hu, run_size (ko _ _ he), this]
    · cases h
  · cases h
theorem index_run (ko : TysOk P E) {t : TypeId} {x x' ix ix' v : Value} (hx : VRel ρ x x') (hix : VRel ρ ix ix') (h : indexV E t x ix = some v) : RunsV P ρ (Instr.index t x' ix') v := by
  unfold indexV at h
  replace h := bind_some.1 h; obtain ⟨i, hi, h⟩ := h
  replace h := bind_some.1 h; obtain ⟨n, hn, h⟩ := h
  obtain ⟨k, rfl, rfl⟩ := intOf_inv hix hn
  split at h
  · rename_i len elem cs hu
    replace h := bind_some.1 h; obtain ⟨e, he, h⟩ := h
    split at h
    · rename_i hb
      obtain ⟨cs', rfl, rc⟩ := hx.agg_inv
      obtain ⟨v', rv, run⟩ := part_run (ko _ _ he) rc h
      exact ⟨v', rv, fun w => by simp [Instr.index, asIntOf, run_und (ko _ _ hi), hu, run_size (ko _ _ he), hb, run]⟩
    · cases h
  · rename_i s hu
    split at h
    · rename_i hb
      rw [hx.string_inv]
      obtain ⟨c, hc, rfl⟩ := Option.map_eq_some_iff.1 h
      have hc' : s[n.toNat]? = some c := by
        have : s.data[n.toNat]? = some c := by rw [← Array.getElem?_toList]; exact hc
        obtain ⟨hlt, hget⟩ := Array.getElem?_eq_some_iff.1 this
        exact getElem?_pos s n.toNat hlt |>.trans (by rw [← hget]; rfl)
      exact ⟨_, .int _ _, fun w => by simp [Instr.index, asIntOf, run_und (ko _ _ hi), hu, hb, hc']⟩
    · cases h
  · cases h
theorem field_run (ko : TysOk P E) {t : TypeId} {x x' v : Value} {f : Nat} (hx : VRel ρ x x') (h : fieldV E t x f = some v) : RunsV P ρ (Instr.field t x' f) v := by
  unfold fieldV at h
  replace h := bind_some.1 h; obtain ⟨i, hi, h⟩ := h
  split at h
  · rename_i fs cs hu
    replace h := bind_some.1 h; obtain ⟨fd, hf, h⟩ := h
    replace h := bind_some.1 h; obtain ⟨e, he, h⟩ := h
    obtain ⟨cs', rfl, rc⟩ := hx.agg_inv
    obtain ⟨v', rv, run⟩ := part_run (ko _ _ he) rc h
    exact ⟨v', rv, fun w => by simp [Instr.field, run_und (ko _ _ hi), hu, hf, asAgg, run]⟩
  · cases h
def PRel (ρ : Map) (l l' : List (Nat × Value)) : Prop := l.length = l'.length ∧ ∀ (j : Nat) (p p' : Nat × Value), l[j]? = some p → l'[j]? = some p' → p.1 = p'.1 ∧ VRel ρ p.2 p'.2
theorem PRel.cons_inv {ρ : Map} {n : Nat} {v : Value} {l l' : List (Nat × Value)} (h : PRel ρ ((n, v) :: l) l') : ∃ v' r', l' = (n, v') :: r' ∧ VRel ρ v v' ∧ PRel ρ l r' := by
  cases l' with
  | nil => have := h.1; simp at this
  | cons p r' =>
    obtain ⟨m, v'⟩ := p
    have := h.2 0 (n, v) (m, v') rfl rfl
    simp only at this
    obtain ⟨rfl, hv⟩ := this
    exact ⟨v', r', rfl, hv, by simpa using h.1, fun j p p' hp hp' => h.2 (j + 1) p p' (by simpa using hp) (by simpa using hp')⟩
theorem put_cells (off : Nat) : ∀ (l : List Value) (j : Nat) (cs : Array Value), off + j + l.length ≤ cs.size →
    (((l.zipIdx j).foldl (fun (cs : Array Value) (p : Value × Nat) => cs.setIfInBounds (off + p.2) p.1) cs).toList = splice cs.toList (off + j) l) := by
  intro l
  induction l with
  | nil => intro j cs h; simp [splice]
  | cons v l ih =>
    intro j cs h
    simp only [List.length_cons] at h
    simp only [List.zipIdx_cons, List.foldl_cons]
    rw [ih (j + 1) _ (by simp; omega)]
    unfold splice
    simp only [Array.toList_setIfInBounds, List.length_cons]
    have e1 : (cs.toList.set (off + j) v).take (off + (j + 1)) = cs.toList.take (off + j) ++ [v] := by
      rw [show off + (j + 1) = (off + j) + 1 by omega, List.take_succ_eq_append_getElem (by simp; omega), List.take_set_of_le (Nat.le_refl _)]
      simp
    have e2 : (cs.toList.set (off + j) v).drop (off + (j + 1) + l.length) = cs.toList.drop (off + j + (l.length + 1)) := by
      rw [List.drop_set_of_lt (by omega)]
      congr 1; omega
    rw [e1, e2]
    simp
theorem fill_run {place place' : Nat → Option (Nat × Nat)} (hp : ∀ n x, place n = some x → place' n = some x) : ∀ (l : List (Nat × Value)) (l' : List (Nat × Value)) (cs : List Value) (cs' : Array Value) (out : List Value),
    VRels ρ cs cs'.toList → PRel ρ l l' → fillV place cs l = some out → ∃ out', Instr.fill place' cs' l' = some out' ∧ VRels ρ out out'.toList := by
  intro l
  induction l with
  | nil =>
    intro l' cs cs' out hc hl h
    have : l' = [] := by have := hl.1; cases l' <;> simp_all
    subst this
    simp only [fillV] at h; cases h
    exact ⟨cs', rfl, hc⟩
  | cons p l ih =>
    intro l' cs cs' out hc hl h
    obtain ⟨n, v⟩ := p
    obtain ⟨v', r', rfl, hv, hr⟩ := hl.cons_inv
    simp only [fillV] at h
    cases hpl : place n with
    | none => rw [hpl] at h; cases h
    | some x =>
      obtain ⟨off, size⟩ := x
      rw [hpl] at h
      simp only at h
      split at h
      · rename_i hs
        have hcells := hv.cells
        have hlen : v'.cells.size = size := by rw [← hs.1, hcells.1.1]; simp
        have hcs : cs.length = cs'.size := by rw [hc.1]; simp
        have hput := put_cells off v'.cells.toList 0 cs' (by simp; omega)
        have := ih r' (splice cs off (cellsOf v)) ((v'.cells.toList.zipIdx).foldl (fun (cs : Array Value) (p : Value × Nat) => cs.setIfInBounds (off + p.2) p.1) cs') out
          (by rw [hput]; exact hc.splice off hcells.1) hr h
        obtain ⟨out', ho, rel⟩ := this
        refine ⟨out', ?_, rel⟩
        simp only [Instr.fill, hp _ _ hpl]
        rw [if_neg (by simp; omega), ← ho]
        congr 1
        rw [← Array.foldl_toList]
        simp
      · cases h
theorem parts_rel {ev ev' : Operand → Value} (he : ∀ x, VRel ρ (ev x) (ev' x)) (ps : Array (Nat × Operand)) : PRel ρ (partsV ev ps) (ps.map fun (i, x) => (i, ev' x)).toList := by
  unfold partsV
  refine ⟨by simp, fun j p p' hp hp' => ?_⟩
  simp only [Array.toList_map, List.getElem?_map, Option.map_eq_some_iff] at hp hp'
  obtain ⟨q, hq, rfl⟩ := hp
  obtain ⟨q', hq', rfl⟩ := hp'
  rw [hq] at hq'; cases hq'
  exact ⟨rfl, he _⟩
theorem build_run (ko : TysOk P E) {t : TypeId} {ev ev' : Operand → Value} (he : ∀ x, VRel ρ (ev x) (ev' x)) {ps : Array (Nat × Operand)} {v : Value} (h : buildV E t (partsV ev ps) = some v) :
    RunsV P ρ (Instr.build t (ps.map fun (i, x) => (i, ev' x))) v := by
  unfold buildV at h
  replace h := bind_some.1 h; obtain ⟨i, hi, h⟩ := h
  replace h := bind_some.1 h; obtain ⟨z, hz, h⟩ := h
  have hzr : VRels ρ (cellsOf z) z.cells.toList := (zero_rel (ρ := ρ) (ko _ _ hi) hz).cells.1
  split at h
  · rename_i fs hu
    replace h := bind_some.1 h; obtain ⟨pl, hpl, h⟩ := h
    obtain ⟨out, ho, rfl⟩ := Option.map_eq_some_iff.1 h
    obtain ⟨out', hf, rel⟩ := fill_run (place' := (pl.toArray[·]?)) (fun n x h => by simpa using h) _ _ _ _ _ hzr (parts_rel he ps) ho
    refine ⟨.agg out', VRel.agg' rel, fun w => run_build w t _ out' ?_⟩
    obtain ⟨x, hx, _, _, hz', _⟩ := (ko _ _ hi).info
    have hp := (ko _ _ hi).places fs pl hu hpl
    unfold Program.built
    rw [hx, (ko _ _ hi).under, hu]
    simp only [hz', hz, hp, hf]
  · rename_i n elem hu
    replace h := bind_some.1 h; obtain ⟨e, he', h⟩ := h
    obtain ⟨out, ho, rfl⟩ := Option.map_eq_some_iff.1 h
    obtain ⟨out', hf, rel⟩ := fill_run (place' := fun i => some (i * e.size, e.size)) (fun _ _ h => h) _ _ _ _ _ hzr (parts_rel he ps) ho
    refine ⟨.agg out', VRel.agg' rel, fun w => run_build w t _ out' ?_⟩
    obtain ⟨x, hx, _, _, hz', _⟩ := (ko _ _ hi).info
    obtain ⟨y, hy, hys, _⟩ := (ko _ _ he').info
    unfold Program.built
    rw [hx, (ko _ _ hi).under, hu]
    simp only [hz', hz, hy, hys, hf]
  · cases h
end
end Go.Vi
