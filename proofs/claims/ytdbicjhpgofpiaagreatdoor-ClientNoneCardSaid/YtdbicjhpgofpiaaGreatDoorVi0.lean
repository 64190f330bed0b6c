/- Vi0: a deterministic interpreter over an abstract heap: its definitions. No program in sight. -/
import Derived.Orders
namespace Go.Vi

/-! ## The heap: a trie of blocks -/
inductive Trie (α : Type) where
  | leaf
  | node (l : Trie α) (v : Option α) (r : Trie α)
def bitsAt : Nat → Nat → List Bool
  | 0, _ => []
  | f + 1, n => if n = 0 then [] else (n % 2 == 1) :: bitsAt f (n / 2)
def bits (n : Nat) : List Bool := bitsAt n n
def Trie.get {α : Type} : Trie α → List Bool → Option α
  | .leaf, _ => none
  | .node _ v _, [] => v
  | .node l _ r, b :: p => match b with | true => r.get p | false => l.get p
def Trie.put {α : Type} (x : Option α) : List Bool → Trie α → Trie α
  | [], .leaf => .node .leaf x .leaf
  | [], .node l _ r => .node l x r
  | b :: p, .leaf => match b with | true => .node .leaf none (Trie.put x p .leaf) | false => .node (Trie.put x p .leaf) none .leaf
  | b :: p, .node l v r => match b with | true => .node l v (Trie.put x p r) | false => .node (Trie.put x p l) v r

structure Plan where
  heavy : List Nat
  lo : List Nat
  hi : List Nat
  deriving DecidableEq

/-- a loop over a function. -/
structure LoopV where
  st : LoopState
  pending : Option Code
  tmps : List Value
  params : Array Tmp
  assign : Code
  body : Code
  plan : Nat → Option Plan

inductive Blk where
  | cells (cs : List Value) (wr : Bool) (opn : Option (Nat × Nat))
  | map (es : List MapEntry) (clock : Nat)
  | loop (r : LoopV)
  | sit (s : ByteArray) (pos : Nat)
  | mit (m : Option Nat) (since : Nat) (seen : List Nat) (last : Nat)
  | chan (cap : Nat) (buf : List Value)

structure Heap where
  next : Nat
  tr : Trie Blk
def Heap.get (h : Heap) (b : Nat) : Option Blk := h.tr.get (bits b)
def Heap.set (h : Heap) (b : Nat) (o : Blk) : Heap := { h with tr := Trie.put (some o) (bits b) h.tr }
def Heap.kill (h : Heap) (b : Nat) : Heap := { h with tr := Trie.put none (bits b) h.tr }
def Heap.new (h : Heap) (o : Blk) : Heap := { next := h.next + 1, tr := Trie.put (some o) (bits h.next) h.tr }

/-! ## What is known of the program -/
structure Ty where
  under : TypeDesc
  agg : Bool
  size : Nat
  bytes : Nat
  zero : Option Value
  eqg : Bool
  held : Bool
  cmp : Bool
  places : Option (List (Nat × Nat))
  /-- a struct whose first field points to such a struct: its blocks bear their type. -/
  tag : Bool := false

structure Fun where
  fn : Func
  body : Code
  plan : Nat → Option Plan

structure Env where
  ty : TypeId → Option Ty
  fn : FuncId → Option Fun
  meth : TypeId → String → Option FuncId
  ext : FuncId → Option (List Value → Heap → Option (Value × Heap))
  row : FuncId → Option (List Value → Heap → Option (Value × Heap))

/-! ## Values -/
def cellsOf : Value → List Value
  | .agg cs => cs.toList
  | v => [v]
def aggOf (l : List Value) : Value := .agg ⟨l⟩
def ofCells (agg : Bool) (l : List Value) : Option Value :=
  if agg then some (aggOf l) else match l with | [v] => some v | _ => none
def strL (s : ByteArray) : List UInt8 := s.data.toList
def strOf (l : List UInt8) : ByteArray := ⟨⟨l⟩⟩
def byteV (b : UInt8) : Value := .int .u8 b.toNat
def unbyte : Value → Option UInt8
  | .int .u8 n => some (UInt8.ofNat n.toNat)
  | _ => none
def unbytes : List Value → Option (List UInt8)
  | [] => some []
  | v :: r => match unbyte v, unbytes r with | some b, some l => some (b :: l) | _, _ => none

mutual
def veq : Nat → Value → Value → Bool
  | 0, _, _ => false
  | n + 1, x, y => match x, y with
    | .bool a, .bool b => a == b
    | .int j a, .int k b => j == k && a == b
    | .string a, .string b => strL a == strL b
    | .pointer a, .pointer b => a == b
    | .slice a l c, .slice b m d => a == b && l == m && c == d
    | .map a, .map b => a == b
    | .chan a, .chan b => a == b
    | .func f x1 y1, .func g x2 y2 => f == g && veqs n x1.toList x2.toList && veqs n y1.toList y2.toList
    | .nilFunc, .nilFunc => true
    | .iface t v, .iface u w => t == u && veq n v w
    | .nilIface, .nilIface => true
    | .agg a, .agg b => veqs n a.toList b.toList
    | .tuple a, .tuple b => veqs n a.toList b.toList
    | _, _ => false
def veqs : Nat → List Value → List Value → Bool
  | 0, _, _ => false
  | n + 1, l, m => match l, m with
    | [], [] => true
    | x :: r, y :: s => veq n x y && veqs n r s
    | _, _ => false
end

/-- values without addresses. -/
def plainB : Nat → Value → Bool
  | 0, _ => false
  | n + 1, v => match v with
    | .bool _ | .int _ _ | .string _ | .pointer none | .map none | .chan none | .nilFunc | .nilIface => true
    | .slice none 0 0 => true
    | .iface _ v => plainB n v
    | .agg l => l.toList.all (plainB n)
    | .tuple l => l.toList.all (plainB n)
    | .func (.func _) l c => l.toList.isEmpty && c.toList.isEmpty
    | _ => false
def okOperand : Operand → Bool
  | .const v => plainB 100 v
  | .global _ => false
  | _ => true

/-! ## Cells -/
def rdN (h : Heap) (a : Addr) (n : Nat) : Option (List Value) :=
  match a.spot, h.get a.block with
  | none, some (.cells cs _ _) => if a.off + n ≤ cs.length then some ((cs.drop a.off).take n) else none
  | _, _ => none
def splice (cs : List Value) (off : Nat) (l : List Value) : List Value := cs.take off ++ l ++ cs.drop (off + l.length)
def wrN (h : Heap) (a : Addr) (l : List Value) : Option Heap :=
  match a.spot, h.get a.block with
  | none, some (.cells cs true o) => if a.off + l.length ≤ cs.length then some (h.set a.block (.cells (splice cs a.off l) true o)) else none
  | _, _ => none
def oneCell (v : Value) : Bool := match v with | .agg _ => false | .tuple _ => false | _ => true
def ptrOf : Value → Option Addr
  | .pointer (some a) => if a.spot.isNone then some a else none
  | _ => none

def loadV (E : Env) (t : TypeId) (p : Value) (h : Heap) : Option Value := do
  let i ← E.ty t
  let a ← ptrOf p
  let l ← rdN h a i.size
  if i.agg then some (aggOf l) else if i.size = 1 then ofCells false l else none
def storeV (E : Env) (t : TypeId) (p v : Value) (h : Heap) : Option Heap := do
  let i ← E.ty t
  let a ← ptrOf p
  let l := cellsOf v
  if l.length = i.size ∧ l.all oneCell then wrN h a l else none

/-! ## Operations without memory -/
def fillV (place : Nat → Option (Nat × Nat)) : List Value → List (Nat × Value) → Option (List Value)
  | cs, [] => some cs
  | cs, (i, v) :: r =>
    match place i with
    | none => none
    | some (off, size) =>
      let l := cellsOf v
      if l.length = size ∧ off + size ≤ cs.length then fillV place (splice cs off l) r else none
def partsV (ev : Operand → Value) (ps : Array (Nat × Operand)) : List (Nat × Value) := ps.toList.map fun (i, x) => (i, ev x)
def rep (n : Nat) (l : List Value) : List Value := (List.replicate n l).flatten
def zeros (i : Ty) (n : Nat) : Option (List Value) := do
  let z ← i.zero
  if (cellsOf z).length = i.size then some (rep n (cellsOf z)) else none

def partV (i : Ty) (cs : List Value) (off : Nat) : Option Value :=
  if i.agg then if off + i.size ≤ cs.length then some (aggOf ((cs.drop off).take i.size)) else none else cs[off]?

def eqFields (E : Env) (eq : TypeId → Value → Value → Option Bool) (xs ys : List Value) : List Field → Option Bool
  | [] => some true
  | f :: r =>
    if f.name = "_" then eqFields E eq xs ys r else do
    let i ← E.ty f.type
    let x ← partV i xs f.offset
    let y ← partV i ys f.offset
    match eq f.type x y with
    | some true => eqFields E eq xs ys r
    | some false => some false
    | none => none
def eqElems (i : Ty) (eq : Value → Value → Option Bool) (xs ys : List Value) : Nat → Nat → Option Bool
  | 0, _ => some true
  | n + 1, k => do
    let x ← partV i xs (k * i.size)
    let y ← partV i ys (k * i.size)
    match eq x y with
    | some true => eqElems i eq xs ys n (k + 1)
    | some false => some false
    | none => none
def eqV (E : Env) : Nat → TypeId → Value → Value → Option Bool
  | 0, _, _, _ => none
  | d + 1, t, x, y => do
    let i ← E.ty t
    match i.under, x, y with
    | .bool, .bool a, .bool b => some (a == b)
    | .int _, .int k a, .int k' b => if k = k' then some (a == b) else none
    | .string, .string a, .string b => some (strL a == strL b)
    | .pointer _, .pointer none, .pointer b => some b.isNone
    | .pointer _, .pointer (some _), .pointer none => some false
    | .interface _, .nilIface, .nilIface => some true
    | .interface _, .nilIface, .iface _ _ => some false
    | .interface _, .iface _ _, .nilIface => some false
    | .slice _, .slice none _ _, .slice b _ _ => some b.isNone
    | .slice _, .slice (some _) _ _, .slice none _ _ => some false
    | .map _ _, .map none, .map b => some b.isNone
    | .map _ _, .map (some _), .map none => some false
    | .func _ _ _, .nilFunc, .nilFunc => some true
    | .func _ _ _, .nilFunc, .func _ _ _ => some false
    | .func _ _ _, .func _ _ _, .nilFunc => some false
    | .struct fs, .agg xs, .agg ys => if i.held then none else eqFields E (eqV E d) xs.toList ys.toList fs.toList
    | .array n e, .agg xs, .agg ys => do
      let j ← E.ty e
      eqElems j (eqV E d e) xs.toList ys.toList n 0
    | .interface _, .iface tx vx, .iface ty vy =>
      if tx ≠ ty then some false else do
      let j ← E.ty tx
      if j.cmp then eqV E d tx vx vy else none
    | _, _, _ => none

def cmpV (op : BinOp) (x y : Int) : Option Value :=
  match op with
  | .eql => some (.bool (x == y))
  | .neq => some (.bool (x != y))
  | .lss => some (.bool (decide (x < y)))
  | .leq => some (.bool (decide (x ≤ y)))
  | .gtr => some (.bool (decide (x > y)))
  | .geq => some (.bool (decide (x ≥ y)))
  | _ => none
def strV (op : BinOp) (x y : ByteArray) : Option Value :=
  let eq := strL x == strL y
  let lt := Op.bytesLess (strL x) (strL y)
  match op with
  | .add => if x.size + y.size ≤ 2 ^ 62 then some (.string (strOf (strL x ++ strL y))) else none
  | .eql => some (.bool eq)
  | .neq => some (.bool !eq)
  | .lss => some (.bool lt)
  | .leq => some (.bool (lt || eq))
  | .gtr => some (.bool !(lt || eq))
  | .geq => some (.bool !lt)
  | _ => none
def bitV (op : BinOp) (k : IntKind) (x y : Int) : Option Value :=
  let a := BitVec.ofInt k.bits x
  let b := BitVec.ofInt k.bits y
  match op with
  | .and => some (.int k (k.wrap (a &&& b).toNat))
  | .or => some (.int k (k.wrap (a ||| b).toNat))
  | .xor => some (.int k (k.wrap (a ^^^ b).toNat))
  | .andNot => some (.int k (k.wrap (a &&& ~~~b).toNat))
  | _ => none
def arithV (op : BinOp) (k : IntKind) (x y : Int) : Option Value :=
  match op with
  | .add => some (.int k (k.wrap (x + y)))
  | .sub => some (.int k (k.wrap (x - y)))
  | .mul => some (.int k (k.wrap (x * y)))
  | .quo => if y = 0 then none else some (.int k (k.wrap (x.tdiv y)))
  | .rem => if y = 0 then none else some (.int k (x.tmod y))
  | .shl => if y < 0 then none else some (.int k (k.wrap (x * 2 ^ (min y.toNat k.bits))))
  | .shr => if y < 0 then none else some (.int k (x.fdiv (2 ^ (min y.toNat k.bits))))
  | .and | .or | .xor | .andNot => bitV op k x y
  | _ => cmpV op x y
def isNilIface : Value → Bool
  | .nilIface => true
  | _ => false
def isAggV : Value → Bool
  | .agg _ => true
  | _ => false
def binV (E : Env) (op : BinOp) (t : TypeId) (cst : Bool) (x y : Value) : Option Value :=
  match x, y with
  | .int k a, .int k' b =>
    if k = k' then arithV op k a b else
    match op with
    | .shl | .shr => arithV op k a b
    | _ => none
  | .string a, .string b => strV op a b
  | x, y =>
    if (isNilIface x && isNilIface y && !cst) || (isAggV x && isAggV y && ((E.ty t).map (·.eqg)).getD true) then none else
    match op with
    | .eql => (eqV E 10000 t x y).map .bool
    | .neq => (eqV E 10000 t x y).map fun b => .bool !b
    | _ => none
def unV (op : UnOp) (x : Value) : Option Value :=
  match op, x with
  | .neg, .int k n => arithV .sub k 0 n
  | .xor, .int k n => bitV .xor k (if k.signed then -1 else k.max) n
  | .not, .bool b => some (.bool !b)
  | _, _ => none

def intOf : Value → Option Int
  | .int _ n => some n
  | _ => none
def boundV (x : Value) (y : Nat) : Option Nat := do
  let i ← intOf x
  if 0 ≤ i ∧ i ≤ y then some i.toNat else none
def mxB (max : Option Value) (cap : Nat) : Option Nat :=
  match max with
  | some v => boundV v cap
  | none => some cap
def hiB (high max : Option Value) (m len : Nat) : Option Nat :=
  match high with
  | some v => boundV v m
  | none => if max.isSome then none else some len
def loB (low : Option Value) (h : Nat) : Option Nat :=
  match low with
  | some v => boundV v h
  | none => some 0
def boundsV (len cap : Nat) (low high max : Option Value) : Option (Nat × Nat × Nat) :=
  (mxB max cap).bind fun m => (hiB high max m len).bind fun h => (loB low h).bind fun l => some (l, h, m)
def sliceV (E : Env) (t : TypeId) (x : Value) (low high max : Option Value) : Option Value := do
  let i ← E.ty t
  match i.under, x with
  | .string, .string s =>
    if max.isSome then none else do
    let (l, h, _) ← boundsV s.size s.size low high none
    some (.string (strOf (((strL s).drop l).take (h - l))))
  | _, _ => none
def fieldAddrV (E : Env) (s : TypeId) (x : Value) (f : Nat) : Option Value := do
  let i ← E.ty s
  match i.under, x with
  | .struct fs, .pointer (some a) => do
    let f ← fs[f]?
    let e ← E.ty f.type
    if e.size = 0 then none else some (.pointer (some (a.add f.offset)))
  | _, _ => none
def indexAddrV (E : Env) (t : TypeId) (x ix : Value) : Option Value := do
  let i ← E.ty t
  let n ← intOf ix
  match i.under, x with
  | .array len elem, .pointer (some a) => do
    let e ← E.ty elem
    if 0 ≤ n ∧ n < len ∧ e.size ≠ 0 then some (.pointer (some (a.add (n.toNat * e.size)))) else none
  | .slice elem, .slice (some a) len _ => do
    let e ← E.ty elem
    if 0 ≤ n ∧ n < len ∧ e.size ≠ 0 then some (.pointer (some (a.add (n.toNat * e.size)))) else none
  | _, _ => none
def indexV (E : Env) (t : TypeId) (x ix : Value) : Option Value := do
  let i ← E.ty t
  let n ← intOf ix
  match i.under, x with
  | .array len elem, .agg cs => do
    let e ← E.ty elem
    if 0 ≤ n ∧ n < len then partV e cs.toList (n.toNat * e.size) else none
  | .string, .string s => if 0 ≤ n then ((strL s)[n.toNat]?).map byteV else none
  | _, _ => none
def fieldV (E : Env) (t : TypeId) (x : Value) (f : Nat) : Option Value := do
  let i ← E.ty t
  match i.under, x with
  | .struct fs, .agg cs => do
    let f ← fs[f]?
    let e ← E.ty f.type
    partV e cs.toList f.offset
  | _, _ => none
def buildV (E : Env) (t : TypeId) (parts : List (Nat × Value)) : Option Value := do
  let i ← E.ty t
  let z ← i.zero
  match i.under with
  | .struct _ => do
    let pl ← i.places
    (fillV (fun i => pl[i]?) (cellsOf z) parts).map aggOf
  | .array _ elem => do
    let e ← E.ty elem
    (fillV (fun i => some (i * e.size, e.size)) (cellsOf z) parts).map aggOf
  | _ => none
def convV (E : Env) (s d : TypeId) (x : Value) : Option Value := do
  let i ← E.ty s
  let j ← E.ty d
  match i.under, j.under, x with
  | .int _, .int k, .int _ n => some (.int k (k.wrap n))
  | .string, .string, .string s => some (.string s)
  | _, _, _ => none
def assertV (E : Env) (x : Value) (asserted : TypeId) (ok : Bool) : Option Value := do
  let i ← E.ty asserted
  match i.under, x with
  | .interface _, _ => none
  | _, .nilIface => if ok then i.zero.map fun z => .tuple #[z, .bool false] else none
  | _, .iface t v =>
    if t = asserted then some (if ok then .tuple #[v, .bool true] else v)
    else if ok then i.zero.map fun z => .tuple #[z, .bool false] else none
  | _, _ => none
def isIface (d : TypeDesc) : Bool := match d with | .interface _ => true | _ => false
def mnV : Value → List Value → Option Value
  | .int k x, [] => some (.int k x)
  | .int k x, .int k' y :: r => if k = k' then mnV (.int k (if y < x then y else x)) r else none
  | _, _ => none
def mxV : Value → List Value → Option Value
  | .int k x, [] => some (.int k x)
  | .int k x, .int k' y :: r => if k = k' then mxV (.int k (if y > x then y else x)) r else none
  | _, _ => none

def isConstO : Operand → Bool
  | .const _ => true
  | _ => false
/-- the value of an operation that touches no memory; `skip` operations give `undef`. -/
def pureV (E : Env) (ev : Operand → Value) (o : Oper) : Option Value :=
  match o.op with
  | .move x | .assign x => some (ev x)
  | .pick c a b => match ev c with | .bool t => some (if t then ev a else ev b) | _ => none
  | .build t ps => buildV E t (partsV ev ps)
  | .nilCheck x => match ev x with
    | .pointer (some a) => some (.pointer (some a))
    | .iface t v => some (.iface t v)
    | .func (.func f) a c => some (.func (.func f) a c)
    | _ => none
  | .binOp op t x y _ => binV E op t (isConstO x || isConstO y) (ev x) (ev y)
  | .unOp op _ x => unV op (ev x)
  | .convert s d x => if s = d then none else convV E s d (ev x)
  | .makeInterface t x => do
    let i ← E.ty t
    if isIface i.under then none else some (.iface t (ev x))
  | .makeFunc (.func f) first captured => some (.func (.func f) (first.map ev) (captured.map ev))
  | .slice t x lo hi mx => sliceV E t (ev x) (lo.map ev) (hi.map ev) (mx.map ev)
  | .fieldAddr s x f => fieldAddrV E s (ev x) f
  | .field t x f => fieldV E t (ev x) f
  | .indexAddr t x ix => indexAddrV E t (ev x) (ev ix)
  | .index t x ix => indexV E t (ev x) (ev ix)
  | .typeAssert x _ asserted ok => assertV E (ev x) asserted ok
  | .extract t ix => match ev t with | .tuple vs => vs[ix]? | _ => none
  | .call c => match c.callee with
    | .builtin .len => match c.argTypes[0]?, c.args[0]? with
      | some t, some x => do
        let i ← E.ty t
        match i.under, ev x with
        | .string, .string s => some (.int .i64 s.size)
        | .array n _, _ => some (.int .i64 n)
        | .slice _, .slice _ n _ => some (.int .i64 n)
        | .map _ _, .map none => some (.int .i64 0)
        | _, _ => none
      | _, _ => none
    | .builtin .min => match (c.args.map ev).toList with | x :: r => mnV x r | [] => none
    | .builtin .max => match (c.args.map ev).toList with | x :: r => mxV x r | [] => none
    | _ => none
  | _ => none

/-! ## Operations that only read memory -/
def keyEq : Value → Value → Option Bool
  | .int k a, .int k' b => if k = k' then some (a == b) else none
  | .string a, .string b => some (strL a == strL b)
  | _, _ => none
def findV (k : Value) : List MapEntry → Nat → Option (Option (Nat × Value))
  | [], _ => some none
  | e :: es, i =>
    match keyEq k e.key with
    | some true => some (some (i, e.val))
    | some false => findV k es (i + 1)
    | none => none
def plainKey : TypeDesc → Value → Bool
  | .int _, .int _ _ => true
  | .string, .string _ => true
  | _, _ => false
def mapOf (h : Heap) : Value → Option (List MapEntry × Nat)
  | .map (some r) => match h.get r with | some (.map es c) => some (es, c) | _ => none
  | _ => none
def entriesOf (h : Heap) (x : Value) : Option (List MapEntry) :=
  match x with
  | .map none => some []
  | x => (mapOf h x).map (·.1)
def lookupV (E : Env) (t : TypeId) (x ix : Value) (ok : Bool) (h : Heap) : Option Value := do
  let i ← E.ty t
  match i.under with
  | .map key elem => do
    let k ← E.ty key
    let e ← E.ty elem
    if !plainKey k.under ix then none else do
    let es ← entriesOf h x
    match findV ix es 0 with
    | some (some (_, v)) => some (if ok then .tuple #[v, .bool true] else v)
    | some none => e.zero.map fun z => if ok then .tuple #[z, .bool false] else z
    | none => none
  | _ => none
def okSize (h : Heap) (b size : Nat) : Bool :=
  match h.get b with
  | some (.cells _ _ none) => true
  | some (.cells _ _ (some z)) => z.1 == size
  | _ => false
def closed (h : Heap) (b : Nat) : Bool :=
  match h.get b with
  | some (.cells _ _ none) => true
  | _ => false
def sliceS (E : Env) (t : TypeId) (x : Value) (low high max : Option Value) (h : Heap) : Option Value := do
  let i ← E.ty t
  match i.under, x with
  | .slice elem, .slice a len cap => do
    let e ← E.ty elem
    let (l, hi, m) ← boundsV len cap low high max
    if e.size = 0 then none else
    match a with
    | none => if m = l then some (.slice none (hi - l) (m - l)) else none
    | some a => if okSize h a.block e.size then some (.slice (some (if m = l then a else a.add (l * e.size))) (hi - l) (m - l)) else none
  | .array n elem, .pointer (some a) => do
    let e ← E.ty elem
    let (l, hi, m) ← boundsV n n low high max
    if e.size ≠ 0 ∧ closed h a.block then some (.slice (some (if m = l then a else a.add (l * e.size))) (hi - l) (m - l)) else none
  | .pointer arr, .pointer (some a) => do
    let j ← E.ty arr
    match j.under with
    | .array n elem => do
      let e ← E.ty elem
      let (l, hi, m) ← boundsV n n low high max
      if e.size ≠ 0 ∧ closed h a.block then some (.slice (some (if m = l then a else a.add (l * e.size))) (hi - l) (m - l)) else none
    | _ => none
  | _, _ => none
def chanLen (h : Heap) (x : Value) : Option Value :=
  match x with
  | .chan (some r) => match h.get r with
    | some (.chan _ buf) => some (.int .i64 buf.length)
    | _ => none
  | _ => none
/-- a pointer to a variable of its own whose block bears its type: as unsafe.Pointer, and back. -/
def seenV (E : Env) (e : TypeId) (x : Value) (h : Heap) : Option Value :=
  match x with
  | .pointer (some ⟨b, 0, none⟩) => do
    let i ← E.ty e
    if i.tag then
      match h.get b with
      | some (.cells cs _ (some z)) => if z = (0, e) ∧ cs.length = i.size ∧ i.size ≠ 0 then some x else none
      | _ => none
    else none
  | _ => none
def sdataV : Value → Option Value
  | .slice none _ _ => some (.pointer none)
  | .slice (some ⟨b, o, none⟩) _ cap => if cap = 0 then none else some (.pointer (some ⟨b, o, none⟩))
  | _ => none
def ustrV (E : Env) (t : TypeId) (p n : Value) (h : Heap) : Option (Value × Heap) :=
  match p, n with
  | .pointer (some ⟨b, o, none⟩), .int .i64 (.ofNat n) => do
    let i ← E.ty t
    match i.under with
    | .pointer e => do
      let j ← E.ty e
      if n = 0 ∨ j.size ≠ 1 ∨ n > 2 ^ 40 then none else
      match h.get b with
      | some (.cells cs _ (some z)) =>
        if z = (1, e) then do
          let l ← rdN h ⟨b, o, none⟩ n
          let s ← unbytes l
          some (.string (strOf s), h.set b (.cells cs false (some z)))
        else none
      | _ => none
    | _ => none
  | _, _ => none
def readV (E : Env) (ev : Operand → Value) (h : Heap) (o : Oper) : Option Value :=
  match o.op with
  | .load t a => loadV E t (ev a) h
  | .convert s d x => if s = d then none else do
    let i ← E.ty s
    let j ← E.ty d
    match i.under, j.under with
    | .slice e, .string => do
      let e ← E.ty e
      match e.under with
      | .int .u8 => match ev x with
        | .slice none _ _ => some (.string .empty)
        | .slice (some a) len _ => do
          let l ← rdN h a len
          let b ← unbytes l
          some (.string (strOf b))
        | _ => none
      | _ => none
    | .pointer e, .unsafePointer => seenV E e (ev x) h
    | .unsafePointer, .pointer e => seenV E e (ev x) h
    | _, _ => none
  | .slice t x lo hi mx => sliceS E t (ev x) (lo.map ev) (hi.map ev) (mx.map ev) h
  | .lookup t x ix ok => lookupV E t (ev x) (ev ix) ok h
  | .call c => match c.callee with
    | .builtin .len => match c.argTypes[0]?, c.args[0]? with
      | some t, some x => do
        let i ← E.ty t
        match i.under with
        | .map _ _ => do
          let (es, _) ← mapOf h (ev x)
          some (.int .i64 es.length)
        | .chan _ _ => chanLen h (ev x)
        | _ => none
      | _, _ => none
    | .builtin .cap => match c.argTypes[0]?, c.args[0]? with
      | some t, some x => do
        let i ← E.ty t
        match i.under, ev x with
        | .slice _, .slice none _ cap => some (.int .i64 cap)
        | .slice _, .slice (some a) _ cap => match h.get a.block with
          | some (.cells _ _ none) => some (.int .i64 cap)
          | _ => none
        | _, _ => none
      | _, _ => none
    | _ => none
  | _ => none

/-! ## Operations that make a block -/
inductive Mk where
  | ptr
  | slice (len cap : Nat)
  | map
def Mk.val (m : Mk) (id : Nat) : Value :=
  match m with
  | .ptr => .pointer (some ⟨id, 0, none⟩)
  | .slice l c => .slice (some ⟨id, 0, none⟩) l c
  | .map => .map (some id)
def tagOf (b : Bool) (t : Nat) : Option (Nat × Nat) := match b with | true => some (0, t) | false => none
def newV (E : Env) (ev : Operand → Value) (o : Oper) : Option (Blk × Mk) :=
  match o.op with
  | .alloc t => do
    let i ← E.ty t
    let z ← i.zero
    some (.cells (cellsOf z) true (tagOf i.tag t), .ptr)
  | .box _ x => some (.cells (cellsOf (ev x)) true none, .ptr)
  | .buildSlice t len ps => do
    let i ← E.ty t
    match i.under with
    | .slice elem => do
      let e ← E.ty elem
      if len * e.size > 2 ^ 24 then none else do
      let z ← zeros e len
      let cs ← fillV (fun i => some (i * e.size, e.size)) z (partsV ev ps)
      some (.cells cs true none, .slice len len)
    | _ => none
  | .makeSlice t l c => do
    let i ← E.ty t
    match i.under with
    | .slice elem => do
      let e ← E.ty elem
      let l ← intOf (ev l)
      let c ← intOf (ev c)
      if 0 ≤ l ∧ l ≤ c ∧ c < 2 ^ 62 ∧ e.bytes * c ≤ 2 ^ 48 then do
        let z ← zeros e c.toNat
        some (.cells z true none, .slice l.toNat c.toNat)
      else none
    | _ => none
  | .makeMap t r => match r.map ev with
    | none => some (.map [] 0, .map)
    | some (.int _ _) => do
      let i ← E.ty t
      match i.under with
      | .map _ _ => some (.map [] 0, .map)
      | _ => none
    | _ => none
  | .convert s d x => if s = d then none else do
    let i ← E.ty s
    let j ← E.ty d
    match i.under, j.under, ev x with
    | .string, .slice el, .string s => do
      let e ← E.ty el
      match e.under with
      | .int .u8 => some (.cells ((strL s).map byteV) true (some (1, el)), .slice s.size s.size)
      | _ => none
    | _, _, _ => none
  | _ => none

/-! ## Operations that write, and calls -/
def setEntry (es : List MapEntry) (i : Nat) (k v : Value) : List MapEntry :=
  match es, i with
  | [], _ => []
  | e :: r, 0 => { e with key := k, val := v } :: r
  | e :: r, i + 1 => e :: setEntry r i k v
def dropEntry (es : List MapEntry) (i : Nat) : List MapEntry := es.eraseIdx i
def mapPutV (E : Env) (t : TypeId) (m k v : Value) (h : Heap) : Option Heap := do
  let i ← E.ty t
  match i.under, m with
  | .map key _, .map (some r) => do
    let ki ← E.ty key
    let (es, c) ← mapOf h m
    if !plainKey ki.under k then none else
    match findV k es 0 with
    | some (some (j, _)) => some (h.set r (.map (setEntry es j k v) c))
    | some none => some (h.set r (.map (es ++ [{ key := k, val := v, born := c }]) (c + 1)))
    | none => none
  | _, _ => none
def mapEntryV (E : Env) (t : TypeId) (m k : Value) (h : Heap) : Option (Value × Heap) := do
  let i ← E.ty t
  match i.under, m with
  | .map key elem, .map (some r) => do
    let ki ← E.ty key
    let e ← E.ty elem
    let (es, c) ← mapOf h m
    if !plainKey ki.under k then none else
    match findV k es 0 with
    | some (some (j, v)) => do
      let x ← es[j]?
      some (.tuple #[v, .int .i64 x.born], h.set r (.map (setEntry es j k v) c))
    | some none => do
      let z ← e.zero
      some (.tuple #[z, .int .i64 c], h.set r (.map (es ++ [{ key := k, val := z, born := c }]) (c + 1)))
    | none => none
  | _, _ => none
def stampAt (n : Int) : List MapEntry → Nat → Option Nat
  | [], _ => none
  | e :: r, i => if (e.born : Int) == n then some i else stampAt n r (i + 1)
def entryStoreV (m stamp v : Value) (h : Heap) : Option Heap := do
  match m with
  | .map (some r) => do
    let (es, c) ← mapOf h m
    let n ← intOf stamp
    let i ← stampAt n es 0
    let e ← es[i]?
    some (h.set r (.map (setEntry es i e.key v) c))
  | _ => none
/-- the elements that are appended or copied: so many, their cells. -/
def srcV (size : Nat) (x : Value) (h : Heap) : Option (Nat × List Value) :=
  match x with
  | .slice none _ _ => some (0, [])
  | .slice (some a) n _ => if n = 0 then some (0, []) else (rdN h a (n * size)).map fun l => (n, l)
  | .string s => some (s.size, (strL s).map byteV)
  | _ => none
def okSrc (E : Env) (xt : Option TypeId) : Option Bool :=
  match xt with
  | some u => (E.ty u).map fun j => match j.under with | .int _ => false | _ => true
  | none => some true
/-- so many noughts. -/
def zsrcV (e : Ty) (x : Value) : Option (Nat × List Value) :=
  match x with
  | .int _ n => if 0 ≤ n ∧ n < 2 ^ 36 ∧ n.toNat * e.bytes ≤ 2 ^ 36 then (zeros e n.toNat).map fun l => (n.toNat, l) else none
  | _ => none
def srcA (okx : Bool) (e : Ty) (x : Value) (h : Heap) : Option (Nat × List Value) := if okx then srcV e.size x h else zsrcV e x
def appendV (E : Env) (t : TypeId) (xt : Option TypeId) (s x : Value) (h : Heap) : Option (Value × Heap) := do
  let i ← E.ty t
  match i.under, s with
  | .slice elem, .slice base len cap => do
    let e ← E.ty elem
    let okx ← okSrc E xt
    let (n, new) ← srcA okx e x h
    if e.size = 0 || new.length ≠ n * e.size || !new.all oneCell then none else
    if len + n ≤ cap then
      if n = 0 then some (s, h) else
      match base with
      | some a => do
        let h' ← wrN h (a.add (len * e.size)) new
        some (.slice base (len + n) cap, h')
      | none => none
    else if (len + n) * e.bytes > 2 ^ 36 ∨ len + n > 2 ^ 36 ∨ (e.zero.map fun z => (cellsOf z).length) ≠ some e.size then none else
    match base with
    | none => if len = 0 then some (.slice (some ⟨h.next, 0, none⟩) n n, h.new (.cells new true (some (e.size, elem)))) else none
    | some a =>
      match a.spot, h.get a.block with
      | none, some (.cells cs wr o) =>
        if a.off + len * e.size ≤ cs.length then
          let old := (cs.drop a.off).take (len * e.size)
          let h' := h.new (.cells (old ++ new) true (some (e.size, elem)))
          match o with
          | none => some (.slice (some ⟨h.next, 0, none⟩) (len + n) (len + n), h')
          | some z => if z = (e.size, elem) ∧ wr then some (.slice (some ⟨h.next, 0, none⟩) (len + n) (len + n), h'.kill a.block) else none
        else none
      | _, _ => none
  | _, _ => none
def copyV (E : Env) (t : TypeId) (d x : Value) (h : Heap) : Option (Value × Heap) := do
  let i ← E.ty t
  match i.under, d with
  | .slice elem, .slice base dlen _ => do
    let e ← E.ty elem
    let (n, l) ← srcV e.size x h
    if e.size = 0 || l.length ≠ n * e.size || !l.all oneCell then none else
    let k := min n dlen
    if k = 0 then some (.int .i64 0, h) else
    match base with
    | some a => do
      let h' ← wrN h a (l.take (k * e.size))
      some (.int .i64 k, h')
    | none => none
  | _, _ => none
def clearV (E : Env) (t : TypeId) (x : Value) (h : Heap) : Option Heap := do
  let i ← E.ty t
  match i.under, x with
  | .slice _, .slice _ 0 _ => some h
  | .slice elem, .slice (some a) n _ => do
    let e ← E.ty elem
    let z ← zeros e n
    if z.all oneCell then wrN h a z else none
  | _, _ => none
def deleteV (E : Env) (t : TypeId) (m k : Value) (h : Heap) : Option Heap := do
  let i ← E.ty t
  match i.under, m with
  | .map key _, .map none => do
    let ki ← E.ty key
    if plainKey ki.under k then some h else none
  | .map key _, .map (some r) => do
    let ki ← E.ty key
    let (es, c) ← mapOf h m
    if !plainKey ki.under k then none else
    match findV k es 0 with
    | some (some (j, _)) => some (h.set r (.map (dropEntry es j) c))
    | some none => some (h.set r (.map es c))
    | none => none
  | _, _ => none
/-- the entry that an iterator is at. -/
def entryV (it : Value) (h : Heap) : Option (Value × Heap) :=
  match it with
  | .pointer (some ⟨r, 0, none⟩) =>
    match h.get r with
    | some (.mit (some m) _ seen stepped) =>
      match seen.getLast?, h.get m with
      | some stamp, some (.map es clock) =>
        if clock ≠ stepped then none else (es.find? fun e => e.born == stamp).map fun e => (.tuple #[e.key, e.val], h)
      | _, _ => none
    | _ => none
  | _ => none

def makeChanV (E : Env) (t : TypeId) (x : Value) (h : Heap) : Option (Value × Heap) := do
  let i ← E.ty t
  match i.under, x with
  | .chan _ elem, .int _ n => do
    let e ← E.ty elem
    if 0 ≤ n ∧ n ≤ 2 ^ 20 ∧ (e.bytes : Int) * n ≤ 2 ^ 40 then some (.chan (some h.next), h.new (.chan n.toNat [])) else none
  | _, _ => none
/-- a select of one case, with a default. -/
def selV (E : Env) (ev : Operand → Value) (h : Heap) (cs : Array SelectCase) (blocking : Bool) : Option (Value × Heap) :=
  match cs.toList, blocking with
  | [c], false => do
    let i ← E.ty c.elem
    let z ← i.zero
    match ev c.chan with
    | .chan (some r) => match h.get r with
      | some (.chan cap buf) => match c.send with
        | some x => if buf.length < cap then some (.tuple #[.int .i64 0, .bool false], h.set r (.chan cap (buf ++ [ev x]))) else some (.tuple #[.int .i64 (-1), .bool false], h)
        | none => match buf with
          | v :: r' => some (.tuple #[.int .i64 0, .bool true, v], h.set r (.chan cap r'))
          | [] => some (.tuple #[.int .i64 (-1), .bool false, z], h)
      | _ => none
    | _ => none
  | _, _ => none
structure CallV where
  fn : FuncId → List Value → Heap → Option (Value × Heap)
  yld : Nat → List Value → Heap → Option (Value × Heap)
instance : CoeFun CallV (fun _ => FuncId → List Value → Heap → Option (Value × Heap)) := ⟨CallV.fn⟩

/-- a conversion to the type that it is of: of bytes, the row is marked. -/
def sameV (E : Env) (s : TypeId) (x : Value) (h : Heap) : Option (Value × Heap) := do
  let i ← E.ty s
  match i.under, x with
  | .int k, .int _ n => some (.int k (k.wrap n), h)
  | .string, .string b => some (.string b, h)
  | .slice e, .slice (some a) l c => do
    let e ← E.ty e
    match e.under, a.spot, h.get a.block with
    | .int .u8, none, some (.cells cs _ o) => some (.slice (some a) l c, h.set a.block (.cells cs false o))
    | _, _, _ => none
  | _, _ => none
/-! ## Ranges over texts and maps -/
def rangeV (E : Env) (t : TypeId) (x : Value) (h : Heap) : Option (Value × Heap) := do
  let i ← E.ty t
  match i.under, x with
  | .string, .string s => some (.pointer (some ⟨h.next, 0, none⟩), h.new (.sit s 0))
  | .map _ _, .map none => some (.pointer (some ⟨h.next, 0, none⟩), h.new (.mit none 0 [] 0))
  | .map _ _, .map (some m) => do
    let (_, c) ← mapOf h (.map (some m))
    some (.pointer (some ⟨h.next, 0, none⟩), h.new (.mit (some m) c [] c))
  | _, _ => none
def leftOf (es : List MapEntry) (seen : List Nat) : List MapEntry := es.filter fun e => !seen.contains e.born
def oldOf (es : List MapEntry) (since : Nat) : List MapEntry := es.filter fun e => decide (e.born < since)
def newOf (es : List MapEntry) (since : Nat) : List MapEntry := es.filter fun e => decide (e.born ≥ since)
def candsOf (es : List MapEntry) (since : Nat) (seen : List Nat) : List (Option MapEntry) :=
  (if (oldOf (leftOf es seen) since).isEmpty then [none] else []) ++ (oldOf (leftOf es seen) since ++ newOf (leftOf es seen) since).map some
def nextV (it : Value) (isS : Bool) (h : Heap) : Option (Value × Heap) :=
  match it with
  | .pointer (some ⟨r, 0, none⟩) =>
    match h.get r, isS with
    | some (.sit s pos), true =>
      if pos < s.size then
        some (.tuple #[.bool true, .int .i64 pos, .int .i32 (Utf8.decode s pos).1], h.set r (.sit s (pos + (Utf8.decode s pos).2)))
      else some (.tuple #[.bool false], h)
    | some (.mit none _ _ _), false => some (.tuple #[.bool false], h)
    | some (.mit (some m) since seen last), false =>
      match h.get m with
      | some (.map es clock) =>
        if !seen.isEmpty && !es.isEmpty && es.all (fun e => decide (e.born ≥ last)) then none else
        match candsOf es since seen with
        | [some e] => some (.tuple #[.bool true, e.key, e.val], h.set r (.mit (some m) since (seen ++ [e.born]) clock))
        | [none] => some (.tuple #[.bool false], h)
        | _ => none
      | _ => none
    | _, _ => none
  | _ => none

def heavyV (E : Env) (call : CallV) (ev : Operand → Value) (h : Heap) (o : Oper) : Option (Value × Heap) :=
  match o.op with
  | .store t a x => (storeV E t (ev a) (ev x) h).map fun h => (undef, h)
  | .mapUpdate t m k x | .insert t m k x => (mapPutV E t (ev m) (ev k) (ev x) h).map fun h => (undef, h)
  | .mapEntry t m k => mapEntryV E t (ev m) (ev k) h
  | .entryStore _ m s x => (entryStoreV (ev m) (ev s) (ev x) h).map fun h => (undef, h)
  | .convert s d x => if s = d then sameV E s (ev x) h else none
  | .range t x => rangeV E t (ev x) h
  | .next it isS => nextV (ev it) isS h
  | .entry it => entryV (ev it) h
  | .makeChan t x => makeChanV E t (ev x) h
  | .select cs bl => selV E ev h cs bl
  | .call c => match c.callee with
    | .builtin .append => match c.args[0]?, c.args[1]?, c.argTypes[0]? with
      | some s, some x, some t => appendV E t (c.argTypes[1]?) (ev s) (ev x) h
      | _, _, _ => none
    | .builtin .copy => match c.args[0]?, c.args[1]?, c.argTypes[0]? with
      | some s, some x, some t => copyV E t (ev s) (ev x) h
      | _, _, _ => none
    | .builtin .clear => match c.args[0]?, c.argTypes[0]? with
      | some x, some t => (clearV E t (ev x) h).map fun h => (.tuple #[], h)
      | _, _ => none
    | .builtin .delete => match c.args[0]?, c.args[1]?, c.argTypes[0]? with
      | some m, some k, some t => (deleteV E t (ev m) (ev k) h).map fun h => (.tuple #[], h)
      | _, _, _ => none
    | .builtin .unsafeSliceData => match c.args.toList with
      | [x] => (sdataV (ev x)).map fun v => (v, h)
      | _ => none
    | .builtin .unsafeString => match c.args.toList, c.argTypes[0]? with
      | [x, n], some t => ustrV E t (ev x) (ev n) h
      | _, _ => none
    | .builtin _ => none
    | .value f => match ev f with
      | .func (.func g) first captured =>
        match E.row g with
        | some r => r (first.toList ++ (c.args.map ev).toList ++ captured.toList) h
        | none => call g (first.toList ++ (c.args.map ev).toList ++ captured.toList) h
      | .func (.yield l) first captured => if first.toList.isEmpty && captured.toList.isEmpty then call.yld l (c.args.map ev).toList h else none
      | _ => none
    | .invoke r name => match ev r with
      | .iface t v => do
        let g ← E.meth t name
        call g (v :: (c.args.map ev).toList) h
      | _ => none
  | _ => none

/-! ## Code -/
abbrev Tmps := List Value
def evV (t : Tmps) : Operand → Value
  | .tmp i => t.getD i undef
  | .const v => if plainB 100 v then v else undef
  | .global _ => undef
  | .func f => .func (.func f) #[] #[]
def putV (t : Tmps) (d : Option Tmp) (v : Value) : Tmps :=
  match d with
  | some d => t.set d v
  | none => t

inductive Ex where
  | normal
  | exit (id : Nat)
  | ret
  deriving DecidableEq
abbrev St := Tmps × Heap

def stepV (E : Env) (call : CallV) (o : Oper) (s : St) : Option (Value × Heap) :=
  let ev := evV s.1
  match pureV E ev o with
  | some v => some (v, s.2)
  | none =>
  match readV E ev s.2 o with
  | some v => some (v, s.2)
  | none =>
  match newV E ev o with
  | some (b, m) => some (m.val s.2.next, s.2.new b)
  | none => heavyV E call ev s.2 o
def wantedV (ops : Array Oper) (o : Oper) (t : Tmps) : Bool :=
  match o.guard with
  | none => true
  | some (j, want) => match ((ops[j]?).bind (·.dst)).bind (t[·]?) with
    | some (.bool b) => b == want
    | _ => false
def opsV (E : Env) (call : CallV) (ops : Array Oper) : List Oper → St → Option St
  | [], s => some s
  | o :: r, s =>
    if wantedV ops o s.1 then
      match stepV E call o s with
      | some (v, h) => opsV E call ops r (putV s.1 o.dst v, h)
      | none => none
    else opsV E call ops r (putV s.1 o.dst undef, s.2)
def iterV (f : St → Option (Ex × St)) : Nat → St → Option (Ex × St)
  | 0, _ => none
  | n + 1, s => match f s with
    | some (.normal, s') => iterV f n s'
    | r => r
end Go.Vi
