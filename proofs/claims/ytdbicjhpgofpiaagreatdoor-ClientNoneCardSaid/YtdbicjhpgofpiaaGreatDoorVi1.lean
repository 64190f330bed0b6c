/- Vi1: the interpreter of code: regions whose order is drawn, control, calls. -/
import Derived.Test.YtdbicjhpgofpiaaGreatDoorVi0
namespace Go.Vi

/-! ## Plans: which operations of a region may pass which -/
def heavyOp (o : Oper) : Bool :=
  match o.op with
  | .call c => match c.callee with
    | .builtin .len | .builtin .cap | .builtin .min | .builtin .max => false
    | _ => true
  | .convert s d _ => s == d
  | .store .. | .mapUpdate .. | .insert .. | .mapEntry .. | .entryStore .. => true
  | .move .. | .assign .. | .pick .. | .build .. | .nilCheck .. | .binOp .. | .unOp .. | .makeInterface .. | .makeFunc .. | .slice ..
  | .fieldAddr .. | .field .. | .indexAddr .. | .index .. | .typeAssert .. | .extract .. | .load .. | .lookup .. | .alloc .. | .box .. | .buildSlice .. | .makeSlice .. | .makeMap .. => false
  | _ => true
def tmpsOf (ops : Array Oper) (o : Oper) : List Tmp :=
  (o.op.operands.toList.filterMap fun | .tmp t => some t | _ => none) ++
  (match o.guard with | some (g, _) => ((ops[g]?).bind (·.dst)).toList | none => [])
/-- bit i of bef[j]: operation i comes ahead of j in every order. -/
def befores (ops : Array Oper) : List Nat := (Region.before ops).toList
def chainOk (bef : List Nat) : List Nat → Bool
  | a :: b :: r => (bef.getD b 0).testBit a && chainOk bef (b :: r)
  | _ => true
/-- each slot that an operation names is written by operations alone that are ordered against it. -/
def slotsOk (ops : Array Oper) (bef : List Nat) : Bool :=
  let l := ops.toList.zipIdx
  l.all fun (o, j) => l.all fun (p, i) => match p.dst with
    | none => true
    | some d => i == j || (!(tmpsOf ops o).contains d && o.dst != some d) || (bef.getD j 0).testBit i || (bef.getD i 0).testBit j
def edgesOk (ops : Array Oper) : Bool :=
  ops.toList.zipIdx.all fun (o, j) => o.after.all fun e => !Region.binds .any e || decide (e.on < j)
def guardsOk (ops : Array Oper) (bef : List Nat) : Bool :=
  ops.toList.zipIdx.all fun (o, j) => match o.guard with
    | none => true
    | some (g, _) => (bef.getD j 0).testBit g
def mkPlan (ops : Array Oper) : Option Plan :=
  let bef := befores ops
  let hs := (List.range ops.size).filter fun i => match ops[i]? with | some o => heavyOp o | none => false
  if chainOk bef hs && slotsOk ops bef && edgesOk ops && guardsOk ops bef then
    some { heavy := hs
           lo := (List.range ops.size).map fun j => (hs.filter fun c => (bef.getD j 0).testBit c).length
           hi := (List.range ops.size).map fun j => (hs.takeWhile fun c => !(bef.getD c 0).testBit j).length }
  else none

def planFor (pl : Option Plan) (ops : Array Oper) : Bool :=
  match pl with
  | none => true
  | some p => decide (mkPlan ops = some p)
def planOk (pl : Nat → Option Plan) : Code → Bool
  | .region id ops draw => !draw || planFor (pl id) ops
  | .seq a b => planOk pl a && planOk pl b
  | .cond _ a b => planOk pl a && planOk pl b
  | .block _ b => planOk pl b
  | .loop b => planOk pl b
  | .rangeFunc _ _ a b => planOk pl a && planOk pl b
  | _ => true

/-! ## A region whose order is drawn -/
structure Seen where
  at_ : Nat
  op : Oper
  t : Tmps
  v : Value
/-- the operations in the order of the text; the heaps ahead of each heavy one; what was read. -/
def drawV (E : Env) (call : CallV) (ops : Array Oper) : List Oper → Nat → St → List Heap → List Seen → Option (St × List Heap × List Seen)
  | [], _, s, hs, rs => some (s, hs ++ [s.2], rs)
  | o :: r, j, s, hs, rs =>
    let hs := if heavyOp o then hs ++ [s.2] else hs
    if wantedV ops o s.1 then
      match stepV E call o s with
      | some (v, h) =>
        let rs := if !heavyOp o && (pureV E (evV s.1) o).isNone && (readV E (evV s.1) s.2 o).isSome then { at_ := j, op := o, t := s.1, v := v } :: rs else rs
        drawV E call ops r (j + 1) (putV s.1 o.dst v, h) hs rs
      | none => none
    else drawV E call ops r (j + 1) (putV s.1 o.dst undef, s.2) hs rs
def seenOk (E : Env) (p : Plan) (hs : List Heap) (x : Seen) : Bool :=
  let lo := p.lo.getD x.at_ 0
  let hi := p.hi.getD x.at_ 0
  (List.range (hi + 1 - lo)).all fun k => match hs[lo + k]? with
    | some h => match readV E (evV x.t) h x.op with
      | some v => veq 100000 v x.v
      | none => false
    | none => false
def regionV (E : Env) (call : CallV) (pl : Option Plan) (ops : Array Oper) (draw : Bool) (s : St) : Option St :=
  if draw then
    match pl with
    | none => none
    | some p => match drawV E call ops ops.toList 0 s [] [] with
      | some (s', hs, rs) => if rs.all (seenOk E p hs) then some s' else none
      | none => none
  else opsV E call ops ops.toList s

def opOk (o : Oper) : Bool := o.op.operands.all okOperand && (match o.op with | .select .. | .defer .. => false | _ => true)
/-- a select at the head of a region. -/
def selHead (ops : Array Oper) : Bool :=
  match ops.toList with
  | o :: r => (match o.op with | .select _ _ => true | _ => false) && o.op.operands.all okOperand && o.guard.isNone && r.all opOk
  | [] => false
def codeOk : Code → Bool
  | .region _ ops draw => ops.toList.all opOk || (!draw && selHead ops)
  | .seq a b => codeOk a && codeOk b
  | .cond c a b => okOperand c && codeOk a && codeOk b
  | .block _ b => codeOk b
  | .loop b => codeOk b
  | .rangeFunc g _ a b => okOperand g && codeOk a && codeOk b
  | _ => true
/-- no range over a function within. -/
def flat : Code → Bool
  | .seq a b => flat a && flat b
  | .cond _ a b => flat a && flat b
  | .block _ b => flat b
  | .loop b => flat b
  | .rangeFunc .. => false
  | _ => true
def jumpOf : Ex → Option Code
  | .normal => none
  | .exit id => some (.exit id)
  | .ret => some .ret
def exOf : Option Code → Option Ex
  | none => some .normal
  | some (.exit id) => some (.exit id)
  | some .ret => some .ret
  | _ => none
def codeV (E : Env) (call : CallV) (pl : Nat → Option Plan) (fuel : Nat) : Code → St → Option (Ex × St)
  | .skip, s => some (.normal, s)
  | .region id ops draw, s => (regionV E call (pl id) ops draw s).map fun s => (.normal, s)
  | .seq a b, s => match codeV E call pl fuel a s with
    | some (.normal, s') => codeV E call pl fuel b s'
    | r => r
  | .cond c a b, s => match evV s.1 c with
    | .bool true => codeV E call pl fuel a s
    | .bool false => codeV E call pl fuel b s
    | _ => none
  | .block id b, s => match codeV E call pl fuel b s with
    | some (.exit i, s') => if i = id then some (.normal, s') else some (.exit i, s')
    | r => r
  | .loop b, s => iterV (codeV E call pl fuel b) fuel s
  | .exit id, s => some (.exit id, s)
  | .ret, s => some (.ret, s)
  | .rangeFunc g ps a b, s =>
    if !flat a || !flat b then none else
    match evV s.1 g with
    | .func (.func f) first captured =>
      match call f (first.toList ++ [.func (.yield s.2.next) #[] #[]] ++ captured.toList) (s.2.new (.loop { st := .ready, pending := none, tmps := s.1, params := ps, assign := a, body := b, plan := pl })) with
      | some (_, h) =>
        match h.get s.2.next with
        | some (.loop r) => if r.st == .busy then none else (exOf r.pending).map fun x => (x, (s.1, h.set s.2.next (.loop { r with st := .exhausted })))
        | _ => none
      | none => none
    | _ => none
  | _, _ => none

def resultsV (E : Env) (s : St) : List ResultVar → Option (List Value)
  | [] => some []
  | .tmp t :: r => (resultsV E s r).map fun l => s.1.getD t undef :: l
  | .cell a t :: r => do
    let v ← loadV E t (s.1.getD a undef) s.2
    let l ← resultsV E s r
    some (v :: l)
def oneOrTuple : List Value → Value
  | [v] => v
  | l => .tuple ⟨l⟩
def setAll : List (Tmp × Value) → List Value → List Value
  | [], t => t
  | (d, v) :: r, t => setAll r (t.set d v)
def yldV (E : Env) (call : CallV) (n : Nat) (l : Nat) (args : List Value) (h : Heap) : Option (Value × Heap) :=
  match h.get l with
  | some (.loop r) =>
    if args.length ≠ r.params.size then none else
    match codeV E call r.plan n r.assign (setAll (r.params.toList.zip args) r.tmps, h) with
    | some (.normal, s1) =>
      match s1.2.get l with
      | some (.loop r1) =>
        if r1.st == .ready then
          match codeV E call r.plan n r.body (s1.1, s1.2.set l (.loop { r1 with st := .busy })) with
          | some (x, s3) =>
            match s3.2.get l with
            | some (.loop r3) => some (.bool (jumpOf x).isNone, s3.2.set l (.loop { r3 with st := if (jumpOf x).isNone then .ready else .done, pending := jumpOf x }))
            | _ => none
          | none => none
        else none
      | _ => none
    | _ => none
  | _ => none
def callV (E : Env) : Nat → CallV
  | 0 => { fn := fun _ _ _ => none, yld := fun _ _ _ => none }
  | n + 1 =>
    { fn := fun f args h =>
        match E.ext f with
        | some g => g args h
        | none =>
        match E.fn f with
        | none => none
        | some fn =>
          match codeV E (callV E n) fn.plan n fn.body (args ++ List.replicate (fn.fn.ntmps - args.length) undef, h) with
          | some (.normal, s) | some (.ret, s) => (resultsV E s fn.fn.results.toList).map fun l => (oneOrTuple l, s.2)
          | _ => none
      yld := yldV E (callV E n) n }
end Go.Vi
