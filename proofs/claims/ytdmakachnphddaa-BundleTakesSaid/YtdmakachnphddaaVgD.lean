/- Vs0: the interpreter's equations in a form that simp can step through: the part that decides is looked at first, what follows is left alone until then. Vs1: operations without what the interpreter doesn't look at; guards by the slot that decides. Vs3: the interpreter's equations, without lambdas: simp goes from operation to operation. Vs4: equations of the other operations. Vs5: code with slim regions, and its equations. Vs6: the environment that a program gives: its types and functions, looked up in the program itself. Vs7: from the interpreter's equation to a Go call, where the arguments hold no pointers. Vs8: regions whose order is drawn, with slim operations. Vs9: a drawn region's operations, one equation for each kind. -/
import Derived.Test.YtdmakachnphddaaVgC
import Derived.Below
namespace Go.Vi
def andS {α β : Type} (x : Option α) (k : α → Option β) : Option β := match x with
  | some a => k a
  | none => none
@[congr] theorem andS_congr {α β : Type} {x y : Option α} {k : α → Option β} (h : x = y) : andS x k = andS y k := by rw [h]
def orS {α : Type} (x : Option α) (k : Unit → Option α) : Option α := match x with
  | some a => some a
  | none => k ()
@[congr] theorem orS_congr {α : Type} {x y : Option α} {k : Unit → Option α} (h : x = y) : orS x k = orS y k := by rw [h]
def ifS {α : Type} (b : Bool) (x y : Unit → α) : α := match b with
  | true => x ()
  | false => y ()
@[congr] theorem ifS_congr {α : Type} {b c : Bool} {x y : Unit → α} (h : b = c) : ifS b x y = ifS c x y := by rw [h]
def condS {α : Type} (v : Value) (x y : Unit → Option α) : Option α := match v with
  | .bool true => x ()
  | .bool false => y ()
  | _ => none
@[congr] theorem condS_congr {α : Type} {v u : Value} {x y : Unit → Option α} (h : v = u) : condS v x y = condS u x y := by rw [h]
section
variable (E : Env) (call : CallV)
end
section
variable (E : Env) (call : CallV) (pl : Nat → Option Plan) (fuel : Nat)
def exS (x : Ex) (n : Unit → Option (Ex × St)) (r : Option (Ex × St)) : Option (Ex × St) := match x with
  | .normal => n ()
  | _ => r
@[congr] theorem exS_congr {x y : Ex} {n : Unit → Option (Ex × St)} {r : Option (Ex × St)} (h : x = y) : exS x n r = exS y n r := by rw [h]
end
end Go.Vi
namespace Go.Vi
structure SOp where
  d : Option Tmp
  op : Op
  ty : TypeId
  g : Option (Option Tmp × Bool)
def SOp.o (x : SOp) : Oper := { dst := x.d, op := x.op, type := x.ty, pos := "", after := #[], guard := none }
def slim (ops : Array Oper) (o : Oper) : SOp := { d := o.dst, op := o.op, ty := o.type, g := o.guard.map fun q => ((ops[q.1]?).bind (·.dst), q.2) }
def wantS (g : Option (Option Tmp × Bool)) (t : Tmps) : Bool := match g with
  | none => true
  | some (d, want) => match d.bind (t[·]?) with
    | some (.bool b) => b == want
    | _ => false
def opsS (E : Env) (call : CallV) : List SOp → St → Option St
  | [], s => some s
  | x :: r, s => if wantS x.g s.1 then match stepV E call x.o s with
      | some (v, h) => opsS E call r (putV s.1 x.d v, h)
      | none => none
    else opsS E call r (putV s.1 x.d undef, s.2)
section
variable (E : Env) (call : CallV)
theorem step_slim (ops : Array Oper) (o : Oper) (s : St) : stepV E call (slim ops o).o s = stepV E call o s := by
  obtain ⟨dst, op, ty, pos, after, guard⟩ := o
  have h1 : ∀ ev, pureV E ev (slim ops ⟨dst, op, ty, pos, after, guard⟩).o = pureV E ev ⟨dst, op, ty, pos, after, guard⟩ := fun ev => by
    unfold pureV slim SOp.o; cases op <;> rfl
  have h2 : ∀ ev h, readV E ev h (slim ops ⟨dst, op, ty, pos, after, guard⟩).o = readV E ev h ⟨dst, op, ty, pos, after, guard⟩ := fun ev h => by
    unfold readV slim SOp.o; cases op <;> rfl
  have h3 : ∀ ev, newV E ev (slim ops ⟨dst, op, ty, pos, after, guard⟩).o = newV E ev ⟨dst, op, ty, pos, after, guard⟩ := fun ev => by
    unfold newV slim SOp.o; cases op <;> rfl
  have h4 : ∀ ev h, heavyV E call ev h (slim ops ⟨dst, op, ty, pos, after, guard⟩).o = heavyV E call ev h ⟨dst, op, ty, pos, after, guard⟩ := fun ev h => by
    unfold heavyV slim SOp.o; cases op <;> rfl
  unfold stepV
  simp only [h1, h2, h3, h4]
theorem want_slim (ops : Array Oper) (o : Oper) (t : Tmps) : wantS (slim ops o).g t = wantedV ops o t := by
  unfold wantS wantedV slim
  cases o.guard <;> rfl
theorem ops_slim (ops : Array Oper) : ∀ (l : List Oper) (s : St), opsV E call ops l s = opsS E call (l.map (slim ops)) s := by
  intro l
  induction l with
  | nil => intro s; rfl
  | cons o l ih =>
    intro s
    rw [opsV, List.map_cons, opsS, want_slim, step_slim]
    split
    · have : (slim ops o).d = o.dst := rfl
      rw [this]
      cases stepV E call o s with
      | none => rfl
      | some x => exact ih _
    · exact ih _
end
end Go.Vi
namespace Go.Vi
section
variable (E : Env) (call : CallV)
def isB (v : Value) (w : Bool) : Bool := match v with
  | .bool b => b == w
  | _ => false
theorem wantS_some (d : Tmp) (want : Bool) (t : Tmps) : wantS (some (some d, want)) t = isB (t.getD d undef) want := by
  unfold wantS isB
  obtain ⟨d', hd⟩ : ∃ d' : Nat, d' = d := ⟨d, rfl⟩
  subst hd
  rw [List.getD_eq_getElem?_getD]
  simp only [Option.bind_some]
  cases hq : t[d']? with
  | none => simp [undef]
  | some v => simp; cases v <;> rfl
def atH (h : Heap) (x : Option Value) : Option (Value × Heap) := match x with
  | some v => some (v, h)
  | none => none
theorem atH_some (h : Heap) (v : Value) : atH h (some v) = some (v, h) := rfl
section
variable (d : Option Tmp) (ty : TypeId) (t : Tmps) (h : Heap)
def pickK (c : Value) (a b : Value) : Option Value := match c with
  | .bool p => some (if p then a else b)
  | _ => none
theorem bin_int (op : BinOp) (k : IntKind) (c : Bool) (a b : Int) : binV E op ty c (.int k a) (.int k b) = arithV op k a b := by
  unfold binV
  simp
end
end
theorem ar_lss (k : IntKind) (a b : Int) : arithV .lss k a b = some (.bool (decide (a < b))) := rfl
theorem ar_leq (k : IntKind) (a b : Int) : arithV .leq k a b = some (.bool (decide (a ≤ b))) := rfl
theorem ar_gtr (k : IntKind) (a b : Int) : arithV .gtr k a b = some (.bool (decide (a > b))) := rfl
theorem ar_geq (k : IntKind) (a b : Int) : arithV .geq k a b = some (.bool (decide (a ≥ b))) := rfl
theorem ar_eql (k : IntKind) (a b : Int) : arithV .eql k a b = some (.bool (a == b)) := rfl
theorem ar_neq (k : IntKind) (a b : Int) : arithV .neq k a b = some (.bool (a != b)) := rfl
theorem ar_add (k : IntKind) (a b : Int) : arithV .add k a b = some (.int k (k.wrap (a + b))) := rfl
theorem ar_sub (k : IntKind) (a b : Int) : arithV .sub k a b = some (.int k (k.wrap (a - b))) := rfl
theorem ar_mul (k : IntKind) (a b : Int) : arithV .mul k a b = some (.int k (k.wrap (a * b))) := rfl
end Go.Vi
namespace Go.Vi
def orK {α : Type} (x y : Option α) : Option α := match x with
  | some a => some a
  | none => y
theorem orK_some {α : Type} (a : α) (y : Option α) : orK (some a) y = some a := rfl
theorem orK_none {α : Type} (y : Option α) : orK none y = y := rfl
def heapK (v : Value) (x : Option Heap) : Option (Value × Heap) := match x with
  | some h => some (v, h)
  | none => none
theorem heapK_some (v : Value) (h : Heap) : heapK v (some h) = some (v, h) := rfl
def newK (h : Heap) (x : Option (Blk × Mk)) : Option (Value × Heap) := match x with
  | some (b, m) => some (m.val h.next, h.new b)
  | none => none
theorem newK_some (h : Heap) (b : Blk) (m : Mk) : newK h (some (b, m)) = some (m.val h.next, h.new b) := rfl
section
variable (E : Env) (call : CallV) (d : Option Tmp) (ty : TypeId) (t : Tmps) (h : Heap)
def extrK (v : Value) (i : Nat) : Option Value := match v with
  | .tuple vs => vs[i]?
  | _ => none
def callR (E : Env) (call : CallV) (f : FuncId) (args : List Value) (h : Heap) : Option (Value × Heap) :=
  match E.row f with
  | some r => r args h
  | none => call f args h
end
end Go.Vi
namespace Go.Vi
inductive SCode where
  | skip
  | list (l : List SOp)
  | drawn (id : Nat) (ops : Array Oper)
  | seq (a b : SCode)
  | cond (c : Operand) (a b : SCode)
  | block (id : Nat) (b : SCode)
  | loop (b : SCode)
  | exit (id : Nat)
  | ret
  | raw (c : Code)
section
variable (E : Env) (call : CallV) (pl : Nat → Option Plan) (fuel : Nat)
end
end Go.Vi
namespace Go.Vi
variable {K : Known}
def tyOf (P : Program) (t : TypeId) : Option Ty :=
  match P.underlying t, P.info? t with
  | some u, some x =>
    if x.zero.all (plainB 100) then
      some { under := u, agg := aggD u, size := x.size, bytes := x.bytes, zero := x.zero, eqg := P.eqGuardType P.depth t, held := P.stoodInHeld t, cmp := x.comparable,
             tag := (match u with | .struct fs => (match fs[0]? with | some f => (match P.underlying f.type with | some (.pointer e) => Nat.beq e t | _ => false) | none => false) | _ => false) && liesAt P P.depth t 1 0 t 1,
             places := match u with | .struct fs => fs.toList.mapM (fun f => (P.info? f.type).map fun i => (f.offset, i.size)) | _ => none }
    else none
  | _, _ => none
theorem tyOf_ok {P : Program} {t : TypeId} {i : Ty} (h : tyOf P t = some i) : TyOk P t i := by
  unfold tyOf at h
  split at h
  · rename_i u x hu hx
    split at h
    · rename_i hz
      cases h
      refine ⟨hu, rfl, ⟨x, hx, rfl, rfl, rfl, rfl⟩, fun z h => ?_, fun h => h, fun h => h, fun h => (Bool.and_eq_true_iff.1 h).2, fun fs pl h1 h2 => ?_⟩
      · simp only at h; rw [h] at hz; simpa using hz
      · simp only at h1; subst h1; exact h2
    · cases h
  · cases h
def lookP : List (Nat × Plan) → Nat → Option Plan
  | [], _ => none
  | (i, p) :: r, id => if i = id then some p else lookP r id
end Go.Vi
namespace Go.Vi
def h0 : Heap := { next := 0, tr := .leaf }
theorem good0' {K : Known} {w : World} (k : K.is (fun _ => none) w) : Good K (fun _ => none) h0 w :=
  ⟨⟨fun _ _ _ h => (nomatch h), fun _ _ _ _ h => (nomatch h), fun _ _ h => (nomatch h), fun b _ => by simp [h0, Heap.get, Trie.get], fun _ _ _ h => (nomatch h)⟩, k⟩
end Go.Vi
namespace Go.Vi
theorem heavy_slim (ops : Array Oper) (o : Oper) : heavyOp (slim ops o).o = heavyOp o := by
  obtain ⟨dst, op, ty, pos, after, guard⟩ := o
  unfold heavyOp slim SOp.o
  rfl
structure SSeen where
  at_ : Nat
  op : SOp
  t : Tmps
  v : Value
def isRead (E : Env) (x : SOp) (t : Tmps) (h : Heap) : Bool := (pureV E (evV t) x.o).isNone && (readV E (evV t) h x.o).isSome
def drawT (E : Env) (call : CallV) : List SOp → Nat → St → List Heap → List SSeen → Option (St × List Heap × List SSeen)
  | [], _, s, hs, rs => some (s, hs ++ [s.2], rs)
  | x :: r, j, s, hs, rs =>
    let hs := if heavyOp x.o then hs ++ [s.2] else hs
    if wantS x.g s.1 then
      match stepV E call x.o s with
      | some (v, h) => drawT E call r (j + 1) (putV s.1 x.d v, h) hs (if !heavyOp x.o && isRead E x s.1 s.2 then ⟨j, x, s.1, v⟩ :: rs else rs)
      | none => none
    else drawT E call r (j + 1) (putV s.1 x.d undef, s.2) hs rs
def seenT (E : Env) (p : Plan) (hs : List Heap) (x : SSeen) : Bool :=
  let lo := p.lo.getD x.at_ 0
  let hi := p.hi.getD x.at_ 0
  (List.range (hi + 1 - lo)).all fun k => match hs[lo + k]? with
    | some h => match readV E (evV x.t) h x.op.o with
      | some v => veq 100000 v x.v
      | none => false
    | none => false
def thin (ops : Array Oper) (x : Seen) : SSeen := ⟨x.at_, slim ops x.op, x.t, x.v⟩
section
variable (E : Env) (call : CallV)
theorem pure_slim (ops : Array Oper) (o : Oper) (ev : Operand → Value) : pureV E ev (slim ops o).o = pureV E ev o := by
  obtain ⟨dst, op, ty, pos, after, guard⟩ := o
  unfold pureV slim SOp.o; cases op <;> rfl
theorem read_slim (ops : Array Oper) (o : Oper) (ev : Operand → Value) (h : Heap) : readV E ev h (slim ops o).o = readV E ev h o := by
  obtain ⟨dst, op, ty, pos, after, guard⟩ := o
  unfold readV slim SOp.o; cases op <;> rfl
theorem seen_slim (ops : Array Oper) (p : Plan) (hs : List Heap) (x : Seen) : seenT E p hs (thin ops x) = seenOk E p hs x := by
  unfold seenT seenOk thin
  simp only [read_slim]
  rfl
theorem draw_slim (ops : Array Oper) : ∀ (l : List Oper) (j : Nat) (s : St) (hs : List Heap) (rs : List Seen),
    (drawV E call ops l j s hs rs).map (fun x => (x.1, x.2.1, x.2.2.map (thin ops))) = drawT E call (l.map (slim ops)) j s hs (rs.map (thin ops)) := by
  intro l
  induction l with
  | nil => intro j s hs rs; rfl
  | cons o l ih =>
    intro j s hs rs
    simp only [List.map_cons, drawV, drawT, heavy_slim, want_slim, step_slim]
    cases wantedV ops o s.1 with
    | false => simp only [Bool.false_eq_true, if_false]; exact ih _ _ _ _
    | true =>
      simp only [if_true]
      cases stepV E call o s with
      | none => rfl
      | some x =>
        obtain ⟨v, h⟩ := x
        simp only
        rw [ih]
        have e : isRead E (slim ops o) s.1 s.2 = ((pureV E (evV s.1) o).isNone && (readV E (evV s.1) s.2 o).isSome) := by
          unfold isRead; rw [pure_slim, read_slim]
        have d : (slim ops o).d = o.dst := rfl
        rw [e, d, ← Bool.and_assoc]
        congr 1
        split <;> rfl
theorem region_slim {ops : Array Oper} {p : Plan} {s s' : St} {hs : List Heap} {rs : List SSeen} (h : drawT E call (ops.toList.map (slim ops)) 0 s [] [] = some (s', hs, rs)) (hr : rs.all (seenT E p hs) = true) :
    regionV E call (some p) ops true s = some s' := by
  have h1 := draw_slim E call ops ops.toList 0 s [] []
  rw [List.map_nil, h] at h1
  obtain ⟨x, hx, he⟩ := Option.map_eq_some_iff.1 h1
  obtain ⟨a, b, c⟩ := x
  simp only [Prod.mk.injEq] at he
  obtain ⟨rfl, rfl, rfl⟩ := he
  unfold regionV
  simp only [if_true, hx]
  rw [List.all_map] at hr
  have : c.all (seenOk E p b) = true := by
    rw [← hr]
    have e : (seenT E p b ∘ thin ops) = seenOk E p b := by funext x; exact seen_slim E ops p b x
    rw [e]
  rw [if_pos this]
end
end Go.Vi
namespace Go.Vi
section
variable (E : Env) (call : CallV)
variable (d : Option Tmp) (ty : TypeId) (r : List SOp) (j : Nat) (t : Tmps) (h : Heap) (hs : List Heap) (rs : List SSeen)
end
end Go.Vi
