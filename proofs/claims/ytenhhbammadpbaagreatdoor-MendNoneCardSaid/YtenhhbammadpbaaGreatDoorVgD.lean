/- Vs0: the interpreter's equations in a form that simp can step through: the part that decides is looked at first, what follows is left alone until then. Vs1: operations without what the interpreter doesn't look at; guards by the slot that decides. Vs3: the interpreter's equations, without lambdas: simp goes from operation to operation. Vs4: equations of the other operations. Vs5: code with slim regions, and its equations. Vs6: the environment that a program gives: its types and functions, looked up in the program itself. Vs7: from the interpreter's equation to a Go call, where the arguments hold no pointers. Vs8: regions whose order is drawn, with slim operations. Vs9: a drawn region's operations, one equation for each kind. -/
import Derived.Test.YtenhhbammadpbaaGreatDoorVgC
import Derived.Below
namespace Go.Vi
def andS {α β : Type} (x : Option α) (k : α → Option β) : Option β := match x with
  | some a => k a
  | none => none
@[congr] theorem andS_congr {α β : Type} {x y : Option α} {k : α → Option β} (h : x = y) : andS x k = andS y k := by rw [h]
def orS {α : Type} (x : Option α) (k : Unit → Option α) : Option α := match x with
  | some a => some a
  | none => k ()
@[congr] theorem orS_congr {α : Type} {x y : Option α} {k : Unit → Option α} (h : x = y) : orS x k = orS y k := by rw [h]
def ifS {α : Type} (b : Bool) (x y : Unit → α) : α := match b with
  | true => x ()
  | false => y ()
@[congr] theorem ifS_congr {α : Type} {b c : Bool} {x y : Unit → α} (h : b = c) : ifS b x y = ifS c x y := by rw [h]
def condS {α : Type} (v : Value) (x y : Unit → Option α) : Option α := match v with
  | .bool true => x ()
  | .bool false => y ()
  | _ => none
@[congr] theorem condS_congr {α : Type} {v u : Value} {x y : Unit → Option α} (h : v = u) : condS v x y = condS u x y := by rw [h]
section
variable (E : Env) (call : CallV)
end
section
variable (E : Env) (call : CallV) (pl : Nat → Option Plan) (fuel : Nat)
def exS (x : Ex) (n : Unit → Option (Ex × St)) (r : Option (Ex × St)) : Option (Ex × St) := match x with
  | .normal => n ()
  | _ => r
@[congr] theorem exS_congr {x y : Ex} {n : Unit → Option (Ex × St)} {r : Option (Ex × St)} (h : x = y) : exS x n r = exS y n r := by rw [h]
end
end Go.Vi
namespace Go.Vi
structure SOp where
  d : Option Tmp
  op : Op
  ty : TypeId
  g : Option (Option Tmp × Bool)
def SOp.o (x : SOp) : Oper := { dst := x.d, op := x.op, type := x.ty, pos := "", after := #[], guard := none }
def slim (ops : Array Oper) (o : Oper) : SOp := { d := o.dst, op := o.op, ty := o.type, g := o.guard.map fun q => ((ops[q.1]?).bind (·.dst), q.2) }
def wantS (g : Option (Option Tmp × Bool)) (t : Tmps) : Bool := match g with
  | none => true
  | some (d, want) => match d.bind (t[·]?) with
    | some (.bool b) => b == want
    | _ => false
def opsS (E : Env) (call : CallV) : List SOp → St → Option St
  | [], s => some s
  | x :: r, s => if wantS x.g s.1 then match stepV E call x.o s with
      | some (v, h) => opsS E call r (putV s.1 x.d v, h)
      | none => none
    else opsS E call r (putV s.1 x.d undef, s.2)
section
variable (E : Env) (call : CallV)
theorem step_slim (ops : Array Oper) (o : Oper) (s : St) : stepV E call (slim ops o).o s = stepV E call o s := by
  obtain ⟨dst, op, ty, pos, after, guard⟩ := o
  have h1 : ∀ ev, pureV E ev (slim ops ⟨dst, op, ty, pos, after, guard⟩).o = pureV E ev ⟨dst, op, ty, pos, after, guard⟩ := fun ev => by
    unfold pureV slim SOp.o; cases op <;> rfl
  have h2 : ∀ ev h, readV E ev h (slim ops ⟨dst, op, ty, pos, after, guard⟩).o = readV E ev h ⟨dst, op, ty, pos, after, guard⟩ := fun ev h => by
    unfold readV slim SOp.o; cases op <;> rfl
  have h3 : ∀ ev, newV E ev (slim ops ⟨dst, op, ty, pos, after, guard⟩).o = newV E ev ⟨dst, op, ty, pos, after, guard⟩ := fun ev => by
    unfold newV slim SOp.o; cases op <;> rfl
  have h4 : ∀ ev h, heavyV E call ev h (slim ops ⟨dst, op, ty, pos, after, guard⟩).o = heavyV E call ev h ⟨dst, op, ty, pos, after, guard⟩ := fun ev h => by
    unfold heavyV slim SOp.o; cases op <;> rfl
  unfold stepV
  simp only [h1, h2, h3, h4]
theorem want_slim (ops : Array Oper) (o : Oper) (t : Tmps) : wantS (slim ops o).g t = wantedV ops o t := by
  unfold wantS wantedV slim
  cases o.guard <;> rfl
theorem ops_slim (ops : Array Oper) : ∀ (l : List Oper) (s : St), opsV E call ops l s = opsS E call (l.map (slim ops)) s := by
  intro l
  induction l with
  | nil => intro s; rfl
  | cons o l ih =>
    intro s
    rw [opsV, List.map_cons, opsS, want_slim, step_slim]
    split
    · have : (slim ops o).d = o.dst := rfl
      rw [this]
      cases stepV E call o s with
      | none => rfl
      | some x => exact ih _
    · exact ih _
theorem opsT_cons (d : Option Tmp) (op : Op) (ty : TypeId) (g : Option (Option Tmp × Bool)) (r : List SOp) (t : Tmps) (h : Heap) :
    opsS E call (⟨d, op, ty, g⟩ :: r) (t, h) = ifS (wantS g t) (fun _ => andS (stepV E call (SOp.o ⟨d, op, ty, none⟩) (t, h)) fun x => opsS E call r (putV t d x.1, x.2)) (fun _ => opsS E call r (putV t d undef, h)) := by
  rw [opsS]
  cases wantS g t <;> simp only [ifS, if_true, Bool.false_eq_true, if_false]
  have : SOp.o ⟨d, op, ty, g⟩ = SOp.o ⟨d, op, ty, none⟩ := rfl
  rw [this]
  unfold andS
  cases stepV E call (SOp.o ⟨d, op, ty, none⟩) (t, h) <;> rfl
theorem want_none (t : Tmps) : wantS none t = true := rfl
end
end Go.Vi
namespace Go.Vi
section
variable (E : Env) (call : CallV)
def stK (r : List SOp) (t : Tmps) (d : Option Tmp) (x : Option (Value × Heap)) : Option St := match x with
  | some (v, h) => opsS E call r (putV t d v, h)
  | none => none
def isB (v : Value) (w : Bool) : Bool := match v with
  | .bool b => b == w
  | _ => false
theorem sk_nil (s : St) : opsS E call [] s = some s := rfl
theorem wantS_some (d : Tmp) (want : Bool) (t : Tmps) : wantS (some (some d, want)) t = isB (t.getD d undef) want := by
  unfold wantS isB
  obtain ⟨d', hd⟩ : ∃ d' : Nat, d' = d := ⟨d, rfl⟩
  subst hd
  rw [List.getD_eq_getElem?_getD]
  simp only [Option.bind_some]
  cases hq : t[d']? with
  | none => simp [undef]
  | some v => simp; cases v <;> rfl
theorem sk_cons' (d : Option Tmp) (op : Op) (ty : TypeId) (r : List SOp) (t : Tmps) (h : Heap) :
    opsS E call (⟨d, op, ty, none⟩ :: r) (t, h) = stK E call r t d (stepV E call (SOp.o ⟨d, op, ty, none⟩) (t, h)) := by
  rw [opsT_cons]
  unfold stK ifS andS
  simp only [want_none]
  cases stepV E call (SOp.o ⟨d, op, ty, none⟩) (t, h) <;> rfl
theorem stK_some (r : List SOp) (t : Tmps) (d : Option Tmp) (v : Value) (h : Heap) : stK E call r t d (some (v, h)) = opsS E call r (putV t d v, h) := rfl
def atH (h : Heap) (x : Option Value) : Option (Value × Heap) := match x with
  | some v => some (v, h)
  | none => none
theorem atH_some (h : Heap) (v : Value) : atH h (some v) = some (v, h) := rfl
section
variable (d : Option Tmp) (ty : TypeId) (t : Tmps) (h : Heap)
theorem sk_move (x : Operand) : stepV E call (SOp.o ⟨d, .move x, ty, none⟩) (t, h) = some (evV t x, h) := rfl
theorem sk_assign (x : Operand) : stepV E call (SOp.o ⟨d, .assign x, ty, none⟩) (t, h) = some (evV t x, h) := rfl
def pickK (c : Value) (a b : Value) : Option Value := match c with
  | .bool p => some (if p then a else b)
  | _ => none
theorem sk_bin (op : BinOp) (xt yt : TypeId) (x y : Operand) : stepV E call (SOp.o ⟨d, .binOp op xt x y yt, ty, none⟩) (t, h) = atH h (binV E op xt (isConstO x || isConstO y) (evV t x) (evV t y)) := by
  unfold stepV pureV readV newV heavyV SOp.o atH
  simp only
  cases binV E op xt (isConstO x || isConstO y) (evV t x) (evV t y) <;> rfl
theorem bin_int (op : BinOp) (k : IntKind) (c : Bool) (a b : Int) : binV E op ty c (.int k a) (.int k b) = arithV op k a b := by
  unfold binV
  simp
end
end
theorem ar_lss (k : IntKind) (a b : Int) : arithV .lss k a b = some (.bool (decide (a < b))) := rfl
theorem ar_leq (k : IntKind) (a b : Int) : arithV .leq k a b = some (.bool (decide (a ≤ b))) := rfl
theorem ar_gtr (k : IntKind) (a b : Int) : arithV .gtr k a b = some (.bool (decide (a > b))) := rfl
theorem ar_geq (k : IntKind) (a b : Int) : arithV .geq k a b = some (.bool (decide (a ≥ b))) := rfl
theorem ar_eql (k : IntKind) (a b : Int) : arithV .eql k a b = some (.bool (a == b)) := rfl
theorem ar_neq (k : IntKind) (a b : Int) : arithV .neq k a b = some (.bool (a != b)) := rfl
theorem ar_add (k : IntKind) (a b : Int) : arithV .add k a b = some (.int k (k.wrap (a + b))) := rfl
theorem ar_sub (k : IntKind) (a b : Int) : arithV .sub k a b = some (.int k (k.wrap (a - b))) := rfl
theorem ar_mul (k : IntKind) (a b : Int) : arithV .mul k a b = some (.int k (k.wrap (a * b))) := rfl
theorem ev_tmp (t : Tmps) (i : Nat) : evV t (.tmp i) = t.getD i undef := rfl
theorem ev_int (t : Tmps) (k : IntKind) (n : Int) : evV t (.const (.int k n)) = .int k n := rfl
theorem put_some (t : Tmps) (i : Nat) (v : Value) : putV t (some i) v = t.set i v := rfl
theorem put_none (t : Tmps) (v : Value) : putV t none v = t := rfl
end Go.Vi
namespace Go.Vi
def orK {α : Type} (x y : Option α) : Option α := match x with
  | some a => some a
  | none => y
theorem orK_some {α : Type} (a : α) (y : Option α) : orK (some a) y = some a := rfl
theorem orK_none {α : Type} (y : Option α) : orK none y = y := rfl
def heapK (v : Value) (x : Option Heap) : Option (Value × Heap) := match x with
  | some h => some (v, h)
  | none => none
theorem heapK_some (v : Value) (h : Heap) : heapK v (some h) = some (v, h) := rfl
def newK (h : Heap) (x : Option (Blk × Mk)) : Option (Value × Heap) := match x with
  | some (b, m) => some (m.val h.next, h.new b)
  | none => none
theorem newK_some (h : Heap) (b : Blk) (m : Mk) : newK h (some (b, m)) = some (m.val h.next, h.new b) := rfl
section
variable (E : Env) (call : CallV) (d : Option Tmp) (ty : TypeId) (t : Tmps) (h : Heap)
theorem sk_un (op : UnOp) (xt : TypeId) (x : Operand) : stepV E call (SOp.o ⟨d, .unOp op xt x, ty, none⟩) (t, h) = atH h (unV op (evV t x)) := by
  unfold stepV pureV readV newV heavyV SOp.o atH
  simp only
  cases unV op (evV t x) <;> rfl
theorem sk_indexAddr (s : TypeId) (x i : Operand) : stepV E call (SOp.o ⟨d, .indexAddr s x i, ty, none⟩) (t, h) = atH h (indexAddrV E s (evV t x) (evV t i)) := by
  unfold stepV pureV readV newV heavyV SOp.o atH
  simp only
  cases indexAddrV E s (evV t x) (evV t i) <;> rfl
def extrK (v : Value) (i : Nat) : Option Value := match v with
  | .tuple vs => vs[i]?
  | _ => none
theorem sk_load (lt : TypeId) (a : Operand) : stepV E call (SOp.o ⟨d, .load lt a, ty, none⟩) (t, h) = atH h (loadV E lt (evV t a) h) := by
  unfold stepV pureV readV newV heavyV SOp.o atH
  simp only
  cases loadV E lt (evV t a) h <;> rfl
theorem sk_store (st : TypeId) (a x : Operand) : stepV E call (SOp.o ⟨d, .store st a x, ty, none⟩) (t, h) = heapK undef (storeV E st (evV t a) (evV t x) h) := by
  unfold stepV pureV readV newV heavyV SOp.o heapK
  simp only
  cases storeV E st (evV t a) (evV t x) h <;> rfl
theorem sk_alloc (at_ : TypeId) : stepV E call (SOp.o ⟨d, .alloc at_, ty, none⟩) (t, h) = newK h (newV E (evV t) (SOp.o ⟨d, .alloc at_, ty, none⟩)) := by
  unfold stepV pureV readV heavyV SOp.o newK
  simp only
  cases newV E (evV t) _ <;> rfl
def callR (E : Env) (call : CallV) (f : FuncId) (args : List Value) (h : Heap) : Option (Value × Heap) :=
  match E.row f with
  | some r => r args h
  | none => call f args h
theorem sk_call (f : FuncId) (args : Array Operand) (ats : Array TypeId) : stepV E call (SOp.o ⟨d, .call { callee := .value (.func f), args := args, argTypes := ats }, ty, none⟩) (t, h) = callR E call f (args.map (evV t)).toList h := by
  unfold stepV pureV readV newV heavyV SOp.o callR
  simp [evV]
  cases E.row f <;> rfl
end
end Go.Vi
namespace Go.Vi
inductive SCode where
  | skip
  | list (l : List SOp)
  | drawn (id : Nat) (ops : Array Oper)
  | seq (a b : SCode)
  | cond (c : Operand) (a b : SCode)
  | block (id : Nat) (b : SCode)
  | loop (b : SCode)
  | exit (id : Nat)
  | ret
  | raw (c : Code)
def slimC : Code → SCode
  | .skip => .skip
  | .region id ops draw => if draw then .drawn id ops else .list (ops.toList.map (slim ops))
  | .seq a b => .seq (slimC a) (slimC b)
  | .cond c a b => .cond c (slimC a) (slimC b)
  | .block id b => .block id (slimC b)
  | .loop b => .loop (slimC b)
  | .exit id => .exit id
  | .ret => .ret
  | c => .raw c
section
variable (E : Env) (call : CallV) (pl : Nat → Option Plan) (fuel : Nat)
def endK (x : Option St) : Option (Ex × St) := match x with
  | some s => some (.normal, s)
  | none => none
def codeT : SCode → St → Option (Ex × St)
  | .skip, s => some (.normal, s)
  | .list l, s => endK (opsS E call l s)
  | .drawn id ops, s => endK (regionV E call (pl id) ops true s)
  | .seq a b, s => match codeT a s with
    | some (.normal, s') => codeT b s'
    | r => r
  | .cond c a b, s => match evV s.1 c with
    | .bool true => codeT a s
    | .bool false => codeT b s
    | _ => none
  | .block id b, s => match codeT b s with
    | some (.exit i, s') => if i = id then some (.normal, s') else some (.exit i, s')
    | r => r
  | .loop b, s => iterV (codeT b) fuel s
  | .exit id, s => some (.exit id, s)
  | .ret, s => some (.ret, s)
  | .raw c, s => codeV E call pl fuel c s
theorem iter_congr {f g : St → Option (Ex × St)} (h : ∀ s, f s = g s) : ∀ n s, iterV f n s = iterV g n s := by
  have : f = g := funext h
  subst this; intros; rfl
theorem code_slim : ∀ (c : Code) (s : St), codeV E call pl fuel c s = codeT E call pl fuel (slimC c) s := by
  intro c
  induction c with
  | skip => intro s; simp [codeV, slimC, codeT]
  | region id ops draw =>
    intro s
    rw [codeV, slimC]
    cases draw with
    | true => simp only [if_true, codeT, endK]; cases regionV E call (pl id) ops true s <;> rfl
    | false =>
      simp only [Bool.false_eq_true, if_false, codeT, endK]
      unfold regionV
      simp only [Bool.false_eq_true, if_false]
      rw [ops_slim]
      cases opsS E call (ops.toList.map (slim ops)) s <;> rfl
  | seq a b iha ihb =>
    intro s
    rw [codeV, slimC, codeT, iha]
    cases codeT E call pl fuel (slimC a) s with
    | none => rfl
    | some x => obtain ⟨e, s'⟩ := x; cases e <;> first | exact ihb _ | rfl
  | cond c a b iha ihb =>
    intro s
    rw [codeV, slimC, codeT, iha, ihb]
    cases evV s.1 c <;> rfl
  | block id b ih =>
    intro s
    rw [codeV, slimC, codeT, ih]
    cases codeT E call pl fuel (slimC b) s with
    | none => rfl
    | some x => obtain ⟨e, s'⟩ := x; cases e <;> rfl
  | loop b ih =>
    intro s
    rw [codeV, slimC, codeT]
    exact iter_congr ih _ _
  | exit id => intro s; simp [codeV, slimC, codeT]
  | ret => intro s; simp [codeV, slimC, codeT]
  | _ => intro s; rfl
def seqK (b : SCode) (x : Option (Ex × St)) : Option (Ex × St) := match x with
  | some (.normal, s') => codeT E call pl fuel b s'
  | r => r
def condK (a b : SCode) (s : St) (v : Value) : Option (Ex × St) := match v with
  | .bool true => codeT E call pl fuel a s
  | .bool false => codeT E call pl fuel b s
  | _ => none
def blockK (id : Nat) (x : Option (Ex × St)) : Option (Ex × St) := match x with
  | some (.exit i, s') => if i = id then some (.normal, s') else some (.exit i, s')
  | r => r
theorem ck_skip (s : St) : codeT E call pl fuel .skip s = some (.normal, s) := rfl
theorem ck_list (l : List SOp) (s : St) : codeT E call pl fuel (.list l) s = endK (opsS E call l s) := rfl
theorem ck_seq (a b : SCode) (s : St) : codeT E call pl fuel (.seq a b) s = seqK E call pl fuel b (codeT E call pl fuel a s) := by
  rw [codeT]; unfold seqK; rfl
theorem ck_cond (c : Operand) (a b : SCode) (s : St) : codeT E call pl fuel (.cond c a b) s = condK E call pl fuel a b s (evV s.1 c) := by
  rw [codeT]; unfold condK; rfl
theorem ck_block (id : Nat) (b : SCode) (s : St) : codeT E call pl fuel (.block id b) s = blockK id (codeT E call pl fuel b s) := by
  rw [codeT]; unfold blockK; rfl
theorem ck_loop (b : SCode) (s : St) : codeT E call pl fuel (.loop b) s = iterV (codeT E call pl fuel b) fuel s := rfl
theorem ck_exit (id : Nat) (s : St) : codeT E call pl fuel (.exit id) s = some (.exit id, s) := rfl
theorem ck_ret (s : St) : codeT E call pl fuel .ret s = some (.ret, s) := rfl
theorem seqK_normal (b : SCode) (s : St) : seqK E call pl fuel b (some (.normal, s)) = codeT E call pl fuel b s := rfl
theorem seqK_exit (b : SCode) (i : Nat) (s : St) : seqK E call pl fuel b (some (.exit i, s)) = some (.exit i, s) := rfl
theorem condK_true (a b : SCode) (s : St) : condK E call pl fuel a b s (.bool true) = codeT E call pl fuel a s := rfl
theorem condK_false (a b : SCode) (s : St) : condK E call pl fuel a b s (.bool false) = codeT E call pl fuel b s := rfl
theorem endK_some (s : St) : endK (some s) = some (.normal, s) := rfl
end
theorem blockK_normal (id : Nat) (s : St) : blockK id (some (.normal, s)) = some (.normal, s) := rfl
theorem blockK_exit (id i : Nat) (s : St) : blockK id (some (.exit i, s)) = if i = id then some (.normal, s) else some (.exit i, s) := rfl
theorem call_slim {E : Env} {n : Nat} {f : FuncId} {fn : Fun} {g : SCode} (args : List Value) (h : Heap) (he : E.ext f = none) (hf : E.fn f = some fn) (hg : slimC fn.body = g) {s : St} {x : Ex} {l : List Value}
    (hc : codeT E (callV E n) fn.plan n g (args ++ List.replicate (fn.fn.ntmps - args.length) undef, h) = some (x, s)) (hx : x = .normal ∨ x = .ret) (hr : resultsV E s fn.fn.results.toList = some l) :
    callV E (n + 1) f args h = some (oneOrTuple l, s.2) := by
  rw [callV]
  simp only [he, hf]
  rw [code_slim, hg, hc]
  rcases hx with rfl | rfl <;> simp only [hr] <;> rfl
end Go.Vi
namespace Go.Vi
variable {K : Known}
def tyOf (P : Program) (t : TypeId) : Option Ty :=
  match P.underlying t, P.info? t with
  | some u, some x =>
    if x.zero.all (plainB 100) then
      some { under := u, agg := aggD u, size := x.size, bytes := x.bytes, zero := x.zero, eqg := P.eqGuardType P.depth t, held := P.stoodInHeld t, cmp := x.comparable,
             tag := (match u with | .struct fs => (match fs[0]? with | some f => (match P.underlying f.type with | some (.pointer e) => Nat.beq e t | _ => false) | none => false) | _ => false) && liesAt P P.depth t 1 0 t 1,
             places := match u with | .struct fs => fs.toList.mapM (fun f => (P.info? f.type).map fun i => (f.offset, i.size)) | _ => none }
    else none
  | _, _ => none
theorem tyOf_ok {P : Program} {t : TypeId} {i : Ty} (h : tyOf P t = some i) : TyOk P t i := by
  unfold tyOf at h
  split at h
  · rename_i u x hu hx
    split at h
    · rename_i hz
      cases h
      refine ⟨hu, rfl, ⟨x, hx, rfl, rfl, rfl, rfl⟩, fun z h => ?_, fun h => h, fun h => h, fun h => (Bool.and_eq_true_iff.1 h).2, fun fs pl h1 h2 => ?_⟩
      · simp only at h; rw [h] at hz; simpa using hz
      · simp only at h1; subst h1; exact h2
    · cases h
  · cases h
def plansOf : Code → List (Nat × Plan)
  | .region id ops true => match mkPlan ops with | some p => [(id, p)] | none => []
  | .seq a b => plansOf a ++ plansOf b
  | .cond _ a b => plansOf a ++ plansOf b
  | .block _ b => plansOf b
  | .loop b => plansOf b
  | .rangeFunc _ _ a b => plansOf a ++ plansOf b
  | _ => []
def lookP : List (Nat × Plan) → Nat → Option Plan
  | [], _ => none
  | (i, p) :: r, id => if i = id then some p else lookP r id
def fnOf (P : Program) (f : FuncId) : Option Fun :=
  match P.funcs[f]? with
  | none => none
  | some fn => match fn.body with
    | none => none
    | some c => if fn.name ≠ "runtime.NumGoroutine" ∧ planOk (lookP (plansOf c)) c = true ∧ codeOk c = true then some { fn := fn, body := c, plan := lookP (plansOf c) } else none
theorem fnOf_ok {P : Program} {f : FuncId} {x : Fun} (h : fnOf P f = some x) : FunOk P f x := by
  unfold fnOf at h
  split at h
  · cases h
  · rename_i fn hf
    split at h
    · cases h
    · rename_i c hc
      split at h
      · rename_i hq
        cases h
        exact ⟨hf, hc, hq.1, hq.2.1, hq.2.2⟩
      · cases h
end Go.Vi
namespace Go.Vi
def h0 : Heap := { next := 0, tr := .leaf }
theorem good0' {K : Known} {w : World} (k : K.is (fun _ => none) w) : Good K (fun _ => none) h0 w :=
  ⟨⟨fun _ _ _ h => (nomatch h), fun _ _ _ _ h => (nomatch h), fun _ _ h => (nomatch h), fun b _ => by simp [h0, Heap.get, Trie.get], fun _ _ _ h => (nomatch h)⟩, k⟩
theorem good0 (w : World) : Good .none (fun _ => none) h0 w := good0' trivial
theorem calls_bool {P : Program} {E : Env} (ok : EnvOk .none P E) {n : Nat} {f : FuncId} {args : List Value} {b : Bool} {h' : Heap} (hp : args.all (plainB 100) = true) (hv : callV E n f args h0 = some (.bool b, h')) (w : World) :
    Calls P f ⟨args⟩ w fun e w' => e = .returned (.bool b) ∧ w'.os = w.os ∧ w'.output = w.output ∧ w.heap.size ≤ w'.heap.size ∧ ∀ k, k < w.heap.size → w'.heap[k]? = w.heap[k]? := by
  refine ((call_ok ok n).calls f args h0 _ h' hv (fun _ => none) w ⟨args⟩ (good0 w) (fun _ _ _ => rfl) (plain_rels (fun v => plain_rel 100 v) args hp)).mono ?_
  rintro e w' ⟨ρ', v', rfl, rv, g', s⟩
  have : v' = .bool b := by cases rv; rfl
  subst this
  exact ⟨rfl, s.side.1, s.side.2, s.grow, fun k hk => s.rframe k hk (fun _ _ h => (nomatch h))⟩
end Go.Vi
namespace Go.Vi
theorem heavy_slim (ops : Array Oper) (o : Oper) : heavyOp (slim ops o).o = heavyOp o := by
  obtain ⟨dst, op, ty, pos, after, guard⟩ := o
  unfold heavyOp slim SOp.o
  rfl
structure SSeen where
  at_ : Nat
  op : SOp
  t : Tmps
  v : Value
def isRead (E : Env) (x : SOp) (t : Tmps) (h : Heap) : Bool := (pureV E (evV t) x.o).isNone && (readV E (evV t) h x.o).isSome
def drawT (E : Env) (call : CallV) : List SOp → Nat → St → List Heap → List SSeen → Option (St × List Heap × List SSeen)
  | [], _, s, hs, rs => some (s, hs ++ [s.2], rs)
  | x :: r, j, s, hs, rs =>
    let hs := if heavyOp x.o then hs ++ [s.2] else hs
    if wantS x.g s.1 then
      match stepV E call x.o s with
      | some (v, h) => drawT E call r (j + 1) (putV s.1 x.d v, h) hs (if !heavyOp x.o && isRead E x s.1 s.2 then ⟨j, x, s.1, v⟩ :: rs else rs)
      | none => none
    else drawT E call r (j + 1) (putV s.1 x.d undef, s.2) hs rs
def seenT (E : Env) (p : Plan) (hs : List Heap) (x : SSeen) : Bool :=
  let lo := p.lo.getD x.at_ 0
  let hi := p.hi.getD x.at_ 0
  (List.range (hi + 1 - lo)).all fun k => match hs[lo + k]? with
    | some h => match readV E (evV x.t) h x.op.o with
      | some v => veq 100000 v x.v
      | none => false
    | none => false
def thin (ops : Array Oper) (x : Seen) : SSeen := ⟨x.at_, slim ops x.op, x.t, x.v⟩
section
variable (E : Env) (call : CallV)
theorem pure_slim (ops : Array Oper) (o : Oper) (ev : Operand → Value) : pureV E ev (slim ops o).o = pureV E ev o := by
  obtain ⟨dst, op, ty, pos, after, guard⟩ := o
  unfold pureV slim SOp.o; cases op <;> rfl
theorem read_slim (ops : Array Oper) (o : Oper) (ev : Operand → Value) (h : Heap) : readV E ev h (slim ops o).o = readV E ev h o := by
  obtain ⟨dst, op, ty, pos, after, guard⟩ := o
  unfold readV slim SOp.o; cases op <;> rfl
theorem seen_slim (ops : Array Oper) (p : Plan) (hs : List Heap) (x : Seen) : seenT E p hs (thin ops x) = seenOk E p hs x := by
  unfold seenT seenOk thin
  simp only [read_slim]
  rfl
theorem draw_slim (ops : Array Oper) : ∀ (l : List Oper) (j : Nat) (s : St) (hs : List Heap) (rs : List Seen),
    (drawV E call ops l j s hs rs).map (fun x => (x.1, x.2.1, x.2.2.map (thin ops))) = drawT E call (l.map (slim ops)) j s hs (rs.map (thin ops)) := by
  intro l
  induction l with
  | nil => intro j s hs rs; rfl
  | cons o l ih =>
    intro j s hs rs
    simp only [List.map_cons, drawV, drawT, heavy_slim, want_slim, step_slim]
    cases wantedV ops o s.1 with
    | false => simp only [Bool.false_eq_true, if_false]; exact ih _ _ _ _
    | true =>
      simp only [if_true]
      cases stepV E call o s with
      | none => rfl
      | some x =>
        obtain ⟨v, h⟩ := x
        simp only
        rw [ih]
        have e : isRead E (slim ops o) s.1 s.2 = ((pureV E (evV s.1) o).isNone && (readV E (evV s.1) s.2 o).isSome) := by
          unfold isRead; rw [pure_slim, read_slim]
        have d : (slim ops o).d = o.dst := rfl
        rw [e, d, ← Bool.and_assoc]
        congr 1
        split <;> rfl
theorem region_slim {ops : Array Oper} {p : Plan} {s s' : St} {hs : List Heap} {rs : List SSeen} (h : drawT E call (ops.toList.map (slim ops)) 0 s [] [] = some (s', hs, rs)) (hr : rs.all (seenT E p hs) = true) :
    regionV E call (some p) ops true s = some s' := by
  have h1 := draw_slim E call ops ops.toList 0 s [] []
  rw [List.map_nil, h] at h1
  obtain ⟨x, hx, he⟩ := Option.map_eq_some_iff.1 h1
  obtain ⟨a, b, c⟩ := x
  simp only [Prod.mk.injEq] at he
  obtain ⟨rfl, rfl, rfl⟩ := he
  unfold regionV
  simp only [if_true, hx]
  rw [List.all_map] at hr
  have : c.all (seenOk E p b) = true := by
    rw [← hr]
    have e : (seenT E p b ∘ thin ops) = seenOk E p b := by funext x; exact seen_slim E ops p b x
    rw [e]
  rw [if_pos this]
end
end Go.Vi
namespace Go.Vi
section
variable (E : Env) (call : CallV)
variable (d : Option Tmp) (ty : TypeId) (r : List SOp) (j : Nat) (t : Tmps) (h : Heap) (hs : List Heap) (rs : List SSeen)
end
end Go.Vi
