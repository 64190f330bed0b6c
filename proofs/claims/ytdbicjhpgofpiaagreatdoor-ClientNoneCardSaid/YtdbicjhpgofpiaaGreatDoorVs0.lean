/- Vs0: the interpreter's equations in a form that simp can step through: the part that decides is looked at first, what follows is left alone until then. -/
import Derived.Test.YtdbicjhpgofpiaaGreatDoorVi15
namespace Go.Vi
def andS {α β : Type} (x : Option α) (k : α → Option β) : Option β := match x with
  | some a => k a
  | none => none
@[congr] theorem andS_congr {α β : Type} {x y : Option α} {k : α → Option β} (h : x = y) : andS x k = andS y k := by rw [h]
theorem andS_some {α β : Type} (a : α) (k : α → Option β) : andS (some a) k = k a := rfl
theorem andS_none {α β : Type} (k : α → Option β) : andS none k = none := rfl
def orS {α : Type} (x : Option α) (k : Unit → Option α) : Option α := match x with
  | some a => some a
  | none => k ()
@[congr] theorem orS_congr {α : Type} {x y : Option α} {k : Unit → Option α} (h : x = y) : orS x k = orS y k := by rw [h]
theorem orS_some {α : Type} (a : α) (k : Unit → Option α) : orS (some a) k = some a := rfl
theorem orS_none {α : Type} (k : Unit → Option α) : orS none k = k () := rfl
def ifS {α : Type} (b : Bool) (x y : Unit → α) : α := match b with
  | true => x ()
  | false => y ()
@[congr] theorem ifS_congr {α : Type} {b c : Bool} {x y : Unit → α} (h : b = c) : ifS b x y = ifS c x y := by rw [h]
theorem ifS_true {α : Type} (x y : Unit → α) : ifS true x y = x () := rfl
theorem ifS_false {α : Type} (x y : Unit → α) : ifS false x y = y () := rfl
/-- the value of a condition. -/
def condS {α : Type} (v : Value) (x y : Unit → Option α) : Option α := match v with
  | .bool true => x ()
  | .bool false => y ()
  | _ => none
@[congr] theorem condS_congr {α : Type} {v u : Value} {x y : Unit → Option α} (h : v = u) : condS v x y = condS u x y := by rw [h]
theorem condS_bool {α : Type} (b : Bool) (x y : Unit → Option α) : condS (.bool b) x y = ifS b x y := by cases b <;> rfl

section
variable (E : Env) (call : CallV)
theorem opsS_nil (ops : Array Oper) (s : St) : opsV E call ops [] s = some s := rfl
theorem opsS_cons (ops : Array Oper) (o : Oper) (r : List Oper) (s : St) :
    opsV E call ops (o :: r) s = ifS (wantedV ops o s.1) (fun _ => andS (stepV E call o s) fun x => opsV E call ops r (putV s.1 o.dst x.1, x.2)) (fun _ => opsV E call ops r (putV s.1 o.dst undef, s.2)) := by
  rw [opsV]
  cases wantedV ops o s.1 <;> simp only [ifS, if_true, Bool.false_eq_true, if_false]
  unfold andS
  cases stepV E call o s <;> rfl
theorem stepS (o : Oper) (s : St) :
    stepV E call o s = orS (andS (pureV E (evV s.1) o) fun v => some (v, s.2)) fun _ => orS (andS (readV E (evV s.1) s.2 o) fun v => some (v, s.2)) fun _ =>
      orS (andS (newV E (evV s.1) o) fun x => some (x.2.val s.2.next, s.2.new x.1)) fun _ => heavyV E call (evV s.1) s.2 o := by
  unfold stepV orS andS
  simp only
  cases pureV E (evV s.1) o <;> simp only
  cases readV E (evV s.1) s.2 o <;> simp only
  cases newV E (evV s.1) o <;> rfl
end
section
variable (E : Env) (call : CallV) (pl : Nat → Option Plan) (fuel : Nat)
theorem codeS_skip (s : St) : codeV E call pl fuel .skip s = some (.normal, s) := by simp [codeV]
theorem codeS_list (id : Nat) (ops : Array Oper) (s : St) : codeV E call pl fuel (.region id ops false) s = andS (opsV E call ops ops.toList s) fun s => some (.normal, s) := by
  rw [codeV]
  unfold regionV andS
  simp only [Bool.false_eq_true, if_false]
  cases opsV E call ops ops.toList s <;> rfl
def exS (x : Ex) (n : Unit → Option (Ex × St)) (r : Option (Ex × St)) : Option (Ex × St) := match x with
  | .normal => n ()
  | _ => r
theorem exS_normal (n : Unit → Option (Ex × St)) (r : Option (Ex × St)) : exS .normal n r = n () := rfl
theorem exS_exit (i : Nat) (n : Unit → Option (Ex × St)) (r : Option (Ex × St)) : exS (.exit i) n r = r := rfl
theorem exS_ret (n : Unit → Option (Ex × St)) (r : Option (Ex × St)) : exS .ret n r = r := rfl
@[congr] theorem exS_congr {x y : Ex} {n : Unit → Option (Ex × St)} {r : Option (Ex × St)} (h : x = y) : exS x n r = exS y n r := by rw [h]
theorem codeS_seq (a b : Code) (s : St) : codeV E call pl fuel (.seq a b) s = andS (codeV E call pl fuel a s) fun x => exS x.1 (fun _ => codeV E call pl fuel b x.2) (some x) := by
  rw [codeV]
  cases codeV E call pl fuel a s with
  | none => rfl
  | some x => obtain ⟨e, s'⟩ := x; cases e <;> rfl
theorem codeS_cond (c : Operand) (a b : Code) (s : St) : codeV E call pl fuel (.cond c a b) s = condS (evV s.1 c) (fun _ => codeV E call pl fuel a s) (fun _ => codeV E call pl fuel b s) := by
  rw [codeV]
  unfold condS
  cases evV s.1 c <;> try rfl
theorem codeS_exit (i : Nat) (s : St) : codeV E call pl fuel (.exit i) s = some (.exit i, s) := by simp [codeV]
theorem codeS_ret (s : St) : codeV E call pl fuel .ret s = some (.ret, s) := by simp [codeV]
end
end Go.Vi
