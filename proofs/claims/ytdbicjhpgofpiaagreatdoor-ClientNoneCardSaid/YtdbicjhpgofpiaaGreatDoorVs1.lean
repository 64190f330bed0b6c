/- Vs1: operations without what the interpreter doesn't look at; guards by the slot that decides. -/
import Derived.Test.YtdbicjhpgofpiaaGreatDoorVs0
namespace Go.Vi
structure SOp where
  d : Option Tmp
  op : Op
  ty : TypeId
  g : Option (Option Tmp × Bool)
def SOp.o (x : SOp) : Oper := { dst := x.d, op := x.op, type := x.ty, pos := "", after := #[], guard := none }
def slim (ops : Array Oper) (o : Oper) : SOp := { d := o.dst, op := o.op, ty := o.type, g := o.guard.map fun q => ((ops[q.1]?).bind (·.dst), q.2) }
def wantS (g : Option (Option Tmp × Bool)) (t : Tmps) : Bool := match g with
  | none => true
  | some (d, want) => match d.bind (t[·]?) with
    | some (.bool b) => b == want
    | _ => false
def opsS (E : Env) (call : CallV) : List SOp → St → Option St
  | [], s => some s
  | x :: r, s => if wantS x.g s.1 then match stepV E call x.o s with
      | some (v, h) => opsS E call r (putV s.1 x.d v, h)
      | none => none
    else opsS E call r (putV s.1 x.d undef, s.2)
section
variable (E : Env) (call : CallV)
theorem step_slim (ops : Array Oper) (o : Oper) (s : St) : stepV E call (slim ops o).o s = stepV E call o s := by
  obtain ⟨dst, op, ty, pos, after, guard⟩ := o
  have h1 : ∀ ev, pureV E ev (slim ops ⟨dst, op, ty, pos, after, guard⟩).o = pureV E ev ⟨dst, op, ty, pos, after, guard⟩ := fun ev => by
    unfold pureV slim SOp.o; cases op <;> rfl
  have h2 : ∀ ev h, readV E ev h (slim ops ⟨dst, op, ty, pos, after, guard⟩).o = readV E ev h ⟨dst, op, ty, pos, after, guard⟩ := fun ev h => by
    unfold readV slim SOp.o; cases op <;> rfl
  have h3 : ∀ ev, newV E ev (slim ops ⟨dst, op, ty, pos, after, guard⟩).o = newV E ev ⟨dst, op, ty, pos, after, guard⟩ := fun ev => by
    unfold newV slim SOp.o; cases op <;> rfl
  have h4 : ∀ ev h, heavyV E call ev h (slim ops ⟨dst, op, ty, pos, after, guard⟩).o = heavyV E call ev h ⟨dst, op, ty, pos, after, guard⟩ := fun ev h => by
    unfold heavyV slim SOp.o; cases op <;> rfl
  unfold stepV
  simp only [h1, h2, h3, h4]
theorem want_slim (ops : Array Oper) (o : Oper) (t : Tmps) : wantS (slim ops o).g t = wantedV ops o t := by
  unfold wantS wantedV slim
  cases o.guard <;> rfl
theorem ops_slim (ops : Array Oper) : ∀ (l : List Oper) (s : St), opsV E call ops l s = opsS E call (l.map (slim ops)) s := by
  intro l
  induction l with
  | nil => intro s; rfl
  | cons o l ih =>
    intro s
    rw [opsV, List.map_cons, opsS, want_slim, step_slim]
    split
    · have : (slim ops o).d = o.dst := rfl
      rw [this]
      cases stepV E call o s with
      | none => rfl
      | some x => exact ih _
    · exact ih _
theorem opsT_nil (s : St) : opsS E call [] s = some s := rfl
theorem opsT_cons (d : Option Tmp) (op : Op) (ty : TypeId) (g : Option (Option Tmp × Bool)) (r : List SOp) (t : Tmps) (h : Heap) :
    opsS E call (⟨d, op, ty, g⟩ :: r) (t, h) = ifS (wantS g t) (fun _ => andS (stepV E call (SOp.o ⟨d, op, ty, none⟩) (t, h)) fun x => opsS E call r (putV t d x.1, x.2)) (fun _ => opsS E call r (putV t d undef, h)) := by
  rw [opsS]
  cases wantS g t <;> simp only [ifS, if_true, Bool.false_eq_true, if_false]
  have : SOp.o ⟨d, op, ty, g⟩ = SOp.o ⟨d, op, ty, none⟩ := rfl
  rw [this]
  unfold andS
  cases stepV E call (SOp.o ⟨d, op, ty, none⟩) (t, h) <;> rfl
theorem want_none (t : Tmps) : wantS none t = true := rfl
theorem want_some (d : Tmp) (want : Bool) (t : Tmps) (b : Bool) (h : t.getD d undef = .bool b) : wantS (some (some d, want)) t = (b == want) := by
  unfold wantS
  obtain ⟨d', hd⟩ : ∃ d' : Nat, d' = d := ⟨d, rfl⟩
  subst hd
  rw [List.getD_eq_getElem?_getD] at h
  simp only [Option.bind_some]
  cases hq : t[d']? with
  | none => rw [hq] at h; simp [undef] at h
  | some v => rw [hq] at h; simp at h; subst h; rfl
theorem codeT_list (pl : Nat → Option Plan) (fuel : Nat) (id : Nat) (ops : Array Oper) (s : St) :
    codeV E call pl fuel (.region id ops false) s = andS (opsS E call (ops.toList.map (slim ops)) s) fun s => some (.normal, s) := by
  rw [codeS_list, ops_slim]
end
end Go.Vi
