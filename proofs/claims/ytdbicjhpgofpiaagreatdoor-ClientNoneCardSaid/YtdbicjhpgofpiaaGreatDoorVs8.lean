/- Vs8: regions whose order is drawn, with slim operations. -/
import Derived.Test.YtdbicjhpgofpiaaGreatDoorVs7
namespace Go.Vi
theorem heavy_slim (ops : Array Oper) (o : Oper) : heavyOp (slim ops o).o = heavyOp o := by
  obtain ⟨dst, op, ty, pos, after, guard⟩ := o
  unfold heavyOp slim SOp.o
  rfl
structure SSeen where
  at_ : Nat
  op : SOp
  t : Tmps
  v : Value
def isRead (E : Env) (x : SOp) (t : Tmps) (h : Heap) : Bool := (pureV E (evV t) x.o).isNone && (readV E (evV t) h x.o).isSome
def drawT (E : Env) (call : CallV) : List SOp → Nat → St → List Heap → List SSeen → Option (St × List Heap × List SSeen)
  | [], _, s, hs, rs => some (s, hs ++ [s.2], rs)
  | x :: r, j, s, hs, rs =>
    let hs := if heavyOp x.o then hs ++ [s.2] else hs
    if wantS x.g s.1 then
      match stepV E call x.o s with
      | some (v, h) => drawT E call r (j + 1) (putV s.1 x.d v, h) hs (if !heavyOp x.o && isRead E x s.1 s.2 then ⟨j, x, s.1, v⟩ :: rs else rs)
      | none => none
    else drawT E call r (j + 1) (putV s.1 x.d undef, s.2) hs rs
def seenT (E : Env) (p : Plan) (hs : List Heap) (x : SSeen) : Bool :=
  let lo := p.lo.getD x.at_ 0
  let hi := p.hi.getD x.at_ 0
  (List.range (hi + 1 - lo)).all fun k => match hs[lo + k]? with
    | some h => match readV E (evV x.t) h x.op.o with
      | some v => veq 100000 v x.v
      | none => false
    | none => false
def thin (ops : Array Oper) (x : Seen) : SSeen := ⟨x.at_, slim ops x.op, x.t, x.v⟩
section
variable (E : Env) (call : CallV)
theorem pure_slim (ops : Array Oper) (o : Oper) (ev : Operand → Value) : pureV E ev (slim ops o).o = pureV E ev o := by
  obtain ⟨dst, op, ty, pos, after, guard⟩ := o
  unfold pureV slim SOp.o; cases op <;> rfl
theorem read_slim (ops : Array Oper) (o : Oper) (ev : Operand → Value) (h : Heap) : readV E ev h (slim ops o).o = readV E ev h o := by
  obtain ⟨dst, op, ty, pos, after, guard⟩ := o
  unfold readV slim SOp.o; cases op <;> rfl
theorem seen_slim (ops : Array Oper) (p : Plan) (hs : List Heap) (x : Seen) : seenT E p hs (thin ops x) = seenOk E p hs x := by
  unfold seenT seenOk thin
  simp only [read_slim]
  rfl
theorem draw_slim (ops : Array Oper) : ∀ (l : List Oper) (j : Nat) (s : St) (hs : List Heap) (rs : List Seen),
    (drawV E call ops l j s hs rs).map (fun x => (x.1, x.2.1, x.2.2.map (thin ops))) = drawT E call (l.map (slim ops)) j s hs (rs.map (thin ops)) := by
  intro l
  induction l with
  | nil => intro j s hs rs; rfl
  | cons o l ih =>
    intro j s hs rs
    simp only [List.map_cons, drawV, drawT, heavy_slim, want_slim, step_slim]
    cases wantedV ops o s.1 with
    | false => simp only [Bool.false_eq_true, if_false]; exact ih _ _ _ _
    | true =>
      simp only [if_true]
      cases stepV E call o s with
      | none => rfl
      | some x =>
        obtain ⟨v, h⟩ := x
        simp only
        rw [ih]
        have e : isRead E (slim ops o) s.1 s.2 = ((pureV E (evV s.1) o).isNone && (readV E (evV s.1) s.2 o).isSome) := by
          unfold isRead; rw [pure_slim, read_slim]
        have d : (slim ops o).d = o.dst := rfl
        rw [e, d, ← Bool.and_assoc]
        congr 1
        split <;> rfl
/-- a region whose order is drawn: its run in the order of the text, and what was read is the same at all places where it may be read. -/
theorem region_slim {ops : Array Oper} {p : Plan} {s s' : St} {hs : List Heap} {rs : List SSeen} (h : drawT E call (ops.toList.map (slim ops)) 0 s [] [] = some (s', hs, rs)) (hr : rs.all (seenT E p hs) = true) :
    regionV E call (some p) ops true s = some s' := by
  have h1 := draw_slim E call ops ops.toList 0 s [] []
  rw [List.map_nil, h] at h1
  obtain ⟨x, hx, he⟩ := Option.map_eq_some_iff.1 h1
  obtain ⟨a, b, c⟩ := x
  simp only [Prod.mk.injEq] at he
  obtain ⟨rfl, rfl, rfl⟩ := he
  unfold regionV
  simp only [if_true, hx]
  rw [List.all_map] at hr
  have : c.all (seenOk E p b) = true := by
    rw [← hr]
    have e : (seenT E p b ∘ thin ops) = seenOk E p b := by funext x; exact seen_slim E ops p b x
    rw [e]
  rw [if_pos this]
end
end Go.Vi
