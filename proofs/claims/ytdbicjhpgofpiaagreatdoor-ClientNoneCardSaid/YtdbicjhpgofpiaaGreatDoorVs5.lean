/- Vs5: code with slim regions, and its equations. -/
import Derived.Test.YtdbicjhpgofpiaaGreatDoorVs4
namespace Go.Vi
inductive SCode where
  | skip
  | list (l : List SOp)
  | drawn (id : Nat) (ops : Array Oper)
  | seq (a b : SCode)
  | cond (c : Operand) (a b : SCode)
  | block (id : Nat) (b : SCode)
  | loop (b : SCode)
  | exit (id : Nat)
  | ret
  | raw (c : Code)
def slimC : Code → SCode
  | .skip => .skip
  | .region id ops draw => if draw then .drawn id ops else .list (ops.toList.map (slim ops))
  | .seq a b => .seq (slimC a) (slimC b)
  | .cond c a b => .cond c (slimC a) (slimC b)
  | .block id b => .block id (slimC b)
  | .loop b => .loop (slimC b)
  | .exit id => .exit id
  | .ret => .ret
  | c => .raw c
section
variable (E : Env) (call : CallV) (pl : Nat → Option Plan) (fuel : Nat)
def endK (x : Option St) : Option (Ex × St) := match x with
  | some s => some (.normal, s)
  | none => none
def codeT : SCode → St → Option (Ex × St)
  | .skip, s => some (.normal, s)
  | .list l, s => endK (opsS E call l s)
  | .drawn id ops, s => endK (regionV E call (pl id) ops true s)
  | .seq a b, s => match codeT a s with
    | some (.normal, s') => codeT b s'
    | r => r
  | .cond c a b, s => match evV s.1 c with
    | .bool true => codeT a s
    | .bool false => codeT b s
    | _ => none
  | .block id b, s => match codeT b s with
    | some (.exit i, s') => if i = id then some (.normal, s') else some (.exit i, s')
    | r => r
  | .loop b, s => iterV (codeT b) fuel s
  | .exit id, s => some (.exit id, s)
  | .ret, s => some (.ret, s)
  | .raw c, s => codeV E call pl fuel c s
theorem iter_congr {f g : St → Option (Ex × St)} (h : ∀ s, f s = g s) : ∀ n s, iterV f n s = iterV g n s := by
  have : f = g := funext h
  subst this; intros; rfl
theorem code_slim : ∀ (c : Code) (s : St), codeV E call pl fuel c s = codeT E call pl fuel (slimC c) s := by
  intro c
  induction c with
  | skip => intro s; simp [codeV, slimC, codeT]
  | region id ops draw =>
    intro s
    rw [codeV, slimC]
    cases draw with
    | true => simp only [if_true, codeT, endK]; cases regionV E call (pl id) ops true s <;> rfl
    | false =>
      simp only [Bool.false_eq_true, if_false, codeT, endK]
      unfold regionV
      simp only [Bool.false_eq_true, if_false]
      rw [ops_slim]
      cases opsS E call (ops.toList.map (slim ops)) s <;> rfl
  | seq a b iha ihb =>
    intro s
    rw [codeV, slimC, codeT, iha]
    cases codeT E call pl fuel (slimC a) s with
    | none => rfl
    | some x => obtain ⟨e, s'⟩ := x; cases e <;> first | exact ihb _ | rfl
  | cond c a b iha ihb =>
    intro s
    rw [codeV, slimC, codeT, iha, ihb]
    cases evV s.1 c <;> rfl
  | block id b ih =>
    intro s
    rw [codeV, slimC, codeT, ih]
    cases codeT E call pl fuel (slimC b) s with
    | none => rfl
    | some x => obtain ⟨e, s'⟩ := x; cases e <;> rfl
  | loop b ih =>
    intro s
    rw [codeV, slimC, codeT]
    exact iter_congr ih _ _
  | exit id => intro s; simp [codeV, slimC, codeT]
  | ret => intro s; simp [codeV, slimC, codeT]
  | _ => intro s; rfl
def seqK (b : SCode) (x : Option (Ex × St)) : Option (Ex × St) := match x with
  | some (.normal, s') => codeT E call pl fuel b s'
  | r => r
def condK (a b : SCode) (s : St) (v : Value) : Option (Ex × St) := match v with
  | .bool true => codeT E call pl fuel a s
  | .bool false => codeT E call pl fuel b s
  | _ => none
def blockK (id : Nat) (x : Option (Ex × St)) : Option (Ex × St) := match x with
  | some (.exit i, s') => if i = id then some (.normal, s') else some (.exit i, s')
  | r => r
theorem ck_skip (s : St) : codeT E call pl fuel .skip s = some (.normal, s) := rfl
theorem ck_list (l : List SOp) (s : St) : codeT E call pl fuel (.list l) s = endK (opsS E call l s) := rfl
theorem ck_drawn (id : Nat) (ops : Array Oper) (s : St) : codeT E call pl fuel (.drawn id ops) s = endK (regionV E call (pl id) ops true s) := rfl
theorem ck_seq (a b : SCode) (s : St) : codeT E call pl fuel (.seq a b) s = seqK E call pl fuel b (codeT E call pl fuel a s) := by
  rw [codeT]; unfold seqK; rfl
theorem ck_cond (c : Operand) (a b : SCode) (s : St) : codeT E call pl fuel (.cond c a b) s = condK E call pl fuel a b s (evV s.1 c) := by
  rw [codeT]; unfold condK; rfl
theorem ck_block (id : Nat) (b : SCode) (s : St) : codeT E call pl fuel (.block id b) s = blockK id (codeT E call pl fuel b s) := by
  rw [codeT]; unfold blockK; rfl
theorem ck_loop (b : SCode) (s : St) : codeT E call pl fuel (.loop b) s = iterV (codeT E call pl fuel b) fuel s := rfl
theorem ck_exit (id : Nat) (s : St) : codeT E call pl fuel (.exit id) s = some (.exit id, s) := rfl
theorem ck_ret (s : St) : codeT E call pl fuel .ret s = some (.ret, s) := rfl
theorem seqK_normal (b : SCode) (s : St) : seqK E call pl fuel b (some (.normal, s)) = codeT E call pl fuel b s := rfl
theorem seqK_exit (b : SCode) (i : Nat) (s : St) : seqK E call pl fuel b (some (.exit i, s)) = some (.exit i, s) := rfl
theorem seqK_ret (b : SCode) (s : St) : seqK E call pl fuel b (some (.ret, s)) = some (.ret, s) := rfl
theorem condK_true (a b : SCode) (s : St) : condK E call pl fuel a b s (.bool true) = codeT E call pl fuel a s := rfl
theorem condK_false (a b : SCode) (s : St) : condK E call pl fuel a b s (.bool false) = codeT E call pl fuel b s := rfl
theorem endK_some (s : St) : endK (some s) = some (.normal, s) := rfl
end
theorem blockK_normal (id : Nat) (s : St) : blockK id (some (.normal, s)) = some (.normal, s) := rfl
theorem blockK_ret (id : Nat) (s : St) : blockK id (some (.ret, s)) = some (.ret, s) := rfl
theorem blockK_exit (id i : Nat) (s : St) : blockK id (some (.exit i, s)) = if i = id then some (.normal, s) else some (.exit i, s) := rfl
/-- a call, by slim code. -/
theorem call_slim {E : Env} {n : Nat} {f : FuncId} {fn : Fun} {g : SCode} (args : List Value) (h : Heap) (he : E.ext f = none) (hf : E.fn f = some fn) (hg : slimC fn.body = g) {s : St} {x : Ex} {l : List Value}
    (hc : codeT E (callV E n) fn.plan n g (args ++ List.replicate (fn.fn.ntmps - args.length) undef, h) = some (x, s)) (hx : x = .normal ∨ x = .ret) (hr : resultsV E s fn.fn.results.toList = some l) :
    callV E (n + 1) f args h = some (oneOrTuple l, s.2) := by
  rw [callV]
  simp only [he, hf]
  rw [code_slim, hg, hc]
  rcases hx with rfl | rfl <;> simp only [hr] <;> rfl
end Go.Vi
