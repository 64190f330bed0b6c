/- LawV: what the law does, for every name and number: behind the first question both roads by the kernel, but for the text that is put together at the end: by the equations. -/
import Derived.Test.YtccjepnnjidjaaaGreatAlive
import Derived.Test.YtccjepnnjidjaaaGreatVgF
import Derived.Test.YtccjepnnjidjaaaGreatVgD
import Derived.KernelRfl
open Go Go.Vi
namespace Go.Proofs.YtccjepnnjidjaaaGreat.C.L
noncomputable def fnL : Fun := (E3.fn 3).getD ⟨Tryz.f3, .skip, fun _ => none⟩
theorem eL : E3.fn 3 = some fnL := by kernel_rfl
theorem xL : E3.ext 3 = none := by kernel_rfl
noncomputable def pB : Code := sB (sB fnL.body)
noncomputable def pC : Code := sA (sA pB)
noncomputable def pD : Code := sT (sB (sA pB))
noncomputable def cD : Operand := sC (sB (sA pB))
noncomputable def pR : Code := sB pB
noncomputable def q1 : Code := sA pR
noncomputable def q2 : Code := sA (sB pR)
noncomputable def q3 : Code := sA (sB (sB pR))
noncomputable def q4 : Code := sA (sB (sB (sB pR)))
noncomputable def q5 : Code := sA (sB (sB (sB (sB pR))))
theorem body_is : fnL.body = .seq (sA fnL.body) (.seq (sA (sB fnL.body)) (.seq (.seq pC (.cond cD pD .skip)) pR)) := by kernel_rfl
theorem rest_is : pR = .seq q1 (.seq q2 (.seq q3 (.seq q4 (.seq q5 .ret)))) := by kernel_rfl
noncomputable def arg (s : ByteArray) (c : Int) : List Value := [.string s, .int .i64 c]
noncomputable def go (c : Code) (s : St) : Option (Ex × St) := codeV E3 (callV E3 3000) fnL.plan 3000 c s
noncomputable def st0 (s : ByteArray) (c : Int) : St := (arg s c ++ List.replicate (fnL.fn.ntmps - (arg s c).length) undef, h0)
noncomputable def st1 (s : ByteArray) (c : Int) : St := nst (go (sA fnL.body) (st0 s c))
noncomputable def st2 (s : ByteArray) (c : Int) : St := nst (go (sA (sB fnL.body)) (st1 s c))
noncomputable def st3 (s : ByteArray) (c : Int) : St := nst (go pC (st2 s c))
theorem g1 (s : ByteArray) (c : Int) : go (sA fnL.body) (st0 s c) = some (.normal, st1 s c) := by kernel_rfl
theorem g2 (s : ByteArray) (c : Int) : go (sA (sB fnL.body)) (st1 s c) = some (.normal, st2 s c) := by kernel_rfl
theorem g3 (s : ByteArray) (c : Int) : go pC (st2 s c) = some (.normal, st3 s c) := by kernel_rfl
theorem big_is (s : ByteArray) (c : Int) : boolOf (evV (st3 s c).1 cD) = decide ((s.size : Int) > 300) := by kernel_rfl
theorem gc (s : ByteArray) (c : Int) : evV (st3 s c).1 cD = .bool (boolOf (evV (st3 s c).1 cD)) := by kernel_rfl
noncomputable def st4 (s : ByteArray) (c : Int) : St := nst (go pD (st3 s c))
theorem g4 (s : ByteArray) (c : Int) : go pD (st3 s c) = some (.ret, st4 s c) := by kernel_rfl
theorem r4 (s : ByteArray) (c : Int) : resultsV E3 (st4 s c) fnL.fn.results.toList = some [.bool true] := by kernel_rfl
noncomputable def u1 (s : ByteArray) (c : Int) : St := nst (go q1 (st3 s c))
noncomputable def u2 (s : ByteArray) (c : Int) : St := nst (go q2 (u1 s c))
noncomputable def u3 (s : ByteArray) (c : Int) : St := nst (go q3 (u2 s c))
noncomputable def u4 (s : ByteArray) (c : Int) : St := nst (go q4 (u3 s c))
theorem k1 (s : ByteArray) (c : Int) : go q1 (st3 s c) = some (.normal, u1 s c) := by kernel_rfl
theorem k2 (s : ByteArray) (c : Int) : go q2 (u1 s c) = some (.normal, u2 s c) := by kernel_rfl
theorem k3 (s : ByteArray) (c : Int) : go q3 (u2 s c) = some (.normal, u3 s c) := by kernel_rfl
theorem k4 (s : ByteArray) (c : Int) : go q4 (u3 s c) = some (.normal, u4 s c) := by kernel_rfl
/-! ## The last region: operation by operation -/
noncomputable def hp : ByteArray := ⟨⟨[104, 46]⟩⟩
noncomputable def lQ : List SOp := match slimC q5 with | .list l => l | _ => []
theorem q5_is : slimC q5 = .list (lQ.take 5 ++ [⟨some 63, (.call ⟨.value (.func 14), #[(.tmp 62)], #[9]⟩), 9, some (some 61, true)⟩, ⟨some 64, (.move (.tmp 0)), 9, some (some 61, true)⟩,
  ⟨some 65, (.binOp .add 9 (.const (.string hp)) (.tmp 64) 9), 9, some (some 61, true)⟩, ⟨some 66, (.binOp .eql 9 (.tmp 63) (.tmp 65) 9), 4, some (some 61, true)⟩,
  ⟨some 67, (.pick (.tmp 61) (.tmp 66) (.const (.bool false))), 4, none⟩, ⟨some 4, (.assign (.tmp 67)), 4, none⟩]) := by kernel_rfl
noncomputable def nstO (x : Option St) : St := match x with | some p => p | none => ([], h0)
noncomputable def u5 (s : ByteArray) (c : Int) : St := nstO (opsS E3 (callV E3 3000) (lQ.take 5) (u4 s c))
theorem k5 (s : ByteArray) (c : Int) : opsS E3 (callV E3 3000) (lQ.take 5) (u4 s c) = some (u5 s c) := by kernel_rfl
theorem f0 (s : ByteArray) (c : Int) : (u5 s c).1.getD 0 undef = .string s := by kernel_rfl
theorem f61 (s : ByteArray) (c : Int) : (u5 s c).1.getD 61 undef = .bool true := by kernel_rfl
theorem f62 (s : ByteArray) (c : Int) : (u5 s c).1.getD 62 undef = .string s := by kernel_rfl
theorem flen (s : ByteArray) (c : Int) : List.length (u5 s c).1 = 68 := by kernel_rfl
theorem opsS_append {E : Env} {call : CallV} : ∀ (a b : List SOp) (s s' : St), opsS E call a s = some s' → opsS E call (a ++ b) s = opsS E call b s' := by
  intro a
  induction a with
  | nil => intro b s s' h; rw [opsS] at h; cases h; rfl
  | cons x a ih =>
    intro b s s' h
    have e : ∀ r : List SOp, opsS E call (x :: r) s = if wantS x.g s.1 then (match stepV E call x.o s with
      | some (v, h) => opsS E call r (putV s.1 x.d v, h)
      | none => none) else opsS E call r (putV s.1 x.d undef, s.2) := fun r => by rw [opsS]; rfl
    rw [List.cons_append, e]
    rw [e] at h
    split at h
    · rename_i hw
      rw [if_pos hw]
      split at h
      · exact ih _ _ _ h
      · cases h
    · rename_i hw
      rw [if_neg hw]
      exact ih _ _ _ h
/-- a text ahead of another one. -/
theorem add_is {s : ByteArray} (hs : s.size ≤ 300) : strV .add hp s = some (.string (strOf (strL hp ++ strL s))) := by
  have h1 : hp.size = 2 := rfl
  unfold strV
  simp only [h1]
  rw [if_pos (by omega)]
noncomputable def fnN : Fun := (E3.fn 14).getD ⟨Tryz.f14, .skip, fun _ => none⟩
theorem eN : E3.fn 14 = some fnN := by kernel_rfl
theorem xN : E3.ext 14 = none := by kernel_rfl
theorem rN : E3.row 14 = none := by kernel_rfl
theorem nN : fnN.fn.ntmps = 5 := by kernel_rfl
theorem rsN : fnN.fn.results.toList = [.tmp 2] := by kernel_rfl
theorem gN : slimC fnN.body = .seq (.list [⟨some 2, (.assign (.const (.string ⟨⟨[]⟩⟩))), 9, none⟩])
  (.seq (.list [⟨some 3, (.move (.tmp 0)), 9, none⟩, ⟨some 4, (.binOp .add 9 (.const (.string hp)) (.tmp 3) 9), 9, none⟩, ⟨some 2, (.assign (.tmp 4)), 9, none⟩]) (.ret)) := by kernel_rfl
theorem ev_hp (t : Tmps) : evV t (.const (.string hp)) = .string hp := rfl
theorem ev_nil (t : Tmps) : evV t (.const (.string ⟨⟨[]⟩⟩)) = .string ⟨⟨[]⟩⟩ := rfl
theorem bin_str {E : Env} (op : BinOp) (t : TypeId) (c : Bool) (a b : ByteArray) : binV E op t c (.string a) (.string b) = strV op a b := by
  unfold binV
  rfl
theorem name_gen {E : Env} {n : Nat} {fn : Fun} (hx : E.ext 14 = none) (hf : E.fn 14 = some fn) (hg : slimC fn.body = .seq (.list [⟨some 2, (.assign (.const (.string ⟨⟨[]⟩⟩))), 9, none⟩])
  (.seq (.list [⟨some 3, (.move (.tmp 0)), 9, none⟩, ⟨some 4, (.binOp .add 9 (.const (.string hp)) (.tmp 3) 9), 9, none⟩, ⟨some 2, (.assign (.tmp 4)), 9, none⟩]) (.ret))) (hnt : fn.fn.ntmps = 5) (hrs : fn.fn.results.toList = [.tmp 2])
    {s : ByteArray} (hs : s.size ≤ 300) (h : Heap) : callV E (n + 1) 14 [.string s] h = some (.string (strOf (strL hp ++ strL s)), h) := by
  refine call_slim (E := E) (n := n) (f := 14) (fn := fn) [.string s] h hx hf hg (s := ([Value.string s, undef, .string (strOf (strL hp ++ strL s)), .string s, .string (strOf (strL hp ++ strL s))], h)) (x := .ret) (l := [.string (strOf (strL hp ++ strL s))]) ?_ (.inr rfl) ?_
  · rw [hnt]
    simp only [List.length_cons, List.length_nil, List.cons_append, List.nil_append, Nat.reduceAdd, Nat.reduceSub, List.replicate]
    simp only [ck_list, ck_seq, ck_ret, seqK_normal, endK_some, sk_nil, sk_cons', stK_some, sk_move, sk_assign, sk_bin, ev_tmp, ev_hp, ev_nil, bin_str, add_is hs, atH_some, put_some, List.getD_cons_zero, List.getD_cons_succ, List.set_cons_zero, List.set_cons_succ]
  · rw [hrs]; rfl
theorem last_is {E : Env} {call : CallV} (hrow : E.row 14 = none) {s : ByteArray} (hs : s.size ≤ 300) (hN : ∀ h, call.fn 14 [.string s] h = some (.string (strOf (strL hp ++ strL s)), h)) {T : Tmps} {H : Heap} (hl : List.length T = 68) (h0 : T.getD 0 undef = .string s) (h61 : T.getD 61 undef = .bool true) (h62 : T.getD 62 undef = .string s) :
    ∃ T' : Tmps, opsS E call [⟨some 63, (.call ⟨.value (.func 14), #[(.tmp 62)], #[9]⟩), 9, some (some 61, true)⟩, ⟨some 64, (.move (.tmp 0)), 9, some (some 61, true)⟩,
  ⟨some 65, (.binOp .add 9 (.const (.string hp)) (.tmp 64) 9), 9, some (some 61, true)⟩, ⟨some 66, (.binOp .eql 9 (.tmp 63) (.tmp 65) 9), 4, some (some 61, true)⟩,
  ⟨some 67, (.pick (.tmp 61) (.tmp 66) (.const (.bool false))), 4, none⟩, ⟨some 4, (.assign (.tmp 67)), 4, none⟩] (T, H) = some (T', H) ∧ T'.getD 4 undef = .bool true := by
  have gs : ∀ (t : Tmps) (i j : Nat) (v : Value), List.length t = 68 → i < 68 → j < 68 → List.getD (t.set i v) j undef = if i = j then v else List.getD t j undef := fun t i j v h1 h2 h3 => by
    rw [List.getD_eq_getElem?_getD, List.getElem?_set]
    by_cases hij : i = j
    · subst hij; rw [if_pos rfl, if_pos (by omega), if_pos rfl]; rfl
    · rw [if_neg hij, if_neg hij, ← List.getD_eq_getElem?_getD]
  obtain ⟨T1, e1⟩ : ∃ T1 : Tmps, T1 = T.set 63 (.string (strOf (strL hp ++ strL s))) := ⟨_, rfl⟩
  have l1 : List.length T1 = 68 := by rw [e1, List.length_set]; exact hl
  obtain ⟨T2, e2⟩ : ∃ T2 : Tmps, T2 = T1.set 64 (.string s) := ⟨_, rfl⟩
  have l2 : List.length T2 = 68 := by rw [e2, List.length_set]; exact l1
  obtain ⟨T3, e3⟩ : ∃ T3 : Tmps, T3 = T2.set 65 (.string (strOf (strL hp ++ strL s))) := ⟨_, rfl⟩
  have l3 : List.length T3 = 68 := by rw [e3, List.length_set]; exact l2
  obtain ⟨T4, e4⟩ : ∃ T4 : Tmps, T4 = T3.set 66 (.bool true) := ⟨_, rfl⟩
  have l4 : List.length T4 = 68 := by rw [e4, List.length_set]; exact l3
  obtain ⟨T5, e5⟩ : ∃ T5 : Tmps, T5 = T4.set 67 (.bool true) := ⟨_, rfl⟩
  have l5 : List.length T5 = 68 := by rw [e5, List.length_set]; exact l4
  have a61 : T1.getD 61 undef = .bool true := by rw [e1, gs _ _ _ _ hl (by omega) (by omega), if_neg (by omega)]; exact h61
  have a0 : T1.getD 0 undef = .string s := by rw [e1, gs _ _ _ _ hl (by omega) (by omega), if_neg (by omega)]; exact h0
  have a63 : T1.getD 63 undef = .string (strOf (strL hp ++ strL s)) := by rw [e1, gs _ _ _ _ hl (by omega) (by omega), if_pos rfl]
  have b61 : T2.getD 61 undef = .bool true := by rw [e2, gs _ _ _ _ l1 (by omega) (by omega), if_neg (by omega)]; exact a61
  have b64 : T2.getD 64 undef = .string s := by rw [e2, gs _ _ _ _ l1 (by omega) (by omega), if_pos rfl]
  have b63 : T2.getD 63 undef = .string (strOf (strL hp ++ strL s)) := by rw [e2, gs _ _ _ _ l1 (by omega) (by omega), if_neg (by omega)]; exact a63
  have c61 : T3.getD 61 undef = .bool true := by rw [e3, gs _ _ _ _ l2 (by omega) (by omega), if_neg (by omega)]; exact b61
  have c63 : T3.getD 63 undef = .string (strOf (strL hp ++ strL s)) := by rw [e3, gs _ _ _ _ l2 (by omega) (by omega), if_neg (by omega)]; exact b63
  have c65 : T3.getD 65 undef = .string (strOf (strL hp ++ strL s)) := by rw [e3, gs _ _ _ _ l2 (by omega) (by omega), if_pos rfl]
  have d61 : T4.getD 61 undef = .bool true := by rw [e4, gs _ _ _ _ l3 (by omega) (by omega), if_neg (by omega)]; exact c61
  have d66 : T4.getD 66 undef = .bool true := by rw [e4, gs _ _ _ _ l3 (by omega) (by omega), if_pos rfl]
  have f67 : T5.getD 67 undef = .bool true := by rw [e5, gs _ _ _ _ l4 (by omega) (by omega), if_pos rfl]
  refine ⟨T5.set 4 (.bool true), ?_, by rw [gs _ _ _ _ l5 (by omega) (by omega), if_pos rfl]⟩
  have heq : strV .eql (strOf (strL hp ++ strL s)) (strOf (strL hp ++ strL s)) = some (.bool true) := by unfold strV; simp
  rw [sk_cons, wantS_some, h61, show isB (.bool true) true = true from rfl, wantK_true, sk_call]
  have hc : callR E call 14 (#[(Operand.tmp 62)].map (evV T)).toList H = some (.string (strOf (strL hp ++ strL s)), H) := by
    unfold callR
    rw [hrow]
    have ha : (#[(Operand.tmp 62)].map (evV T)).toList = [T.getD 62 undef] := by simp [evV]
    rw [ha, h62]
    exact hN H
  rw [hc, stK_some, put_some, ← e1, sk_cons, wantS_some, a61, show isB (.bool true) true = true from rfl, wantK_true, sk_move, ev_tmp, a0, stK_some, put_some, ← e2,
    sk_cons, wantS_some, b61, show isB (.bool true) true = true from rfl, wantK_true, sk_bin, ev_tmp, ev_hp, b64, bin_str, add_is hs, atH_some, stK_some, put_some, ← e3,
    sk_cons, wantS_some, c61, show isB (.bool true) true = true from rfl, wantK_true, sk_bin, ev_tmp, ev_tmp, c63, c65, bin_str, heq, atH_some, stK_some, put_some, ← e4,
    sk_cons', sk_pick, ev_tmp, ev_tmp, d61, d66, pickK_bool, if_pos rfl, atH_some, stK_some, put_some, ← e5, sk_cons', sk_assign, ev_tmp, f67, stK_some, put_some, sk_nil]
theorem tail_go {E : Env} {call : CallV} {pl : Nat → Option Plan} {fuel : Nat} {q : Code} {a b : List SOp} (hq : slimC q = .list (a ++ b)) {s s' : St} (ha : opsS E call a s = some s') {T' : Tmps} {H : Heap} (hb : opsS E call b (s'.1, s'.2) = some (T', H)) :
    codeV E call pl fuel q s = some (.normal, (T', H)) := by
  rw [code_slim, hq, ck_list, opsS_append _ _ _ _ ha, hb]
  rfl
theorem rest_go {E : Env} {call : CallV} {pl : Nat → Option Plan} {fuel : Nat} {q1 q2 q3 q4 q5 : Code} {a b c d e f : St} (h1 : codeV E call pl fuel q1 a = some (.normal, b)) (h2 : codeV E call pl fuel q2 b = some (.normal, c)) (h3 : codeV E call pl fuel q3 c = some (.normal, d))
    (h4 : codeV E call pl fuel q4 d = some (.normal, e)) (h5 : codeV E call pl fuel q5 e = some (.normal, f)) : codeV E call pl fuel (.seq q1 (.seq q2 (.seq q3 (.seq q4 (.seq q5 .ret))))) a = some (.ret, f) := by
  simp only [codeV, h1, h2, h3, h4, h5]
theorem last_run (s : ByteArray) (c : Int) (hs : s.size ≤ 300) : ∃ s6 : St, go q5 (u4 s c) = some (.normal, s6) ∧ s6.1.getD 4 undef = .bool true := by
  obtain ⟨T', h1, h2⟩ := last_is rN hs (fun h => name_gen (E := E3) (n := 2999) xN eN gN nN rsN hs h) (T := (u5 s c).1) (H := (u5 s c).2) (flen s c) (f0 s c) (f61 s c) (f62 s c)
  exact ⟨(T', (u5 s c).2), tail_go q5_is (k5 s c) h1, h2⟩
theorem rsL : fnL.fn.results.toList = [.tmp 4] := by kernel_rfl
theorem law_runV (s : ByteArray) (c : Int) : ∃ h', callV E3 (3000 + 1) 3 [.string s, .int .i64 c] h0 = some (.bool true, h') := by
  have e0 := g1 s c
  have e00 := g2 s c
  have e000 := g3 s c
  have e1 := k1 s c
  have e2 := k2 s c
  have e3 := k3 s c
  have e4 := k4 s c
  have e5 := g4 s c
  unfold go at e0 e00 e000 e1 e2 e3 e4 e5
  unfold st0 arg at e0
  refine law_split (E := E3) (n := 3000) (fn := fnL) (args := [.string s, .int .i64 c]) xL eL body_is e0 e00 e000 (gc s c) ⟨st4 s c, e5, r4 s c⟩ fun hb => ?_
  have hs : s.size ≤ 300 := by
    rw [big_is] at hb
    have := of_decide_eq_false hb
    omega
  obtain ⟨s6, h6, hr⟩ := last_run s c hs
  unfold go at h6
  have hrest := rest_go e1 e2 e3 e4 h6
  rw [← rest_is] at hrest
  exact ⟨s6, hrest, by rw [rsL]; simp only [resultsV, Option.map_some, hr]⟩
theorem law_calls (a0 : ByteArray) (a1 : Int) (w : World) : Calls Tryz.prog 3 #[.string a0, .int .i64 a1] w fun e w' => e = .returned (.bool true) ∧ ∀ may : MemPlace → Prop, w.keptBut w' may :=
  calls_trueV ok3 (by kernel_rfl) (law_runV a0 a1) w
end Go.Proofs.YtccjepnnjidjaaaGreat.C.L
