/- N1: what lines are answered without a hall. -/
import Derived.Test.YtijnnpbfgmmngaaGreatDoorU13
open Go Go.Vi Go.Tk
namespace Go.Proofs.YtijnnpbfgmmngaaGreatDoor.C
set_option linter.unusedSimpArgs false
set_option maxRecDepth 100000
set_option maxHeartbeats 40000000
def formL : List UInt8 := [101, 114, 114, 111, 114, 32, 102, 111, 114, 109]
def stateL : List UInt8 := [101, 114, 114, 111, 114, 32, 115, 116, 97, 116, 101]
def ansC (n : Int) : List Value := [.slice none 0 0, .int .i64 0, .iface t_api_Errno (.int .i64 n)]
theorem error2_ret (h : Heap) (Q : Value → Heap → Prop) : Ret E f_api_Errno_Error [.int .i64 2] h Q = Q (.string (strOf [102, 111, 114, 109])) h := by
  refine Ret.eq ?_ Q
  refine ret_fun is_api_Errno_Error (by simp) ?_
  unfold g_api_Errno_Error
  simp (maxSteps := 10000000) (disch := omega) only [vq0, vq1, vq2, vq3, vq4, vq5, tagOf, reduceIte, reduceCtorEq, Nat.reduceEqDiff, Nat.reduceAdd, Nat.reduceSub, Nat.reduceMul, Nat.reduceLT, Nat.reduceLeDiff, Int.reduceToNat, Nat.reduceBEq, tq1, tq2, tq3]
theorem error13_ret (h : Heap) (Q : Value → Heap → Prop) : Ret E f_api_Errno_Error [.int .i64 13] h Q = Q (.string (strOf [115, 116, 97, 116, 101])) h := by
  refine Ret.eq ?_ Q
  refine ret_fun is_api_Errno_Error (by simp) ?_
  unfold g_api_Errno_Error
  simp (maxSteps := 10000000) (disch := omega) only [vq0, vq1, vq2, vq3, vq4, vq5, tagOf, reduceIte, reduceCtorEq, Nat.reduceEqDiff, Nat.reduceAdd, Nat.reduceSub, Nat.reduceMul, Nat.reduceLT, Nat.reduceLeDiff, Int.reduceToNat, Nat.reduceBEq, tq1, tq2, tq3]
theorem named2_ret (h : Heap) (Q : Value → Heap → Prop) : Ret E f_talk_named [.iface t_api_Errno (.int .i64 2)] h Q = Q (.string (strOf [102, 111, 114, 109])) h := by
  refine Ret.eq ?_ Q
  refine ret_fun is_talk_named (by simp) ?_
  unfold g_talk_named
  simp (maxSteps := 10000000) (disch := omega) only [vq0, vq1, vq2, vq3, vq4, vq5, tagOf, reduceIte, reduceCtorEq, Nat.reduceEqDiff, Nat.reduceAdd, Nat.reduceSub, Nat.reduceMul, Nat.reduceLT, Nat.reduceLeDiff, Int.reduceToNat, Nat.reduceBEq, tq1, tq2, tq3, error2_ret]
theorem named13_ret (h : Heap) (Q : Value → Heap → Prop) : Ret E f_talk_named [.iface t_api_Errno (.int .i64 13)] h Q = Q (.string (strOf [115, 116, 97, 116, 101])) h := by
  refine Ret.eq ?_ Q
  refine ret_fun is_talk_named (by simp) ?_
  unfold g_talk_named
  simp (maxSteps := 10000000) (disch := omega) only [vq0, vq1, vq2, vq3, vq4, vq5, tagOf, reduceIte, reduceCtorEq, Nat.reduceEqDiff, Nat.reduceAdd, Nat.reduceSub, Nat.reduceMul, Nat.reduceLT, Nat.reduceLeDiff, Int.reduceToNat, Nat.reduceBEq, tq1, tq2, tq3, error13_ret]
theorem answer2_ok (h : Heap) : Ret E f_talk_Answer [.agg ⟨ansC 2⟩] h (fun v h' => Grow h h' ∧ v = .string (strOf formL)) := by
  refine ret_fun is_talk_Answer (by simp) ?_
  unfold g_talk_Answer ansC
  have ha : strV .add (strOf [101, 114, 114, 111, 114, 32]) (strOf [102, 111, 114, 109]) = some (.string (strOf formL)) := str_add (by simp)
  simp (maxSteps := 10000000) (disch := omega) only [vq0, vq1, vq2, vq3, vq4, vq5, tagOf, reduceIte, reduceCtorEq, Nat.reduceEqDiff, Nat.reduceAdd, Nat.reduceSub, Nat.reduceMul, Nat.reduceLT, Nat.reduceLeDiff, Int.reduceToNat, Nat.reduceBEq, tq1, tq2, tq3, named2_ret, ha]
  exact Grow.new h _
theorem answer13_ok (h : Heap) : Ret E f_talk_Answer [.agg ⟨ansC 13⟩] h (fun v h' => Grow h h' ∧ v = .string (strOf stateL)) := by
  refine ret_fun is_talk_Answer (by simp) ?_
  unfold g_talk_Answer ansC
  have ha : strV .add (strOf [101, 114, 114, 111, 114, 32]) (strOf [115, 116, 97, 116, 101]) = some (.string (strOf stateL)) := str_add (by simp)
  simp (maxSteps := 10000000) (disch := omega) only [vq0, vq1, vq2, vq3, vq4, vq5, tagOf, reduceIte, reduceCtorEq, Nat.reduceEqDiff, Nat.reduceAdd, Nat.reduceSub, Nat.reduceMul, Nat.reduceLT, Nat.reduceLeDiff, Int.reduceToNat, Nat.reduceBEq, tq1, tq2, tq3, named13_ret, ha]
  exact Grow.new h _
theorem ready_ret (c : Int) (h : Heap) (Q : Value → Heap → Prop) : Ret E f_p_hall_Hall_ready [.pointer none, .int .i64 c] h Q = Q (.iface t_api_Errno (.int .i64 13)) h := by
  refine Ret.eq ?_ Q
  refine ret_fun is_p_hall_Hall_ready (by simp) ?_
  unfold g_p_hall_Hall_ready
  simp (maxSteps := 10000000) (disch := omega) only [vq0, vq1, vq2, vq3, vq4, vq5, tagOf, reduceIte, reduceCtorEq, Nat.reduceEqDiff, Nat.reduceAdd, Nat.reduceSub, Nat.reduceMul, Nat.reduceLT, Nat.reduceLeDiff, Int.reduceToNat, Nat.reduceBEq, tq1, tq2, tq3]
theorem start_ok (c : Int) (o : TOp) (d : Value) (h : Heap) : Ret E f_p_hall_Hall_Start [.pointer none, .int .i64 c, .agg ⟨opC o d⟩] h (fun v h' => Grow h h' ∧ v = .iface t_api_Errno (.int .i64 13)) := by
  refine ret_fun is_p_hall_Hall_Start (by simp) ?_
  unfold g_p_hall_Hall_Start opC
  simp (maxSteps := 10000000) (disch := omega) only [vq0, vq1, vq2, vq3, vq4, vq5, tagOf, reduceIte, reduceCtorEq, Nat.reduceEqDiff, Nat.reduceAdd, Nat.reduceSub, Nat.reduceMul, Nat.reduceLT, Nat.reduceLeDiff, Int.reduceToNat, Nat.reduceBEq, tq1, tq2, tq3, ready_ret]
  exact Grow.new h _
theorem run_ok (c : Int) (o : TOp) (d : Value) (h : Heap) : Ret E f_p_hall_Hall_Run [.pointer none, .int .i64 c, .agg ⟨opC o d⟩] h (fun v h' => Grow h h' ∧ v = .agg ⟨ansC 13⟩) := by
  refine ret_fun is_p_hall_Hall_Run (by simp) ?_
  have ho : opC o d = [.int .i64 o.kind, .string (strOf o.image), .string (strOf o.snap), .string (strOf o.snap2), .string (strOf o.parent), .int .i64 o.at_, .int .i64 o.len, .int .i64 o.size, .int .i64 o.object, d, .bool o.on] := rfl
  unfold g_p_hall_Hall_Run
  rw [ho]
  simp (maxSteps := 10000000) (disch := omega) only [vq0, vq1, vq2, vq3, vq4, vq5, tagOf, reduceIte, reduceCtorEq, Nat.reduceEqDiff, Nat.reduceAdd, Nat.reduceSub, Nat.reduceMul, Nat.reduceLT, Nat.reduceLeDiff, Int.reduceToNat, Nat.reduceBEq, tq1, tq2, tq3]
  rw [← ho]
  refine (start_ok c o d _).mono ?_
  rintro v h1 ⟨g1, rfl⟩
  have gn : Grow h ((h.new (.cells (opC o d) true none)).new (.cells [.slice none 0 0, .int .i64 0, .nilIface] true none)) := (Grow.new h _).more _
  have hn : h.next + 1 + 1 ≤ h1.next := g1.next
  have p1 : h1.get (h.next + 1) = some (.cells [.slice none 0 0, .int .i64 0, .nilIface] true none) := (g1.get (h.next + 1) (Nat.lt_succ_self _)).trans (get_new_same (h.new (.cells (opC o d) true none)) _)
  simp (maxSteps := 10000000) (disch := omega) only [vq0, vq1, vq2, vq3, vq4, vq5, tagOf, reduceIte, reduceCtorEq, Nat.reduceEqDiff, Nat.reduceAdd, Nat.reduceSub, Nat.reduceMul, Nat.reduceLT, Nat.reduceLeDiff, Int.reduceToNat, Nat.reduceBEq, tq1, tq2, tq3, p1]
  exact ⟨(gn.trans g1).set (by omega) _, rfl⟩
theorem okSrc_str : okSrc E (some t_s_string) = some true := by kernel_rfl
def ansL (l : List UInt8) : List UInt8 := match parseT l with
  | some _ => stateL
  | none => formL
theorem textsV_append (l m : List (List UInt8)) : textsV (l ++ m) = textsV l ++ textsV m := by unfold textsV; simp
theorem texts_elem {h : Heap} {v : Value} {l : List (List UInt8)} (hv : RowV h 1 v (textsV l)) {i : Nat} {x : List UInt8} (hx : l[i]? = some x) : ∃ b o c, v = .slice (some ⟨b, o, none⟩) l.length c ∧ b < h.next ∧ cellAt (h.get b) (o + i) = some (.string (strOf x)) := by
  have hi := (List.getElem?_eq_some_iff.1 hx).1
  obtain ⟨b, o, n, c, hd, hb, hn, hin, hc⟩ := hv.elem (i := i) (by omega) (by rw [textsV_len]; omega)
  rw [textsV_len, Nat.mul_one] at hn
  subst hn
  refine ⟨b, o, c, hd, hb, ?_⟩
  have he : ((textsV l).drop (i * 1)).take 1 = [.string (strOf x)] := by
    rw [Nat.mul_one, List.drop_eq_getElem_cons (by rw [textsV_len]; exact hi)]
    have hg : (textsV l)[i]? = some (.string (strOf x)) := texts_at hx
    rw [List.getElem?_eq_getElem (by rw [textsV_len]; exact hi)] at hg
    rw [List.take_succ_cons, List.take_zero, Option.some.inj hg]
  rw [he, Nat.mul_one] at hc
  exact cells_one1 hc
theorem texts_is {h : Heap} {v : Value} {l : List (List UInt8)} (hv : RowV h 1 v (textsV l)) : ∃ a c, v = .slice a l.length c := by
  obtain ⟨a, n, c, hd, hn, _⟩ := hv.is
  rw [textsV_len, Nat.mul_one] at hn
  exact ⟨a, c, by rw [hd, hn]⟩
theorem sameT_ok (v w : Value) (l : List (List UInt8)) (h : Heap) (hv : RowV h 1 v (textsV l)) (hw : RowV h 1 w (textsV l)) (hl : l.length ≤ 1000000) : Ret E f_laminanum_Texts [v, w] h (fun u _ => u = .bool true) := by
  refine ret_fun is_laminanum_Texts (by simp) ?_
  unfold g_laminanum_Texts
  obtain ⟨a1, c1, hv1⟩ := texts_is hv
  obtain ⟨a2, c2, hw1⟩ := texts_is hw
  rw [hv1, hw1]
  simp (maxSteps := 10000000) (disch := omega) only [vq0, vq1, vq2, vq3, vq4, vq5, tagOf, reduceIte, reduceCtorEq, Nat.reduceEqDiff, Nat.reduceAdd, Nat.reduceSub, Nat.reduceMul, Nat.reduceLT, Nat.reduceLeDiff, Int.reduceToNat, Nat.reduceBEq, tq1, tq2, tq3]
  refine r_loop (k := l.length) (fun k ρ h' => h' = h ∧ ∃ (i : Nat), i + k = l.length ∧ ρ 0 = v ∧ ρ 1 = w ∧ ρ 12 = .int .i64 l.length ∧ ρ 13 = .int .i64 (i : Int)) ?_ ?_
  · rintro k ρ h' ⟨rfl, i, hk, r0, r1, r12, r13⟩
    unfold g_laminanum_Texts_L0
    rcases Nat.lt_or_ge i l.length with hi | hi
    · have hx := List.getElem?_eq_getElem hi
      obtain ⟨b1, o1, d1, e1, hb1, q1⟩ := texts_elem hv hx
      obtain ⟨b2, o2, d2, e2, hb2, q2⟩ := texts_elem hw hx
      have hq : strV .neq (strOf l[i]) (strOf l[i]) = some (.bool false) := by rw [str_neq]; simp
      rw [e1] at r0
      rw [e2] at r1
      simp (maxSteps := 10000000) (disch := omega) only [vq0, vq1, vq2, vq3, vq4, vq5, tagOf, reduceIte, reduceCtorEq, Nat.reduceEqDiff, Nat.reduceAdd, Nat.reduceSub, Nat.reduceMul, Nat.reduceLT, Nat.reduceLeDiff, Int.reduceToNat, Nat.reduceBEq, tq1, tq2, tq3, r0, r1, r12, r13, q1, q2, hq]
      exact ⟨k - 1, by omega, i + 1, by omega, by rw [e1], by rw [e2], rfl⟩
    · simp (maxSteps := 10000000) (disch := omega) only [vq0, vq1, vq2, vq3, vq4, vq5, tagOf, reduceIte, reduceCtorEq, Nat.reduceEqDiff, Nat.reduceAdd, Nat.reduceSub, Nat.reduceMul, Nat.reduceLT, Nat.reduceLeDiff, Int.reduceToNat, Nat.reduceBEq, tq1, tq2, tq3, r0, r1, r12, r13]
  · exact ⟨rfl, 0, by omega, by simp (maxSteps := 10000000) (disch := omega) only [vq0, vq1, vq2, vq3, vq4, vq5, tagOf, reduceIte, reduceCtorEq, Nat.reduceEqDiff, Nat.reduceAdd, Nat.reduceSub, Nat.reduceMul, Nat.reduceLT, Nat.reduceLeDiff, Int.reduceToNat, Nat.reduceBEq, tq1, tq2, tq3, hv1], by simp (maxSteps := 10000000) (disch := omega) only [vq0, vq1, vq2, vq3, vq4, vq5, tagOf, reduceIte, reduceCtorEq, Nat.reduceEqDiff, Nat.reduceAdd, Nat.reduceSub, Nat.reduceMul, Nat.reduceLT, Nat.reduceLeDiff, Int.reduceToNat, Nat.reduceBEq, tq1, tq2, tq3, hw1], by simp (maxSteps := 10000000) (disch := omega) only [vq0, vq1, vq2, vq3, vq4, vq5, tagOf, reduceIte, reduceCtorEq, Nat.reduceEqDiff, Nat.reduceAdd, Nat.reduceSub, Nat.reduceMul, Nat.reduceLT, Nat.reduceLeDiff, Int.reduceToNat, Nat.reduceBEq, tq1, tq2, tq3], by simp (maxSteps := 10000000) (disch := omega) only [vq0, vq1, vq2, vq3, vq4, vq5, tagOf, reduceIte, reduceCtorEq, Nat.reduceEqDiff, Nat.reduceAdd, Nat.reduceSub, Nat.reduceMul, Nat.reduceLT, Nat.reduceLeDiff, Int.reduceToNat, Nat.reduceBEq, tq1, tq2, tq3]; rfl⟩
theorem talk_ok (v : Value) (l : List (List UInt8)) (h : Heap) (hv : RowV h 1 v (textsV l)) (hn : l.length ≤ 21) (hl : ∀ s ∈ l, s.length ≤ 900) : Ret E f_talk_Talk [.pointer none, v] h (fun u h' => Grow h h' ∧ RowV h' 1 u (textsV (l.map ansL))) := by
  refine ret_fun is_talk_Talk (by simp) ?_
  unfold g_talk_Talk
  obtain ⟨a1, c1, hv1⟩ := texts_is hv
  rw [hv1]
  simp (maxSteps := 10000000) (disch := omega) only [vq0, vq1, vq2, vq3, vq4, vq5, tagOf, reduceIte, reduceCtorEq, Nat.reduceEqDiff, Nat.reduceAdd, Nat.reduceSub, Nat.reduceMul, Nat.reduceLT, Nat.reduceLeDiff, Int.reduceToNat, Nat.reduceBEq, tq1, tq2, tq3]
  refine r_loop (k := l.length) (fun k ρ h' => ∃ (i : Nat) (w : Value), i + k = l.length ∧ ρ 0 = .pointer none ∧ ρ 5 = w ∧ ρ 12 = v ∧ ρ 13 = .int .i64 l.length ∧ ρ 14 = .int .i64 (i : Int) ∧ Own h h' 1 t_string w (textsV ((l.take i).map ansL)) ∧ Grow h h') ?_ ?_
  · rintro k ρ h' ⟨i, w, hk, r0, r5, r12, r13, r14, ow, g⟩
    unfold g_talk_Talk_L0
    rcases Nat.lt_or_ge i l.length with hi | hi
    · have hx := List.getElem?_eq_getElem hi
      have hlx := hl _ (List.getElem_mem hi)
      obtain ⟨b1, o1, d1, e1, hb1, q1⟩ := texts_elem (hv.grow g) hx
      have htk : textsV ((l.take (i + 1)).map ansL) = textsV ((l.take i).map ansL) ++ [.string (strOf (ansL l[i]))] := by
        rw [List.take_add_one, hx, List.map_append, textsV_append]
        rfl
      generalize l[i] = x at hx hlx q1 htk
      rw [e1] at r12
      have fin : ∀ (hX : Heap) (s : List UInt8), Grow h' hX → ∃ w' hY, appendV E t_s_string (some t_s_string) w (.slice (some ⟨hX.next, 0, none⟩) 1 1) (hX.new (.cells [.string (strOf s)] true none)) = some (w', hY) ∧
          Own h hY 1 t_string w' (textsV ((l.take i).map ansL) ++ [.string (strOf s)]) ∧ Grow h hY := fun hX s gX => by
        obtain ⟨w', hY, q1, q2, q3, _⟩ := own_app sl_s_string okSrc_str (h := hX.new (.cells [.string (strOf s)] true none)) (ow.grow (gX.trans (.new hX _))) ((g.trans gX).more _) (b2 := hX.next) (o2 := 0) (n := 1) (c2 := 1) (new := [.string (strOf s)]) (by simp (maxSteps := 10000000) (disch := omega) only [vq0, vq1, vq2, vq3, vq4, vq5, tagOf, reduceIte, reduceCtorEq, Nat.reduceEqDiff, Nat.reduceAdd, Nat.reduceSub, Nat.reduceMul, Nat.reduceLT, Nat.reduceLeDiff, Int.reduceToNat, Nat.reduceBEq, tq1, tq2, tq3]) (by omega) rfl (by rw [textsV_len, List.length_map, List.length_take]; simp; omega) (by decide)
        exact ⟨w', hY, q1, q2, q3⟩
      simp (maxSteps := 10000000) (disch := omega) only [vq0, vq1, vq2, vq3, vq4, vq5, tagOf, reduceIte, reduceCtorEq, Nat.reduceEqDiff, Nat.reduceAdd, Nat.reduceSub, Nat.reduceMul, Nat.reduceLT, Nat.reduceLeDiff, Int.reduceToNat, Nat.reduceBEq, tq1, tq2, tq3, r0, r5, r12, r13, r14, q1]
      obtain ⟨hC, eC⟩ : ∃ x, x = (h'.new (.cells [.slice none 0 0, .int .i64 0, .nilIface] true none)).set h'.next (.cells [.slice none 0 0, .int .i64 0, .iface t_api_Errno (.int .i64 2)] true none) := ⟨_, rfl⟩
      have gC : Grow h' hC := by rw [eC]; exact (Grow.new h' _).set (Nat.le_refl _) _
      have nC : hC.next = h'.next + 1 := by rw [eC]; rfl
      have pC : hC.get h'.next = some (.cells [.slice none 0 0, .int .i64 0, .iface t_api_Errno (.int .i64 2)] true none) := by rw [eC, get_set_same]
      rw [← eC]
      refine (parse_ok x (by omega) hC).mono ?_
      rintro v1 h1 ⟨g1, q⟩
      have p1 : h1.get h'.next = _ := (g1.get _ (by omega)).trans pC
      have n1 := g1.next
      have G1 := gC.trans g1
      unfold ParseQ at q
      have hA : ansL x = match parseT x with
        | some _ => stateL
        | none => formL := rfl
      cases hp : parseT x with
      | none =>
        rw [hp] at q hA
        subst q
        rw [hA] at htk
        rw [zC_eq]
        unfold zC
        simp (maxSteps := 10000000) (disch := omega) only [vq0, vq1, vq2, vq3, vq4, vq5, tagOf, reduceIte, reduceCtorEq, Nat.reduceEqDiff, Nat.reduceAdd, Nat.reduceSub, Nat.reduceMul, Nat.reduceLT, Nat.reduceLeDiff, Int.reduceToNat, Nat.reduceBEq, tq1, tq2, tq3, r0, r5, r12, r13, r14, p1]
        obtain ⟨h2, e2⟩ : ∃ y, y = (h1.new (.cells [.int .i64 0, .string (strOf []), .string (strOf []), .string (strOf []), .string (strOf []), .int .i64 0, .int .i64 0, .int .i64 0, .int .i64 0, .slice none 0 0, .bool false] true none)).set h1.next (.cells [.int .i64 0, .string (strOf []), .string (strOf []), .string (strOf []), .string (strOf []), .int .i64 0, .int .i64 0, .int .i64 0, .int .i64 0, .slice none 0 0, .bool false] true none) := ⟨_, rfl⟩
        have g2 : Grow h1 h2 := by rw [e2]; exact (Grow.new h1 _).set (Nat.le_refl _) _
        have G2 := G1.trans g2
        rw [← e2]
        refine (answer2_ok h2).mono ?_
        rintro v3 h3 ⟨g3, rfl⟩
        have G3 := G2.trans g3
        obtain ⟨w', hY, happ, oY, gY⟩ := fin h3 formL G3
        simp (maxSteps := 10000000) (disch := omega) only [vq0, vq1, vq2, vq3, vq4, vq5, tagOf, reduceIte, reduceCtorEq, Nat.reduceEqDiff, Nat.reduceAdd, Nat.reduceSub, Nat.reduceMul, Nat.reduceLT, Nat.reduceLeDiff, Int.reduceToNat, Nat.reduceBEq, tq1, tq2, tq3, r0, r5, r12, r13, r14]
        rw [happ]
        simp (maxSteps := 10000000) (disch := omega) only [vq0, vq1, vq2, vq3, vq4, vq5, tagOf, reduceIte, reduceCtorEq, Nat.reduceEqDiff, Nat.reduceAdd, Nat.reduceSub, Nat.reduceMul, Nat.reduceLT, Nat.reduceLeDiff, Int.reduceToNat, Nat.reduceBEq, tq1, tq2, tq3, r0, r5, r12, r13, r14]
        exact ⟨k - 1, by omega, i + 1, w', by omega, rfl, e1.symm, rfl, by rw [htk]; exact oY, gY⟩
      | some co =>
        obtain ⟨c, o⟩ := co
        rw [hp] at q hA
        simp only at q
        rw [hA] at htk
        obtain ⟨d, rfl, hd⟩ := q
        have hone : oneCell d = true := by rcases hd with ⟨rfl, _⟩ | ⟨_, _, rfl, _⟩ <;> rfl
        have ho : opC o d = [.int .i64 o.kind, .string (strOf o.image), .string (strOf o.snap), .string (strOf o.snap2), .string (strOf o.parent), .int .i64 o.at_, .int .i64 o.len, .int .i64 o.size, .int .i64 o.object, d, .bool o.on] := rfl
        rw [ho]
        simp (maxSteps := 10000000) (disch := omega) only [vq0, vq1, vq2, vq3, vq4, vq5, tagOf, reduceIte, reduceCtorEq, Nat.reduceEqDiff, Nat.reduceAdd, Nat.reduceSub, Nat.reduceMul, Nat.reduceLT, Nat.reduceLeDiff, Int.reduceToNat, Nat.reduceBEq, tq1, tq2, tq3, r0, r5, r12, r13, r14, p1, hone]
        rw [← ho]
        obtain ⟨h2, e2⟩ : ∃ y, y = (h1.new (.cells [.int .i64 0, .string (strOf []), .string (strOf []), .string (strOf []), .string (strOf []), .int .i64 0, .int .i64 0, .int .i64 0, .int .i64 0, .slice none 0 0, .bool false] true none)).set h1.next (.cells (opC o d) true none) := ⟨_, rfl⟩
        have g2 : Grow h1 h2 := by rw [e2]; exact (Grow.new h1 _).set (Nat.le_refl _) _
        have G2 := G1.trans g2
        rw [← e2]
        refine (run_ok c o d h2).mono ?_
        rintro v3 h3 ⟨g3, rfl⟩
        have G3 := G2.trans g3
        have n3 := (g2.trans g3).next
        have p3 : h3.get h'.next = _ := ((g2.trans g3).get _ (by omega)).trans p1
        unfold ansC
        simp (maxSteps := 10000000) (disch := omega) only [vq0, vq1, vq2, vq3, vq4, vq5, tagOf, reduceIte, reduceCtorEq, Nat.reduceEqDiff, Nat.reduceAdd, Nat.reduceSub, Nat.reduceMul, Nat.reduceLT, Nat.reduceLeDiff, Int.reduceToNat, Nat.reduceBEq, tq1, tq2, tq3, r0, r5, r12, r13, r14, p3]
        obtain ⟨h4, e4⟩ : ∃ y, y = h3.set h'.next (.cells [.slice none 0 0, .int .i64 0, .iface t_api_Errno (.int .i64 13)] true none) := ⟨_, rfl⟩
        have g4 : Grow h' h4 := by rw [e4]; exact G3.set (Nat.le_refl _) _
        rw [← e4]
        refine (answer13_ok h4).mono ?_
        rintro v5 h5 ⟨g5, rfl⟩
        have G5 := g4.trans g5
        obtain ⟨w', hY, happ, oY, gY⟩ := fin h5 stateL G5
        simp (maxSteps := 10000000) (disch := omega) only [vq0, vq1, vq2, vq3, vq4, vq5, tagOf, reduceIte, reduceCtorEq, Nat.reduceEqDiff, Nat.reduceAdd, Nat.reduceSub, Nat.reduceMul, Nat.reduceLT, Nat.reduceLeDiff, Int.reduceToNat, Nat.reduceBEq, tq1, tq2, tq3, r0, r5, r12, r13, r14]
        rw [happ]
        simp (maxSteps := 10000000) (disch := omega) only [vq0, vq1, vq2, vq3, vq4, vq5, tagOf, reduceIte, reduceCtorEq, Nat.reduceEqDiff, Nat.reduceAdd, Nat.reduceSub, Nat.reduceMul, Nat.reduceLT, Nat.reduceLeDiff, Int.reduceToNat, Nat.reduceBEq, tq1, tq2, tq3, r0, r5, r12, r13, r14]
        exact ⟨k - 1, by omega, i + 1, w', by omega, rfl, e1.symm, rfl, by rw [htk]; exact oY, gY⟩
    · rw [List.take_of_length_le hi] at ow
      simp (maxSteps := 10000000) (disch := omega) only [vq0, vq1, vq2, vq3, vq4, vq5, tagOf, reduceIte, reduceCtorEq, Nat.reduceEqDiff, Nat.reduceAdd, Nat.reduceSub, Nat.reduceMul, Nat.reduceLT, Nat.reduceLeDiff, Int.reduceToNat, Nat.reduceBEq, tq1, tq2, tq3, r0, r5, r12, r13, r14]
      exact ⟨g, ow.row⟩
  · exact ⟨0, _, by omega, by simp (maxSteps := 10000000) (disch := omega) only [vq0, vq1, vq2, vq3, vq4, vq5, tagOf, reduceIte, reduceCtorEq, Nat.reduceEqDiff, Nat.reduceAdd, Nat.reduceSub, Nat.reduceMul, Nat.reduceLT, Nat.reduceLeDiff, Int.reduceToNat, Nat.reduceBEq, tq1, tq2, tq3], rfl, by simp (maxSteps := 10000000) (disch := omega) only [vq0, vq1, vq2, vq3, vq4, vq5, tagOf, reduceIte, reduceCtorEq, Nat.reduceEqDiff, Nat.reduceAdd, Nat.reduceSub, Nat.reduceMul, Nat.reduceLT, Nat.reduceLeDiff, Int.reduceToNat, Nat.reduceBEq, tq1, tq2, tq3, hv1], by simp (maxSteps := 10000000) (disch := omega) only [vq0, vq1, vq2, vq3, vq4, vq5, tagOf, reduceIte, reduceCtorEq, Nat.reduceEqDiff, Nat.reduceAdd, Nat.reduceSub, Nat.reduceMul, Nat.reduceLT, Nat.reduceLeDiff, Int.reduceToNat, Nat.reduceBEq, tq1, tq2, tq3], by simp (maxSteps := 10000000) (disch := omega) only [vq0, vq1, vq2, vq3, vq4, vq5, tagOf, reduceIte, reduceCtorEq, Nat.reduceEqDiff, Nat.reduceAdd, Nat.reduceSub, Nat.reduceMul, Nat.reduceLT, Nat.reduceLeDiff, Int.reduceToNat, Nat.reduceBEq, tq1, tq2, tq3]; rfl, .nil _ _ _ _, ⟨Nat.le_refl _, fun _ _ => rfl⟩⟩
end Go.Proofs.YtijnnpbfgmmngaaGreatDoor.C
