/- W1: the writer. -/
import Derived.Test.YtjhaokhgiagkaaaGreatDoorD1
import Derived.Test.YtjhaokhgiagkaaaGreatDoorMs
import Derived.Test.YtjhaokhgiagkaaaGreatDoorVgJ
open Go Go.Vi Go.Bm
namespace Go.Proofs.YtjhaokhgiagkaaaGreatDoor.C
set_option linter.unusedSimpArgs false
set_option maxRecDepth 100000
set_option maxHeartbeats 40000000
structure Wt (h0 h : Heap) (p : Nat) (l : List UInt8) : Prop where
  ex : ∃ v, h.get p = some (.cells [v] true none) ∧ Own h0 h 1 t_uint8 v (l.map byteV) ∧ blkOf v ≠ some p
  lt : h0.next ≤ p ∧ p < h.next
  g : Grow h0 h
theorem Wt.grow {h0 h h' : Heap} {p : Nat} {l : List UInt8} (x : Wt h0 h p l) (g : Grow h h') : Wt h0 h' p l := by
  obtain ⟨v, h1, h2, h3⟩ := x.ex
  have := g.next
  have := x.lt
  exact ⟨⟨v, (g.get _ x.lt.2).trans h1, h2.grow g, h3⟩, by omega, x.g.trans g⟩
def Mine (h : Heap) (p c : Nat) : Prop := ∃ v, h.get p = some (.cells [v] true none) ∧ blkOf v = some c
structure WF (p : Nat) (h h' : Heap) : Prop where
  next : h.next ≤ h'.next
  keep : ∀ c, c < h.next → c ≠ p → ¬ Mine h p c → h'.get c = h.get c
  mine : ∀ c, c < h.next → Mine h' p c → Mine h p c
theorem WF.trans {p : Nat} {a b c : Heap} (x : WF p a b) (y : WF p b c) : WF p a c :=
  ⟨Nat.le_trans x.next y.next, fun k h1 h2 h3 => (y.keep k (Nat.lt_of_lt_of_le h1 x.next) h2 fun q => h3 (x.mine k h1 q)).trans (x.keep k h1 h2 h3), fun k h1 q => x.mine k h1 (y.mine k (Nat.lt_of_lt_of_le h1 x.next) q)⟩
theorem WF.of {p : Nat} {a b : Heap} (hp : p < a.next) (g : Grow a b) : WF p a b := ⟨g.next, fun c hc _ _ => g.get c hc, fun c _ ⟨v, h1, h2⟩ => ⟨v, by rw [← g.get p hp]; exact h1, h2⟩⟩
def Far (h : Heap) (p : Nat) (d : Value) : Prop := d = voidS ∨ ∀ b, blkOf d = some b → b ≠ p ∧ ¬ Mine h p b
theorem WF.row {p : Nat} {a b : Heap} {d : Value} {m : List UInt8} (x : WF p a b) (f : Far a p d) (r : BRow a d m) : BRow b d m := by
  rcases f with rfl | f
  · rcases r with ⟨_, hm⟩ | ⟨b2, o2, n, c2, row, w, q, _, e, _⟩
    · exact .inl ⟨.inr rfl, hm⟩
    · cases e
  · exact RowV.keep r x.next fun c hc hlt => x.keep c hlt (f c hc).1 (f c hc).2
theorem add_ok (h0 h : Heap) (p : Nat) (l m : List UInt8) (d : Value) (x : Wt h0 h p l) (hd : BRow h d m) (hl : l.length + m.length ≤ 100000000) :
    Ret E f_p_wire_Writer_add [.pointer (some ⟨p, 0, none⟩), d] h (fun _ h' => Wt h0 h' p (l ++ m) ∧ WF p h h') := by
  refine ret_fun is_p_wire_Writer_add (by simp) ?_
  unfold g_p_wire_Writer_add
  obtain ⟨⟨v, h1, h2, h3⟩, ⟨h4, h5⟩, g⟩ := x
  obtain ⟨v', h', happ, o', g', n', hb', keep⟩ := own_add sl_s_uint8 okSrc_bytes h2 g hd (bytes_one m) (by simp only [List.length_map]; omega) (by decide)
  simp (maxSteps := 10000000) (disch := omega) only [vq0, vq1, vq2, vq3, vq4, vq5, tagOf, reduceIte, reduceCtorEq, Nat.reduceEqDiff, Nat.reduceAdd, Nat.reduceSub, Nat.reduceMul, Nat.reduceLT, Nat.reduceLeDiff, Int.reduceToNat, Nat.reduceBEq, tq1, tq2, tq3, tq4, tq5, h1]
  rw [happ]
  obtain ⟨a1, n1, c1, rfl, _⟩ := o'.row.is
  have hp : h'.get p = some (.cells [v] true none) := (keep p h5 h3).trans h1
  have hne : blkOf (.slice a1 n1 c1) ≠ some p := by
    rcases hb' with e | e
    · rw [e]; exact h3
    · rw [e]; intro q; have := Option.some.inj q; omega
  simp (maxSteps := 10000000) (disch := omega) only [vq0, vq1, vq2, vq3, vq4, vq5, tagOf, reduceIte, reduceCtorEq, Nat.reduceEqDiff, Nat.reduceAdd, Nat.reduceSub, Nat.reduceMul, Nat.reduceLT, Nat.reduceLeDiff, Int.reduceToNat, Nat.reduceBEq, tq1, tq2, tq3, tq4, tq5, hp]
  refine ⟨⟨⟨_, get_set_same _ _ _, ?_, hne⟩, ⟨h4, by show p < h'.next; omega⟩, g'.set h4 _⟩, n', fun c hc hcp hm => ?_, fun c hc hm => ?_⟩
  · rw [List.map_append]
    exact o'.keep (Nat.le_refl _) fun b hb => get_set_ne fun e => hne (by rw [hb, e])
  · rw [get_set_ne hcp]
    exact keep c hc fun e => hm ⟨v, h1, e⟩
  · obtain ⟨u, q1, q2⟩ := hm
    rw [get_set_same] at q1
    cases q1
    rcases hb' with e | e
    · exact ⟨v, h1, by rw [← e]; exact q2⟩
    · rw [e] at q2
      have := Option.some.inj q2
      omega
theorem wbyte_ok (h0 h : Heap) (p : Nat) (l : List UInt8) (b : UInt8) (x : Wt h0 h p l) (hl : l.length + 1 ≤ 100000000) :
    Ret E f_p_wire_Writer_Byte [.pointer (some ⟨p, 0, none⟩), .int .u8 b.toNat] h (fun _ h' => Wt h0 h' p (l ++ [b]) ∧ WF p h h') := by
  refine ret_fun is_p_wire_Writer_Byte (by simp) ?_
  unfold g_p_wire_Writer_Byte
  simp (maxSteps := 10000000) (disch := omega) only [vq0, vq1, vq2, vq3, vq4, vq5, tagOf, reduceIte, reduceCtorEq, Nat.reduceEqDiff, Nat.reduceAdd, Nat.reduceSub, Nat.reduceMul, Nat.reduceLT, Nat.reduceLeDiff, Int.reduceToNat, Nat.reduceBEq, tq1, tq2, tq3, tq4, tq5]
  have hd : BRow (h.new (.cells [.int .u8 b.toNat] true none)) (.slice (some ⟨h.next, 0, none⟩) 1 1) [b] := RowV.own (z := 1) (n := 1) (c := 1) (row := [byteV b]) (w := true) (p := none) (Nat.lt_succ_self _) (Nat.le_refl _) (get_new_same _ _) (Nat.le_refl _)
  refine (add_ok h0 _ p l [b] _ (x.grow (.new h _)) hd hl).mono ?_
  rintro v h1 ⟨w1, f1⟩
  simp (maxSteps := 10000000) (disch := omega) only [vq0, vq1, vq2, vq3, vq4, vq5, tagOf, reduceIte, reduceCtorEq, Nat.reduceEqDiff, Nat.reduceAdd, Nat.reduceSub, Nat.reduceMul, Nat.reduceLT, Nat.reduceLeDiff, Int.reduceToNat, Nat.reduceBEq, tq1, tq2, tq3, tq4, tq5]
  exact ⟨w1, (WF.of x.lt.2 (.new h _)).trans f1⟩
theorem wflag_ok (h0 h : Heap) (p : Nat) (l : List UInt8) (b : Bool) (x : Wt h0 h p l) (hl : l.length + 1 ≤ 100000000) :
    Ret E f_p_wire_Writer_Flag [.pointer (some ⟨p, 0, none⟩), .bool b] h (fun _ h' => Wt h0 h' p (l ++ [flagB b]) ∧ WF p h h') := by
  refine ret_fun is_p_wire_Writer_Flag (by simp) ?_
  unfold g_p_wire_Writer_Flag
  have hd : ∀ b : UInt8, BRow (h.new (.cells [.int .u8 b.toNat] true none)) (.slice (some ⟨h.next, 0, none⟩) 1 1) [b] := fun b => RowV.own (z := 1) (n := 1) (c := 1) (row := [byteV b]) (w := true) (p := none) (Nat.lt_succ_self _) (Nat.le_refl _) (get_new_same _ _) (Nat.le_refl _)
  cases b
  · simp (maxSteps := 10000000) (disch := omega) only [vq0, vq1, vq2, vq3, vq4, vq5, tagOf, reduceIte, reduceCtorEq, Nat.reduceEqDiff, Nat.reduceAdd, Nat.reduceSub, Nat.reduceMul, Nat.reduceLT, Nat.reduceLeDiff, Int.reduceToNat, Nat.reduceBEq, tq1, tq2, tq3, tq4, tq5]
    refine (add_ok h0 _ p l [0] _ (x.grow (.new h _)) (hd 0) hl).mono ?_
    rintro v h1 ⟨w1, f1⟩
    simp (maxSteps := 10000000) (disch := omega) only [vq0, vq1, vq2, vq3, vq4, vq5, tagOf, reduceIte, reduceCtorEq, Nat.reduceEqDiff, Nat.reduceAdd, Nat.reduceSub, Nat.reduceMul, Nat.reduceLT, Nat.reduceLeDiff, Int.reduceToNat, Nat.reduceBEq, tq1, tq2, tq3, tq4, tq5]
    exact ⟨w1, (WF.of x.lt.2 (.new h _)).trans f1⟩
  · simp (maxSteps := 10000000) (disch := omega) only [vq0, vq1, vq2, vq3, vq4, vq5, tagOf, reduceIte, reduceCtorEq, Nat.reduceEqDiff, Nat.reduceAdd, Nat.reduceSub, Nat.reduceMul, Nat.reduceLT, Nat.reduceLeDiff, Int.reduceToNat, Nat.reduceBEq, tq1, tq2, tq3, tq4, tq5]
    refine (add_ok h0 _ p l [1] _ (x.grow (.new h _)) (hd 1) hl).mono ?_
    rintro v h1 ⟨w1, f1⟩
    simp (maxSteps := 10000000) (disch := omega) only [vq0, vq1, vq2, vq3, vq4, vq5, tagOf, reduceIte, reduceCtorEq, Nat.reduceEqDiff, Nat.reduceAdd, Nat.reduceSub, Nat.reduceMul, Nat.reduceLT, Nat.reduceLeDiff, Int.reduceToNat, Nat.reduceBEq, tq1, tq2, tq3, tq4, tq5]
    exact ⟨w1, (WF.of x.lt.2 (.new h _)).trans f1⟩
theorem sl8 {h : Heap} {b : Nat} {cs : List Value} (hg : h.get b = some (.cells cs true none)) :
    orK (sliceV E t_8_uint8 (.pointer (some ⟨b, 0, none⟩)) none none none) (sliceS E t_8_uint8 (.pointer (some ⟨b, 0, none⟩)) none none none h) = some (.slice (some ⟨b, 0, none⟩) 8 8) := by
  have hv : sliceV E t_8_uint8 (.pointer (some ⟨b, 0, none⟩)) none none none = none := by
    unfold sliceV
    rw [show E.ty t_8_uint8 = some ((E.ty t_8_uint8).getD dTy) from by kernel_rfl]
    simp only [Option.bind_eq_bind, Option.bind_some]
    rw [show ((E.ty t_8_uint8).getD dTy).under = .array 8 t_uint8 from by kernel_rfl]
  have hs : sliceS E t_8_uint8 (.pointer (some ⟨b, 0, none⟩)) none none none h = some (.slice (some ⟨b, 0, none⟩) 8 8) := by
    unfold sliceS
    rw [show E.ty t_8_uint8 = some ((E.ty t_8_uint8).getD dTy) from by kernel_rfl]
    simp only [Option.bind_eq_bind, Option.bind_some]
    rw [show ((E.ty t_8_uint8).getD dTy).under = .array 8 t_uint8 from by kernel_rfl]
    simp only []
    rw [show E.ty t_uint8 = some ((E.ty t_uint8).getD dTy) from by kernel_rfl]
    simp only [Option.bind_some]
    rw [show boundsV 8 8 none none none = some (0, 8, 8) from rfl]
    simp only [Option.bind_some]
    have hc : closed h b = true := by unfold closed; rw [hg]
    rw [if_pos ⟨by rw [show ((E.ty t_uint8).getD dTy).size = 1 from by kernel_rfl]; decide, hc⟩]
    rw [if_neg (by decide), show ((E.ty t_uint8).getD dTy).size = 1 from by kernel_rfl]
    rfl
  rw [hv, orK_none, hs]
theorem wnum_ok (h0 h : Heap) (p : Nat) (l : List UInt8) (n : Int) (x : Wt h0 h p l) (hl : l.length + 8 ≤ 100000000) :
    Ret E f_p_wire_Writer_Num [.pointer (some ⟨p, 0, none⟩), .int .i64 n] h (fun _ h' => Wt h0 h' p (l ++ numB n) ∧ WF p h h') := by
  refine ret_fun is_p_wire_Writer_Num (by simp) ?_
  unfold g_p_wire_Writer_Num
  simp (maxSteps := 10000000) (disch := omega) only [vq0, vq1, vq2, vq3, vq4, vq5, tagOf, reduceIte, reduceCtorEq, Nat.reduceEqDiff, Nat.reduceAdd, Nat.reduceSub, Nat.reduceMul, Nat.reduceLT, Nat.reduceLeDiff, Int.reduceToNat, Nat.reduceBEq, tq1, tq2, tq3, tq4, tq5]
  refine r_loop (k := 8) (fun k ρ h' => ∃ (i : Nat), i + k = 8 ∧ ρ 0 = .pointer (some ⟨p, 0, none⟩) ∧ ρ 1 = .int .i64 n ∧ ρ 4 = .pointer (some ⟨h.next, 0, none⟩) ∧ ρ 6 = .int .i64 (i : Int) ∧
    Grow h h' ∧ h.next < h'.next ∧ h'.get h.next = some (.cells (tab 8 fun j => byteV (if j < i then (numB n).getD j 0 else 0)) true none)) ?_ ?_
  · rintro k ρ h' ⟨i, hk, r0, r1, r4, r6, g, hlt, hrow⟩
    unfold g_p_wire_Writer_Num_L0
    rcases Nat.lt_or_ge i 8 with hi | hi
    · have hsh := shr_byte n hi
      have hm : ∀ j : Nat, j < 8 → IntKind.i64.wrap (8 * (j : Int)) = 8 * (j : Int) := fun j hj => by rw [IntKind.wrap_i64]; omega
      have har : arithV .shr .i64 n (8 * (i : Int)) = some (.int .i64 (n.fdiv (2 ^ (min (8 * (i : Int)).toNat 64)))) := by
        show (if 8 * (i : Int) < 0 then none else some (Value.int .i64 (n.fdiv (2 ^ (min (8 * (i : Int)).toNat 64))))) = _
        rw [if_neg (by omega)]
      simp (maxSteps := 10000000) (disch := omega) only [vq0, vq1, vq2, vq3, vq4, vq5, tagOf, reduceIte, reduceCtorEq, Nat.reduceEqDiff, Nat.reduceAdd, Nat.reduceSub, Nat.reduceMul, Nat.reduceLT, Nat.reduceLeDiff, Int.reduceToNat, Nat.reduceBEq, tq1, tq2, tq3, tq4, tq5, r0, r1, r4, r6, hrow, har, tab_len]
      refine ⟨k - 1, by omega, i + 1, by omega, rfl, g.set (Nat.le_refl _) _, hlt, ?_⟩
      rw [hsh, tab_set]
      congr 2
      refine tab_congr fun j hj => ?_
      by_cases e : j = i
      · rw [if_pos e, if_pos (by omega), e, List.getD_eq_getElem?_getD, numB_get n hi]
        rfl
      · rw [if_neg e]
        by_cases e2 : j < i
        · rw [if_pos e2, if_pos (by omega)]
        · rw [if_neg e2, if_neg (by omega)]
    · have hi8 : i = 8 := by omega
      subst hi8
      have htab : (tab 8 fun j => byteV (if j < 8 then (numB n).getD j 0 else 0)) = (numB n).map byteV := by
        rw [numB_eight]
        rfl
      rw [htab] at hrow
      have hd : BRow h' (.slice (some ⟨h.next, 0, none⟩) 8 8) (numB n) := by
        have := RowV.own (z := 1) (n := 8) (c := 8) hlt (Nat.le_refl _) hrow (by rw [List.length_map, numB_len]; decide)
        rw [List.take_of_length_le (by rw [List.length_map, numB_len]; decide)] at this
        exact this
      simp (maxSteps := 10000000) (disch := omega) only [vq0, vq1, vq2, vq3, vq4, vq5, tagOf, reduceIte, reduceCtorEq, Nat.reduceEqDiff, Nat.reduceAdd, Nat.reduceSub, Nat.reduceMul, Nat.reduceLT, Nat.reduceLeDiff, Int.reduceToNat, Nat.reduceBEq, tq1, tq2, tq3, tq4, tq5, r0, r1, r4, r6, sl8 hrow]
      refine (add_ok h0 h' p l (numB n) _ (x.grow g) hd (by rw [numB_len]; exact hl)).mono ?_
      rintro v h1 ⟨w1, f1⟩
      simp (maxSteps := 10000000) (disch := omega) only [vq0, vq1, vq2, vq3, vq4, vq5, tagOf, reduceIte, reduceCtorEq, Nat.reduceEqDiff, Nat.reduceAdd, Nat.reduceSub, Nat.reduceMul, Nat.reduceLT, Nat.reduceLeDiff, Int.reduceToNat, Nat.reduceBEq, tq1, tq2, tq3, tq4, tq5]
      exact ⟨w1, (WF.of x.lt.2 g).trans f1⟩
  · exact ⟨0, by omega, by simp (maxSteps := 10000000) (disch := omega) only [vq0, vq1, vq2, vq3, vq4, vq5, tagOf, reduceIte, reduceCtorEq, Nat.reduceEqDiff, Nat.reduceAdd, Nat.reduceSub, Nat.reduceMul, Nat.reduceLT, Nat.reduceLeDiff, Int.reduceToNat, Nat.reduceBEq, tq1, tq2, tq3, tq4, tq5], by simp (maxSteps := 10000000) (disch := omega) only [vq0, vq1, vq2, vq3, vq4, vq5, tagOf, reduceIte, reduceCtorEq, Nat.reduceEqDiff, Nat.reduceAdd, Nat.reduceSub, Nat.reduceMul, Nat.reduceLT, Nat.reduceLeDiff, Int.reduceToNat, Nat.reduceBEq, tq1, tq2, tq3, tq4, tq5], by simp (maxSteps := 10000000) (disch := omega) only [vq0, vq1, vq2, vq3, vq4, vq5, tagOf, reduceIte, reduceCtorEq, Nat.reduceEqDiff, Nat.reduceAdd, Nat.reduceSub, Nat.reduceMul, Nat.reduceLT, Nat.reduceLeDiff, Int.reduceToNat, Nat.reduceBEq, tq1, tq2, tq3, tq4, tq5], by simp (maxSteps := 10000000) (disch := omega) only [vq0, vq1, vq2, vq3, vq4, vq5, tagOf, reduceIte, reduceCtorEq, Nat.reduceEqDiff, Nat.reduceAdd, Nat.reduceSub, Nat.reduceMul, Nat.reduceLT, Nat.reduceLeDiff, Int.reduceToNat, Nat.reduceBEq, tq1, tq2, tq3, tq4, tq5]; rfl, Grow.new h _, Nat.lt_succ_self _, by simp (maxSteps := 10000000) (disch := omega) only [vq0, vq1, vq2, vq3, vq4, vq5, tagOf, reduceIte, reduceCtorEq, Nat.reduceEqDiff, Nat.reduceAdd, Nat.reduceSub, Nat.reduceMul, Nat.reduceLT, Nat.reduceLeDiff, Int.reduceToNat, Nat.reduceBEq, tq1, tq2, tq3, tq4, tq5]; rfl⟩
def Cut1 (h : Heap) (v : Value) : Prop := ∀ b, blkOf v = some b → ∃ cs w q, h.get b = some (.cells cs w q) ∧ (q = none ∨ q.map (·.1) = some 1)
theorem sl_ne {b o n c : Nat} : Value.slice (some ⟨b, o, none⟩) n c ≠ voidS := fun e => by injection e with e; injection e with e; injection e with e1 e2 e3; cases e3
theorem cloneB_ok (d : Value) (m : List UInt8) (h : Heap) (hd : BRow h d m) (hl : m.length ≤ 100000000) :
    Ret E f_slices_Clone_s_byte_byte [d] h (fun u h' => Grow h h' ∧ BRow h' u m ∧ (∀ b, blkOf u = some b → h.next ≤ b) ∧ Cut1 h' u ∧ u ≠ voidS) := by
  refine ret_fun is_slices_Clone_s_byte_byte (by simp) ?_
  unfold g_slices_Clone_s_byte_byte
  have h0 := hd
  have he : ∀ (hm : m = []), Grow h (h.new (.cells [] true none)) ∧ BRow (h.new (.cells [] true none)) (.slice (some ⟨h.next, 0, none⟩) 0 0) m ∧ (∀ b, blkOf (.slice (some ⟨h.next, 0, none⟩) 0 0) = some b → h.next ≤ b) ∧ Cut1 (h.new (.cells [] true none)) (.slice (some ⟨h.next, 0, none⟩) 0 0) ∧ Value.slice (some ⟨h.next, 0, none⟩) 0 0 ≠ voidS := fun hm => by
    subst hm
    exact ⟨.new h _, RowV.own (z := 1) (n := 0) (c := 0) (Nat.lt_succ_self _) (Nat.le_refl _) (get_new_same h (.cells [] true none)) (by decide), (fun b hb => by cases hb; exact Nat.le_refl _), (fun b hb => by cases hb; exact ⟨_, _, _, get_new_same _ _, .inl rfl⟩), sl_ne⟩
  rcases hd with ⟨rfl | rfl, hm⟩ | ⟨b2, o2, n, c2, row, w, p, hb2, rfl, hc, hl2, hg2, h1, h2⟩
  · simp (maxSteps := 10000000) (disch := omega) only [vq0, vq1, vq2, vq3, vq4, vq5, tagOf, reduceIte, reduceCtorEq, Nat.reduceEqDiff, Nat.reduceAdd, Nat.reduceSub, Nat.reduceMul, Nat.reduceLT, Nat.reduceLeDiff, Int.reduceToNat, Nat.reduceBEq, tq1, tq2, tq3, tq4, tq5]
    exact ⟨⟨Nat.le_refl _, fun _ _ => rfl⟩, h0, (fun b hb => by cases hb), (fun b hb => by cases hb), fun e => by cases e⟩
  · simp (maxSteps := 10000000) (disch := omega) only [vq0, vq1, vq2, vq3, vq4, vq5, tagOf, reduceIte, reduceCtorEq, Nat.reduceEqDiff, Nat.reduceAdd, Nat.reduceSub, Nat.reduceMul, Nat.reduceLT, Nat.reduceLeDiff, Int.reduceToNat, Nat.reduceBEq, tq1, tq2, tq3, tq4, tq5, app_void sl_s_uint8 okSrc_bytes]
    exact he (List.map_eq_nil_iff.1 hm)
  · rcases Nat.eq_zero_or_pos n with rfl | hn
    · simp (maxSteps := 10000000) (disch := omega) only [vq0, vq1, vq2, vq3, vq4, vq5, tagOf, reduceIte, reduceCtorEq, Nat.reduceEqDiff, Nat.reduceAdd, Nat.reduceSub, Nat.reduceMul, Nat.reduceLT, Nat.reduceLeDiff, Int.reduceToNat, Nat.reduceBEq, tq1, tq2, tq3, tq4, tq5]
      exact he (List.eq_nil_of_length_eq_zero (by rw [List.length_map] at hl2; omega))
    · rw [List.length_map, Nat.mul_one] at hl2
      subst hl2
      have hap := app_own0 (E := E) (n := m.length) (b := h.next) (wr := true) sl_s_uint8 okSrc_bytes (RowV.grow h0 (.new h (.cells [] true none))) (by simp) hn (bytes_one m) (get_new_same _ _) (by omega) (by omega)
      simp (maxSteps := 10000000) (disch := omega) only [vq0, vq1, vq2, vq3, vq4, vq5, tagOf, reduceIte, reduceCtorEq, Nat.reduceEqDiff, Nat.reduceAdd, Nat.reduceSub, Nat.reduceMul, Nat.reduceLT, Nat.reduceLeDiff, Int.reduceToNat, Nat.reduceBEq, tq1, tq2, tq3, tq4, tq5, hap]
      refine ⟨(Grow.new h _).more _, .inr ⟨h.next + 1, 0, m.length, m.length, m.map byteV, true, some (1, t_uint8), Nat.lt_succ_self _, rfl, Nat.le_refl _, by simp, get_new_same _ _, by simp, by rw [List.drop_zero, List.take_length]⟩, (fun b hb => by cases hb; exact Nat.le_succ _), (fun b hb => by cases hb; exact ⟨_, _, _, get_new_same _ _, .inr rfl⟩), sl_ne⟩
theorem out_ok (h0 h : Heap) (p : Nat) (l : List UInt8) (x : Wt h0 h p l) (hl : l.length ≤ 100000000) :
    Ret E f_p_wire_Writer_Out [.pointer (some ⟨p, 0, none⟩)] h (fun u h' => Grow h h' ∧ BRow h' u l ∧ ∀ b, blkOf u = some b → h.next ≤ b) := by
  refine ret_fun is_p_wire_Writer_Out (by simp) ?_
  unfold g_p_wire_Writer_Out
  obtain ⟨⟨v, h1, h2, h3⟩, ⟨h4, h5⟩, g⟩ := x
  simp (maxSteps := 10000000) (disch := omega) only [vq0, vq1, vq2, vq3, vq4, vq5, tagOf, reduceIte, reduceCtorEq, Nat.reduceEqDiff, Nat.reduceAdd, Nat.reduceSub, Nat.reduceMul, Nat.reduceLT, Nat.reduceLeDiff, Int.reduceToNat, Nat.reduceBEq, tq1, tq2, tq3, tq4, tq5, h1]
  refine (cloneB_ok v l h h2.row hl).mono ?_
  rintro u h' ⟨q1, q2, q3, _⟩
  simp (maxSteps := 10000000) (disch := omega) only [vq0, vq1, vq2, vq3, vq4, vq5, tagOf, reduceIte, reduceCtorEq, Nat.reduceEqDiff, Nat.reduceAdd, Nat.reduceSub, Nat.reduceMul, Nat.reduceLT, Nat.reduceLeDiff, Int.reduceToNat, Nat.reduceBEq, tq1, tq2, tq3, tq4, tq5]
  exact ⟨q1, q2, q3⟩
end Go.Proofs.YtjhaokhgiagkaaaGreatDoor.C
