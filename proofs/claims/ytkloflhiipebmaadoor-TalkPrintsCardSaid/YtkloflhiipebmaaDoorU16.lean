/- U16: an operation, printed. -/
import Derived.Test.YtkloflhiipebmaaDoorU15
open Go Go.Vi Go.Tk
namespace Go.Proofs.YtkloflhiipebmaaDoor.C
set_option linter.unusedSimpArgs false
set_option maxRecDepth 100000
set_option maxHeartbeats 40000000
def printO (c : Int) (o : TOp) : List (List UInt8 × Int × List UInt8) → Option (List UInt8)
  | [] => none
  | v :: r => if v.2.1 = o.kind ∧ parseT (lineT c o v) = some (c, o) then some (lineT c o v) else printO c o r
theorem printO_no {c : Int} {o : TOp} : ∀ {l : List (List UInt8 × Int × List UInt8)}, o.kind ∉ l.map (·.2.1) → printO c o l = none := by
  intro l
  induction l with
  | nil => intro _; rfl
  | cons v l ih =>
    intro h
    simp only [List.map_cons, List.mem_cons, not_or] at h
    rw [printO, if_neg (fun e => h.1 e.1.symm), ih h.2]
theorem printO_is {c : Int} {o : TOp} : ∀ {l : List (List UInt8 × Int × List UInt8)}, (l.map (·.2.1)).Nodup → printO c o l = match kindOf o.kind l with
    | some v => if parseT (lineT c o v) = some (c, o) then some (lineT c o v) else none
    | none => none := by
  intro l
  induction l with
  | nil => intro _; rfl
  | cons v l ih =>
    intro h
    rw [List.map_cons, List.nodup_cons] at h
    rw [printO, kindOf]
    by_cases hk : v.2.1 = o.kind
    · rw [if_pos hk]
      simp only [hk, true_and]
      rw [printO_no (by rw [← hk]; exact h.1)]
    · rw [if_neg hk, if_neg (fun e => hk e.1), ih h.2]
theorem print_is (c : Int) (o : TOp) : printO c o verbsT = printT c o := printO_is (by decide)
theorem join_len (l : List (List UInt8)) (B : Nat) (h : ∀ x ∈ l, x.length ≤ B) : (Lib.join l [32]).length ≤ l.length * (B + 1) := by
  have ht : ∀ l : List (List UInt8), (∀ x ∈ l, x.length ≤ B) → (Lib.joinTail [32] l).length ≤ l.length * (B + 1) := by
    intro l
    induction l with
    | nil => intro _; exact Nat.zero_le _
    | cons a l ih =>
      intro h
      have h1 := h a List.mem_cons_self
      have h2 := ih fun x hx => h x (List.mem_cons_of_mem _ hx)
      have : (Lib.joinTail [32] (a :: l)).length = 1 + a.length + (Lib.joinTail [32] l).length := by
        unfold Lib.joinTail
        simp
        omega
      rw [this, List.length_cons, Nat.succ_mul]
      omega
  cases l with
  | nil => exact Nat.zero_le _
  | cons a l =>
    have h1 := h a List.mem_cons_self
    have h2 := ht l fun x hx => h x (List.mem_cons_of_mem _ hx)
    rw [Lib.join_cons, List.length_append, List.length_cons, Nat.succ_mul]
    omega
theorem hexS_len2 (l : List UInt8) : (hexS l).length ≤ 2 * l.length + 1 := by
  unfold hexS
  split
  · simp
  · rw [hexL_len]; omega
theorem word_len {o : TOp} (ok : OpOk o) (a : UInt8) : (wordT o a).length ≤ 4001 := by
  have k1 := ok.image
  have k2 := ok.snap
  have k3 := ok.snap2
  have k4 := ok.parent
  have k5 := ok.data
  have k6 := (itoa_len20 ok.at_).2
  have k7 := (itoa_len20 ok.len).2
  have k8 := (itoa_len20 ok.size).2
  have k9 := (itoa_len20 ok.object).2
  have k10 := hexS_len2 o.data
  unfold wordT
  repeat' split
  all_goals simp
  all_goals omega
theorem kinds_le : ∀ v ∈ verbsT, 1 ≤ v.2.1 ∧ v.2.1 ≤ 22 := by decide
theorem wants_len : ∀ v ∈ verbsT, v.2.2.length ≤ 4 ∧ v.1.length ≤ 20 := by decide
theorem line_len {o : TOp} {c : Int} {v : List UInt8 × Int × List UInt8} (ok : OpOk o) (hc : inR c) (hv : v ∈ verbsT) : (lineT c o v).length ≤ 30000 := by
  obtain ⟨h1, h2⟩ := wants_len v hv
  unfold lineT
  have := join_len (Lib.itoa c :: v.1 :: v.2.2.map (wordT o)) 4001 (fun x hx => by
    rcases List.mem_cons.1 hx with rfl | hx
    · have := (itoa_len20 hc).2; omega
    rcases List.mem_cons.1 hx with rfl | hx
    · omega
    obtain ⟨a, _, rfl⟩ := List.mem_map.1 hx
    exact word_len ok a)
  simp only [List.length_cons, List.length_map] at this
  omega
def PrintQ (c : Int) (o : TOp) (v : Value) : Prop := v = match printT c o with
  | some l => .tuple ⟨[.string (strOf l), .nilIface]⟩
  | none => .tuple ⟨[.string (strOf []), .iface t_api_Errno (.int .i64 2)]⟩
theorem print_ok (c : Int) (o : TOp) (d : Value) (h : Heap) (hc : inR c) (ok : OpOk o) (hd : RowG h d o.data) : Ret E f_talk_Print [.int .i64 c, .agg ⟨opC o d⟩] h (fun v h' => Grow h h' ∧ PrintQ c o v) := by
  have hpo := print_is c o
  have hpq : ∀ v, PrintQ c o v = (v = match printT c o with
    | some l => .tuple ⟨[.string (strOf l), .nilIface]⟩
    | none => .tuple ⟨[.string (strOf []), .iface t_api_Errno (.int .i64 2)]⟩) := fun _ => rfl
  generalize PrintQ c o = P at hpq ⊢
  refine ret_fun is_talk_Print (by simp) ?_
  unfold g_talk_Print
  obtain ⟨hc0, hc1⟩ := hc
  have hkr0 := ok.kind.1
  have hkr1 := ok.kind.2
  have hvd : ∀ n, veq (n + 1) d d = true := by rcases hd with ⟨rfl, _⟩ | ⟨_, _, _, _, _, _, _, rfl, _⟩ <;> intro n <;> simp (maxSteps := 10000000) (disch := omega) only [vq0, vq1, vq2, vq3, vq4, vq5, tagOf, reduceIte, reduceCtorEq, Nat.reduceEqDiff, Nat.reduceAdd, Nat.reduceSub, Nat.reduceMul, Nat.reduceLT, Nat.reduceLeDiff, Int.reduceToNat, Nat.reduceBEq, tq1, tq2, tq3]
  simp (maxSteps := 10000000) (disch := omega) only [vq0, vq1, vq2, vq3, vq4, vq5, tagOf, reduceIte, reduceCtorEq, Nat.reduceEqDiff, Nat.reduceAdd, Nat.reduceSub, Nat.reduceMul, Nat.reduceLT, Nat.reduceLeDiff, Int.reduceToNat, Nat.reduceBEq, tq1, tq2, tq3, verbs_ok]
  refine r_loop (k := 22) (fun k ρ h' => ∃ i, i + k = 22 ∧ printO c o (verbsT.drop i) = printT c o ∧ ρ 0 = .int .i64 c ∧ ρ 3 = .pointer (some ⟨h.next, 0, none⟩) ∧ ρ 14 = .slice (some ⟨h.next + 1, 0, none⟩) 22 22 ∧ ρ 15 = .int .i64 22 ∧ ρ 16 = .int .i64 (i : Int) ∧
    h'.get h.next = some (.cells (opC o d) true none) ∧ h'.get (h.next + 1) = some (.cells verbsC true none) ∧ Grow h h' ∧ h.next + 2 ≤ h'.next) ?_ ?_
  · rintro k ρ h' ⟨i, hk, hv, r0, r3, r14, r15, r16, m0, m1, gr, hnx⟩
    unfold g_talk_Print_L1
    have m0' := m0
    unfold opC at m0
    rcases Nat.lt_or_ge i 22 with hi | hi
    · have hvi : verbsT[i]? = some verbsT[i] := List.getElem?_eq_getElem hi
      obtain ⟨f1, f2⟩ := flat_cells verbsT i _ hvi
      rw [List.drop_eq_getElem_cons hi, printO] at hv
      have hvm : verbsT[i] ∈ verbsT := List.getElem_mem _
      have hkv : 1 ≤ verbsT[i].2.1 ∧ verbsT[i].2.1 ≤ 22 := kinds_le _ hvm
      generalize verbsT[i] = v at hvi f2 hv hvm hkv
      obtain ⟨hw4, hw20⟩ := wants_len v hvm
      have f1' : i * 3 + 3 ≤ verbsC.length := f1
      have f2' : (verbsC.drop (i * 3)).take 3 = verbC v := f2
      unfold verbC at f2'
      have gnew : ∀ o1 o2 : Blk, Grow h ((h'.new o1).set h'.next o2) := fun o1 o2 => (gr.more o1).set (by omega) o2
      by_cases hkd : v.2.1 = o.kind
      · simp (maxSteps := 10000000) (disch := omega) only [vq0, vq1, vq2, vq3, vq4, vq5, tagOf, reduceIte, reduceCtorEq, Nat.reduceEqDiff, Nat.reduceAdd, Nat.reduceSub, Nat.reduceMul, Nat.reduceLT, Nat.reduceLeDiff, Int.reduceToNat, Nat.reduceBEq, tq1, tq2, tq3, r0, r3, r14, r15, r16, m0, m1, f1', f2', itoa_ret hc0 hc1]
        refine r_loop (k := v.2.2.length) (fun k ρ h2 => ∃ i2 b p, i2 + k = v.2.2.length ∧ (p = none ∨ p = some (1, t_string)) ∧ ρ 0 = .int .i64 c ∧ ρ 3 = .pointer (some ⟨h.next, 0, none⟩) ∧ ρ 7 = .pointer (some ⟨h'.next, 0, none⟩) ∧ ρ 8 = .slice (some ⟨b, 0, none⟩) (i2 + 2) (i2 + 2) ∧
          ρ 14 = .slice (some ⟨h.next + 1, 0, none⟩) 22 22 ∧ ρ 15 = .int .i64 22 ∧ ρ 16 = .int .i64 (i : Int) ∧ ρ 32 = .int .i64 (v.2.2.length : Int) ∧ ρ 33 = .int .i64 (i2 : Int) ∧
          h2.get h.next = some (.cells (opC o d) true none) ∧ h2.get (h.next + 1) = some (.cells verbsC true none) ∧ h2.get h'.next = some (.cells (verbC v) true none) ∧ h2.get b = some (.cells (textsV (Lib.itoa c :: v.1 :: (v.2.2.take i2).map (wordT o))) true p) ∧ h'.next + 1 ≤ b ∧ b < h2.next ∧ Grow h h2) ?_ ?_
        · rintro k2 ρ h2 ⟨i2, b, p, hk2, hp, r0, r3, r7, r8, r14, r15, r16, r32, r33, m0, m1, m2, m3, hb0, hb1, gr2⟩
          unfold g_talk_Print_L0
          have m0'' := m0
          have m2'' := m2
          unfold opC at m0
          unfold verbC at m2
          have htl : (textsV (Lib.itoa c :: v.1 :: (v.2.2.take i2).map (wordT o))).length = i2 + 2 := by
            rw [textsV_len, List.length_cons, List.length_cons, List.length_map, List.length_take]; omega
          rcases Nat.lt_or_ge i2 v.2.2.length with hi2 | hi2
          · have ha : v.2.2[i2]? = some v.2.2[i2] := List.getElem?_eq_getElem hi2
            have htk : v.2.2.take (i2 + 1) = v.2.2.take i2 ++ [v.2.2[i2]] := List.take_succ_eq_append_getElem hi2
            generalize v.2.2[i2] = a at ha htk
            have ia : v.2.2[((i2 : Int)).toNat]? = some a := by rw [Int.toNat_natCast]; exact ha
            simp (maxSteps := 10000000) (disch := omega) only [vq0, vq1, vq2, vq3, vq4, vq5, tagOf, reduceIte, reduceCtorEq, Nat.reduceEqDiff, Nat.reduceAdd, Nat.reduceSub, Nat.reduceMul, Nat.reduceLT, Nat.reduceLeDiff, Int.reduceToNat, Nat.reduceBEq, tq1, tq2, tq3, r0, r3, r7, r8, r14, r15, r16, r32, r33, m0, m1, m2, ia, byteV_at]
            refine (word_ok o d a h2 ok (hd.grow gr2)).mono ?_
            rintro v3 h3 ⟨g3, rfl⟩
            have p0 := g3.get h.next (by have := gr2.next; omega)
            have p1 := g3.get (h.next + 1) (by omega)
            have p2 := g3.get h'.next (by omega)
            have p3 := g3.get b hb1
            rw [m0] at p0
            rw [m1] at p1
            rw [m2] at p2
            rw [m3] at p3
            have gr3 := gr2.trans g3
            have hnx3 := g3.next
            have hnew : textsV (Lib.itoa c :: v.1 :: (v.2.2.take i2).map (wordT o)) ++ [.string (strOf (wordT o a))] = textsV (Lib.itoa c :: v.1 :: (v.2.2.take (i2 + 1)).map (wordT o)) := by
              rw [htk, List.map_append]
              show _ = textsV ((Lib.itoa c :: v.1 :: (v.2.2.take i2).map (wordT o)) ++ [wordT o a])
              rw [textsV_app]
              rfl
            rcases hp with rfl | rfl
            · simp (maxSteps := 10000000) (disch := omega) only [vq0, vq1, vq2, vq3, vq4, vq5, tagOf, reduceIte, reduceCtorEq, Nat.reduceEqDiff, Nat.reduceAdd, Nat.reduceSub, Nat.reduceMul, Nat.reduceLT, Nat.reduceLeDiff, Int.reduceToNat, Nat.reduceBEq, tq1, tq2, tq3, r0, r3, r7, r8, r14, r15, r16, r32, r33, m0, m1, m2, ia, byteV_at, p0, p1, p2, p3, htl, hvd]
              exact ⟨k2 - 1, by omega, i2 + 1, h3.next + 1, some (1, t_string), by omega, .inr rfl, rfl, rfl, rfl, rfl, by simp (maxSteps := 10000000) (disch := omega) only [vq0, vq1, vq2, vq3, vq4, vq5, tagOf, reduceIte, reduceCtorEq, Nat.reduceEqDiff, Nat.reduceAdd, Nat.reduceSub, Nat.reduceMul, Nat.reduceLT, Nat.reduceLeDiff, Int.reduceToNat, Nat.reduceBEq, tq1, tq2, tq3, hnew], by omega, by omega, (gr3.more _).more _⟩
            · simp (maxSteps := 10000000) (disch := omega) only [vq0, vq1, vq2, vq3, vq4, vq5, tagOf, reduceIte, reduceCtorEq, Nat.reduceEqDiff, Nat.reduceAdd, Nat.reduceSub, Nat.reduceMul, Nat.reduceLT, Nat.reduceLeDiff, Int.reduceToNat, Nat.reduceBEq, tq1, tq2, tq3, r0, r3, r7, r8, r14, r15, r16, r32, r33, m0, m1, m2, ia, byteV_at, p0, p1, p2, p3, htl, hvd]
              exact ⟨k2 - 1, by omega, i2 + 1, h3.next + 1, some (1, t_string), by omega, .inr rfl, rfl, rfl, rfl, rfl, by simp (maxSteps := 10000000) (disch := omega) only [vq0, vq1, vq2, vq3, vq4, vq5, tagOf, reduceIte, reduceCtorEq, Nat.reduceEqDiff, Nat.reduceAdd, Nat.reduceSub, Nat.reduceMul, Nat.reduceLT, Nat.reduceLeDiff, Int.reduceToNat, Nat.reduceBEq, tq1, tq2, tq3, hnew], by omega, by omega, ((gr3.more _).more _).kill (by have := gr.next; omega)⟩
          · have hi3 : i2 = v.2.2.length := by omega
            subst hi3
            rw [List.take_of_length_le (Nat.le_refl _)] at m3
            have hll := line_len (v := v) ok ⟨hc0, hc1⟩ hvm
            have hL : Lib.join (Lib.itoa c :: v.1 :: v.2.2.map (wordT o)) [32] = lineT c o v := rfl
            have hjr := fun cc Q => join_ret (Q := Q) (c := cc) (n := v.2.2.length + 2) m3 (by simp) (by simp; omega) (by rw [hL]; omega)
            rw [hL] at hjr
            simp (maxSteps := 10000000) (disch := omega) only [vq0, vq1, vq2, vq3, vq4, vq5, tagOf, reduceIte, reduceCtorEq, Nat.reduceEqDiff, Nat.reduceAdd, Nat.reduceSub, Nat.reduceMul, Nat.reduceLT, Nat.reduceLeDiff, Int.reduceToNat, Nat.reduceBEq, tq1, tq2, tq3, r0, r3, r7, r8, r14, r15, r16, r32, r33, m0, m1, m2, hjr]
            refine (parse_ok (lineT c o v) (by omega) h2).mono ?_
            rintro v3 h3 ⟨g3, hq⟩
            have p0 := g3.get h.next (by have := gr2.next; omega)
            have p1 := g3.get (h.next + 1) (by omega)
            have p2 := g3.get h'.next (by omega)
            rw [m0] at p0
            rw [m1] at p1
            rw [m2] at p2
            have gr3 := gr2.trans g3
            have hnx3 := g3.next
            unfold ParseQ at hq
            cases hpl : parseT (lineT c o v) with
            | none =>
              rw [hpl] at hq
              subst hq
              rw [hpl, if_neg (fun e => nomatch e.2)] at hv
              unfold opC
              simp (maxSteps := 10000000) (disch := omega) only [vq0, vq1, vq2, vq3, vq4, vq5, tagOf, reduceIte, reduceCtorEq, Nat.reduceEqDiff, Nat.reduceAdd, Nat.reduceSub, Nat.reduceMul, Nat.reduceLT, Nat.reduceLeDiff, Int.reduceToNat, Nat.reduceBEq, tq1, tq2, tq3, r0, r3, r7, r8, r14, r15, r16, r32, r33, p0, p1, p2]
              exact ⟨k - 1, by omega, i + 1, by omega, hv, rfl, (gr3.more _).set (by have := gr3.next; omega) _, by omega⟩
            | some q =>
              obtain ⟨n, o'⟩ := q
              rw [hpl] at hq
              obtain ⟨d', rfl, hd'⟩ := hq
              rw [hpl] at hv
              have p0' := g3.get h.next (by have := gr2.next; omega)
              rw [m0''] at p0'
              have g4 : ∀ b x, Grow h3 ((h3.new b).set h3.next x) := fun b x => (Grow.new h3 b).set (Nat.le_refl _) x
              have hone : oneCell d' = true := by rcases hd' with ⟨rfl, _⟩ | ⟨_, _, rfl, _⟩ <;> rfl
              by_cases hn : n = c
              · subst hn
                unfold opC
                simp (maxSteps := 10000000) (disch := omega) only [vq0, vq1, vq2, vq3, vq4, vq5, tagOf, reduceIte, reduceCtorEq, Nat.reduceEqDiff, Nat.reduceAdd, Nat.reduceSub, Nat.reduceMul, Nat.reduceLT, Nat.reduceLeDiff, Int.reduceToNat, Nat.reduceBEq, tq1, tq2, tq3, r0, r3, r7, r8, r14, r15, r16, r32, r33, p0, p1, p2, hone]
                refine (same_ok o' o d' d _ (hd'.g.grow (g4 _ _)) (hd.grow (gr3.trans (g4 _ _)))).mono ?_
                rintro v4 h4 ⟨g5, rfl⟩
                have g6 := (g4 _ _).trans g5
                have q0 := g6.get h.next (by have := gr2.next; omega)
                have q1 := g6.get (h.next + 1) (by omega)
                rw [p0'] at q0
                rw [p1] at q1
                have hnx4 := g6.next
                by_cases he : o' = o
                · subst he
                  rw [if_pos ⟨hkd, rfl⟩] at hv
                  rw [decide_eq_true rfl]
                  simp (maxSteps := 10000000) (disch := omega) only [vq0, vq1, vq2, vq3, vq4, vq5, tagOf, reduceIte, reduceCtorEq, Nat.reduceEqDiff, Nat.reduceAdd, Nat.reduceSub, Nat.reduceMul, Nat.reduceLT, Nat.reduceLeDiff, Int.reduceToNat, Nat.reduceBEq, tq1, tq2, tq3, r0, r3, r7, r8, r14, r15, r16, r32, r33]
                  rw [hpq, ← hv]
                  exact ⟨gr3.trans g6, rfl⟩
                · rw [if_neg (fun e => he (by have := e.2; cases this; rfl))] at hv
                  rw [decide_ne he]
                  simp (maxSteps := 10000000) (disch := omega) only [vq0, vq1, vq2, vq3, vq4, vq5, tagOf, reduceIte, reduceCtorEq, Nat.reduceEqDiff, Nat.reduceAdd, Nat.reduceSub, Nat.reduceMul, Nat.reduceLT, Nat.reduceLeDiff, Int.reduceToNat, Nat.reduceBEq, tq1, tq2, tq3, r0, r3, r7, r8, r14, r15, r16, r32, r33]
                  exact ⟨k - 1, by omega, i + 1, by omega, hv, rfl, q0, q1, gr3.trans g6, by omega⟩
              · rw [if_neg (fun e => hn (by have := e.2; cases this; rfl))] at hv
                unfold opC
                simp (maxSteps := 10000000) (disch := omega) only [vq0, vq1, vq2, vq3, vq4, vq5, tagOf, reduceIte, reduceCtorEq, Nat.reduceEqDiff, Nat.reduceAdd, Nat.reduceSub, Nat.reduceMul, Nat.reduceLT, Nat.reduceLeDiff, Int.reduceToNat, Nat.reduceBEq, tq1, tq2, tq3, r0, r3, r7, r8, r14, r15, r16, r32, r33, p0, p1, p2, hone]
                exact ⟨k - 1, by omega, i + 1, by omega, hv, rfl, gr3.trans (g4 _ _), by omega⟩
        · refine ⟨0, h'.next + 1, none, by omega, .inl rfl, ?_⟩
          simp (maxSteps := 10000000) (disch := omega) only [vq0, vq1, vq2, vq3, vq4, vq5, tagOf, reduceIte, reduceCtorEq, Nat.reduceEqDiff, Nat.reduceAdd, Nat.reduceSub, Nat.reduceMul, Nat.reduceLT, Nat.reduceLeDiff, Int.reduceToNat, Nat.reduceBEq, tq1, tq2, tq3, r0, r3, r14, r15, r16, m0, m1]
          exact ⟨rfl, rfl, rfl, rfl, Nat.le_refl _, by omega, (gnew _ _).more _⟩
      · simp (maxSteps := 10000000) (disch := omega) only [vq0, vq1, vq2, vq3, vq4, vq5, tagOf, reduceIte, reduceCtorEq, Nat.reduceEqDiff, Nat.reduceAdd, Nat.reduceSub, Nat.reduceMul, Nat.reduceLT, Nat.reduceLeDiff, Int.reduceToNat, Nat.reduceBEq, tq1, tq2, tq3, r0, r3, r14, r15, r16, m0, m1, f1', f2']
        rw [if_neg (fun e => hkd e.1)] at hv
        exact ⟨k - 1, by omega, i + 1, by omega, hv, rfl, rfl, gnew _ _, by omega⟩
    · have hv0 : printT c o = none := by rw [← hv, List.drop_of_length_le (show verbsT.length ≤ i from hi)]; rfl
      simp (maxSteps := 10000000) (disch := omega) only [vq0, vq1, vq2, vq3, vq4, vq5, tagOf, reduceIte, reduceCtorEq, Nat.reduceEqDiff, Nat.reduceAdd, Nat.reduceSub, Nat.reduceMul, Nat.reduceLT, Nat.reduceLeDiff, Int.reduceToNat, Nat.reduceBEq, tq1, tq2, tq3, r0, r3, r14, r15, r16, m0, m1]
      rw [hpq, hv0]
      exact ⟨gr, rfl⟩
  · refine ⟨0, by omega, hpo, ?_⟩
    simp (maxSteps := 10000000) (disch := omega) only [vq0, vq1, vq2, vq3, vq4, vq5, tagOf, reduceIte, reduceCtorEq, Nat.reduceEqDiff, Nat.reduceAdd, Nat.reduceSub, Nat.reduceMul, Nat.reduceLT, Nat.reduceLeDiff, Int.reduceToNat, Nat.reduceBEq, tq1, tq2, tq3]
    exact ⟨rfl, rfl, (Grow.new _ _).more _, Nat.le_refl _⟩
end Go.Proofs.YtkloflhiipebmaaDoor.C
