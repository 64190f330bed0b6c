/- U7: a line, parsed. -/
import Derived.Test.YtijnnpbfgmmngaaGreatDoorU6
import Derived.Test.YtijnnpbfgmmngaaGreatDoorVgE
open Go Go.Vi Go.Tk
namespace Go.Proofs.YtijnnpbfgmmngaaGreatDoor.C
set_option linter.unusedSimpArgs false
set_option maxRecDepth 100000
set_option maxHeartbeats 40000000
def verbC (v : List UInt8 × Int × List UInt8) : List Value := [.string (strOf v.1), .int .i64 v.2.1, .string (strOf v.2.2)]
def verbsC : List Value := verbsT.flatMap verbC
theorem verbs_ok (h : Heap) (Q : Value → Heap → Prop) : Ret E f_talk_verbs [] h Q = Q (.slice (some ⟨h.next, 0, none⟩) 22 22) (h.new (.cells verbsC true none)) := by
  refine Ret.eq ?_ Q
  refine ret_fun is_talk_verbs (by simp) ?_
  unfold g_talk_verbs
  simp (maxSteps := 10000000) (disch := omega) only [vq0, vq1, vq2, vq3, vq4, vq5, tagOf, reduceIte, reduceCtorEq, Nat.reduceEqDiff, Nat.reduceAdd, Nat.reduceSub, Nat.reduceMul, Nat.reduceLT, Nat.reduceLeDiff, Int.reduceToNat, Nat.reduceBEq, tq1, tq2, tq3]
  rfl
theorem flat_cells : ∀ (l : List (List UInt8 × Int × List UInt8)) (i : Nat) (v : List UInt8 × Int × List UInt8), l[i]? = some v → i * 3 + 3 ≤ (l.flatMap verbC).length ∧ ((l.flatMap verbC).drop (i * 3)).take 3 = verbC v := by
  intro l
  induction l with
  | nil => intro i v h; simp at h
  | cons a l ih =>
    intro i v h
    cases i with
    | zero =>
      simp at h
      subst h
      refine ⟨?_, ?_⟩
      · rw [List.flatMap_cons, List.length_append]; show 0 * 3 + 3 ≤ 3 + _; omega
      · rw [List.flatMap_cons]; rfl
    | succ i =>
      obtain ⟨h1, h2⟩ := ih i v (by simpa using h)
      refine ⟨?_, ?_⟩
      · rw [List.flatMap_cons, List.length_append]; show (i + 1) * 3 + 3 ≤ 3 + _; omega
      · rw [List.flatMap_cons, ← h2, show (i + 1) * 3 = 3 + i * 3 from by omega]
        show List.take 3 (List.drop (3 + i * 3) (verbC a ++ List.flatMap verbC l)) = _
        rw [List.drop_append, List.drop_of_length_le (show (verbC a).length ≤ 3 + i * 3 by show 3 ≤ _; omega), List.nil_append]
        congr 2
        show 3 + i * 3 - 3 = _
        omega
def RowAt (h : Heap) (d : Value) (l : List UInt8) : Prop := (d = .slice none 0 0 ∧ l = []) ∨ ∃ c, c < h.next ∧ d = .slice (some ⟨c, 0, none⟩) l.length l.length ∧ h.get c = some (.cells (l.map byteV) true (some (1, t_uint8)))
theorem RowAt.grow {h h' : Heap} {d : Value} {l : List UInt8} (x : RowAt h d l) (g : Grow h h') : RowAt h' d l := by
  rcases x with x | ⟨c, hc, hd, hg⟩
  · exact .inl x
  · exact .inr ⟨c, Nat.lt_of_lt_of_le hc g.next, hd, by rw [g.get c hc]; exact hg⟩
theorem RowAt.of {h : Heap} {b : Nat} {d : Value} {l : List UInt8} (x : DataAt h b d l) : RowAt h d l := by
  rcases x with x | ⟨c, _, hc, hd, hg⟩
  · exact .inl x
  · exact .inr ⟨c, hc, hd, hg⟩
def ParseQ (l : List UInt8) (v : Value) (h' : Heap) : Prop := match parseT l with
  | some (c, o) => ∃ d, v = .tuple ⟨[.int .i64 c, .agg ⟨opC o d⟩, .nilIface]⟩ ∧ RowAt h' d o.data
  | none => v = .tuple ⟨[.int .i64 0, .agg ⟨opC .zero (.slice none 0 0)⟩, .iface t_api_Errno (.int .i64 2)]⟩
theorem texts_at {ws : List (List UInt8)} {i : Nat} {x : List UInt8} (h : ws[i]? = some x) : (textsV ws)[i]? = some (.string (strOf x)) := by
  unfold textsV
  rw [List.getElem?_map, h]
  rfl
theorem words_le (l : List UInt8) : ∀ x ∈ wordsL l, x.length ≤ l.length := by
  induction l with
  | nil => intro x hx; simp [wordsL] at hx; subst hx; exact Nat.le_refl _
  | cons b r ih =>
    intro x hx
    unfold wordsL at hx
    split at hx
    · rcases List.mem_cons.1 hx with rfl | hx
      · simp
      · have := ih x hx; simp; omega
    · split at hx
      · simp at hx; subst hx; simp
      · rename_i h t hw
        rcases List.mem_cons.1 hx with rfl | hx
        · have := ih h (by rw [hw]; exact List.mem_cons_self); simp; omega
        · have := ih x (by rw [hw]; exact List.mem_cons_of_mem _ hx); simp; omega
theorem parseQ_none {l : List UInt8} (hp : parseT l = none) (h : Heap) : ParseQ l (.tuple ⟨[.int .i64 0, .agg ⟨opC .zero (.slice none 0 0)⟩, .iface t_api_Errno (.int .i64 2)]⟩) h := by
  unfold ParseQ; rw [hp]
theorem parseQ_some {l : List UInt8} {c : Int} {o : TOp} {d : Value} {h : Heap} (hp : parseT l = some (c, o)) (hd : RowAt h d o.data) : ParseQ l (.tuple ⟨[.int .i64 c, .agg ⟨opC o d⟩, .nilIface]⟩) h := by
  unfold ParseQ; rw [hp]; exact ⟨d, rfl, hd⟩
theorem verb_out {x : List UInt8} {n : Nat} {v : List UInt8 × Int × List UInt8} {r : List (List UInt8 × Int × List UInt8)} (h : v.1 ≠ x ∨ n ≠ 2 + v.2.2.length) : verbOf x n (v :: r) = verbOf x n r := by
  rw [verbOf, if_neg]
  rintro ⟨a, b⟩
  rcases h with h | h
  · exact h a
  · exact h b
theorem verb_in {x : List UInt8} {n : Nat} {v : List UInt8 × Int × List UInt8} {r : List (List UInt8 × Int × List UInt8)} (h : v.1 = x) (hn : n = 2 + v.2.2.length) : verbOf x n (v :: r) = some v := by
  rw [verbOf, if_pos ⟨h, hn⟩]
def zC : List Value := [.int .i64 0, .string (strOf []), .string (strOf []), .string (strOf []), .string (strOf []), .int .i64 0, .int .i64 0, .int .i64 0, .int .i64 0, .slice none 0 0, .bool false]
theorem zC_eq : opC .zero (.slice none 0 0) = zC := rfl
theorem all_bytes (l : List UInt8) : (l.map byteV).all okByte = true := List.all_eq_true.2 fun x hx => by
  obtain ⟨b, _, rfl⟩ := List.mem_map.1 hx
  have := b.toNat_lt
  simp only [byteV, okByte, decide_eq_true_eq]
  omega
theorem wants_le : ∀ v ∈ verbsT, v.2.2.length ≤ 4 := by decide
theorem parse_ok (l : List UInt8) (hl : l.length ≤ 100000) (h : Heap) : Ret E f_talk_Parse [.string (strOf l)] h (fun v h' => Grow h h' ∧ ParseQ l v h') := by
  have hwl := words_le l
  refine ret_fun is_talk_Parse (by simp) ?_
  unfold g_talk_Parse
  simp (maxSteps := 10000000) (disch := omega) only [vq0, vq1, vq2, vq3, vq4, vq5, tagOf, reduceIte, reduceCtorEq, Nat.reduceEqDiff, Nat.reduceAdd, Nat.reduceSub, Nat.reduceMul, Nat.reduceLT, Nat.reduceLeDiff, Int.reduceToNat, Nat.reduceBEq, tq1, tq2, tq3, split_ret hl]
  have hwn := wordsL_ne l
  have pn := fun hp h => parseQ_none (l := l) hp h
  rw [zC_eq] at pn
  unfold zC at pn
  have ps := fun c o d h hp hd => parseQ_some (l := l) (c := c) (o := o) (d := d) (h := h) hp hd
  have hpt : parseT l = match wordsL l with
    | c :: x :: ws => if numB c then match verbOf x (2 + ws.length) verbsT with
        | some v => match takesT v.2.2 ws { TOp.zero with kind := v.2.1 } with
          | some o => some (numV c, o)
          | none => none
        | none => none
      else none
    | _ => none := rfl
  have hcnt : (wordsL l).length ≤ l.length + 1 := by rw [words_len]; have := List.count_le_length (a := (32 : UInt8)) (l := l); omega
  generalize wordsL l = ws at hwl hwn hpt hcnt ⊢
  generalize hP : ParseQ l = P at pn ps ⊢
  cases ws with
  | nil => exact absurd rfl hwn
  | cons c ws =>
    have hc := hwl c List.mem_cons_self
    have hc' : c.length ≤ 100000 := by omega
    have e0 : (textsV (c :: ws))[0]? = some (.string (strOf c)) := rfl
    have hlen : (textsV (c :: ws)).length = ws.length + 1 := by unfold textsV; simp
    have gr2 : ∀ o1 o2 o3, Grow h (((h.new o1).new o2).set h.next o3) := fun o1 o2 o3 => (((Grow.new h o1).more o2)).set (Nat.le_refl _) o3
    simp (maxSteps := 10000000) (disch := omega) only [vq0, vq1, vq2, vq3, vq4, vq5, tagOf, reduceIte, reduceCtorEq, Nat.reduceEqDiff, Nat.reduceAdd, Nat.reduceSub, Nat.reduceMul, Nat.reduceLT, Nat.reduceLeDiff, Int.reduceToNat, Nat.reduceBEq, tq1, tq2, tq3, e0, number_ret hc']
    cases hnum : numB c with
    | false =>
      have hp0 : parseT l = none := by
        rw [hpt]
        cases ws with
        | nil => rfl
        | cons x ws => simp only [hnum]; rfl
      simp (maxSteps := 10000000) (disch := omega) only [vq0, vq1, vq2, vq3, vq4, vq5, tagOf, reduceIte, reduceCtorEq, Nat.reduceEqDiff, Nat.reduceAdd, Nat.reduceSub, Nat.reduceMul, Nat.reduceLT, Nat.reduceLeDiff, Int.reduceToNat, Nat.reduceBEq, tq1, tq2, tq3]
      exact ⟨gr2 _ _ _, pn hp0 _⟩
    | true =>
      cases ws with
      | nil =>
        simp (maxSteps := 10000000) (disch := omega) only [vq0, vq1, vq2, vq3, vq4, vq5, tagOf, reduceIte, reduceCtorEq, Nat.reduceEqDiff, Nat.reduceAdd, Nat.reduceSub, Nat.reduceMul, Nat.reduceLT, Nat.reduceLeDiff, Int.reduceToNat, Nat.reduceBEq, tq1, tq2, tq3]
        exact ⟨gr2 _ _ _, pn hpt _⟩
      | cons x ws =>
        simp only [hnum, if_true] at hpt
        have hcw : ws.length ≤ 100000 := by simp at hcnt; omega
        simp (maxSteps := 10000000) (disch := omega) only [vq0, vq1, vq2, vq3, vq4, vq5, tagOf, reduceIte, reduceCtorEq, Nat.reduceEqDiff, Nat.reduceAdd, Nat.reduceSub, Nat.reduceMul, Nat.reduceLT, Nat.reduceLeDiff, Int.reduceToNat, Nat.reduceBEq, tq1, tq2, tq3, verbs_ok]
        refine r_loop (k := 22) (fun k ρ h' => ∃ i, i + k = 22 ∧ verbOf x (2 + ws.length) (verbsT.drop i) = verbOf x (2 + ws.length) verbsT ∧ ρ 3 = .pointer (some ⟨h.next, 0, none⟩) ∧ ρ 5 = .slice (some ⟨h.next + 1, 0, none⟩) (ws.length + 2) (ws.length + 2) ∧ ρ 6 = .int .i64 (numV c) ∧
          ρ 30 = .slice (some ⟨h.next + 2, 0, none⟩) 22 22 ∧ ρ 31 = .int .i64 22 ∧ ρ 32 = .int .i64 (i : Int) ∧ h'.get h.next = some (.cells zC true none) ∧ h'.get (h.next + 1) = some (.cells (textsV (c :: x :: ws)) true none) ∧
          h'.get (h.next + 2) = some (.cells verbsC true none) ∧ Grow h h' ∧ h.next + 3 ≤ h'.next) ?_ ?_
        · rintro k ρ h' ⟨i, hk, hv, r3, r5, r6, r30, r31, r32, m0, m1, m2, gr, hnx⟩
          unfold g_talk_Parse_L1
          unfold zC at m0
          rcases Nat.lt_or_ge i 22 with hi | hi
          · have hvl : verbsT.length = 22 := rfl
            have hvi : verbsT[i]? = some verbsT[i] := List.getElem?_eq_getElem (by omega)
            obtain ⟨f1, f2⟩ := flat_cells verbsT i _ hvi
            rw [List.drop_eq_getElem_cons (by omega)] at hv
            have hw4 := wants_le verbsT[i] (List.getElem_mem _)
            generalize verbsT[i] = v at hvi f2 hv hw4
            have f1' : i * 3 + 3 ≤ verbsC.length := f1
            have f2' : (verbsC.drop (i * 3)).take 3 = verbC v := f2
            unfold verbC at f2'
            have e1 : (textsV (c :: x :: ws))[1]? = some (.string (strOf x)) := rfl
            have gnew : ∀ o1 o2 : Blk, Grow h ((h'.new o1).set h'.next o2) := fun o1 o2 => (gr.more o1).set (by omega) o2
            by_cases hx : v.1 = x
            · have hxb : (v.1 == x) = true := by rw [hx]; simp
              by_cases hn : v.2.2.length = ws.length
              · have hin := verb_in (r := verbsT.drop (i + 1)) hx (show 2 + ws.length = 2 + v.2.2.length by omega)
                rw [hin] at hv
                rw [← hv] at hpt
                simp only at hpt
                simp (maxSteps := 10000000) (disch := omega) only [vq0, vq1, vq2, vq3, vq4, vq5, tagOf, reduceIte, reduceCtorEq, Nat.reduceEqDiff, Nat.reduceAdd, Nat.reduceSub, Nat.reduceMul, Nat.reduceLT, Nat.reduceLeDiff, Int.reduceToNat, Nat.reduceBEq, tq1, tq2, tq3, r3, r5, r6, r30, r31, r32, m0, m1, m2, f1', f2', e1, hxb]
                refine r_loop (k := ws.length) (fun k ρ h2 => ∃ i2 o d, i2 + k = ws.length ∧ takesT (v.2.2.drop i2) (ws.drop i2) o = takesT v.2.2 ws { TOp.zero with kind := v.2.1 } ∧ ρ 3 = .pointer (some ⟨h.next, 0, none⟩) ∧ ρ 5 = .slice (some ⟨h.next + 1, 0, none⟩) (ws.length + 2) (ws.length + 2) ∧ ρ 6 = .int .i64 (numV c) ∧
                  ρ 9 = .pointer (some ⟨h'.next, 0, none⟩) ∧ ρ 10 = .pointer (some ⟨h'.next + 1, 0, none⟩) ∧ ρ 56 = .int .i64 (ws.length : Int) ∧ ρ 57 = .int .i64 (i2 : Int) ∧ h2.get h.next = some (.cells zC true none) ∧ h2.get (h.next + 1) = some (.cells (textsV (c :: x :: ws)) true none) ∧
                  h2.get h'.next = some (.cells (verbC v) true none) ∧ h2.get (h'.next + 1) = some (.cells (opC o d) true none) ∧ DataAt h2 (h'.next + 1) d o.data ∧ Grow h h2 ∧ h'.next + 2 ≤ h2.next) ?_ ?_
                · rintro k2 ρ h2 ⟨i2, o, d, hk2, ht, r3, r5, r6, r9, r10, r56, r57, n0, n1, n2, n3, hd, gr2, hnx2⟩
                  unfold g_talk_Parse_L0
                  rcases Nat.lt_or_ge i2 ws.length with hi2 | hi2
                  · have ha : v.2.2[i2]? = some v.2.2[i2] := List.getElem?_eq_getElem (by omega)
                    have hy : ws[i2]? = some ws[i2] := List.getElem?_eq_getElem hi2
                    have hyl : ws[i2].length ≤ 100000 := by have := hwl ws[i2] (List.mem_cons_of_mem _ (List.mem_cons_of_mem _ (List.getElem_mem _))); omega
                    rw [List.drop_eq_getElem_cons (show i2 < v.2.2.length by omega), List.drop_eq_getElem_cons hi2, takesT] at ht
                    generalize v.2.2[i2] = a at ha ht
                    generalize ws[i2] = y at hy hyl ht
                    have ia : v.2.2[((i2 : Int)).toNat]? = some a := by rw [Int.toNat_natCast]; exact ha
                    have iy : (textsV (c :: x :: ws))[((2 : Int) + (i2 : Int)).toNat]? = some (.string (strOf y)) := by
                      rw [show ((2 : Int) + (i2 : Int)).toNat = i2 + 2 from by omega]
                      exact texts_at (by simpa using hy)
                    have n2' := n2
                    unfold verbC at n2
                    simp (maxSteps := 10000000) (disch := omega) only [vq0, vq1, vq2, vq3, vq4, vq5, tagOf, reduceIte, reduceCtorEq, Nat.reduceEqDiff, Nat.reduceAdd, Nat.reduceSub, Nat.reduceMul, Nat.reduceLT, Nat.reduceLeDiff, Int.reduceToNat, Nat.reduceBEq, tq1, tq2, tq3, r3, r5, r6, r9, r10, r56, r57, n0, n1, n2, ia, iy, byteV_at]
                    refine (take_ok (h'.next + 1) o d a y hyl h2 (by omega) n3 hd).mono ?_
                    rintro v3 h3 ⟨g3, hm⟩
                    have p0 := g3.get h.next (by omega) (by omega)
                    have p1 := g3.get (h.next + 1) (by omega) (by omega)
                    have p2 := g3.get h'.next (by omega) (by omega)
                    have g4 : Grow h h3 := ⟨Nat.le_trans gr2.next g3.next, fun b hb => (g3.get b (by have := gr2.next; omega) (by have := gr.next; omega)).trans (gr2.get b hb)⟩
                    have hnx3 := g3.next
                    cases hta : takeT o a y with
                    | none =>
                      rw [hta] at hm ht
                      subst hm
                      rw [← ht] at hpt
                      unfold zC at n0
                      rw [n0] at p0
                      simp (maxSteps := 10000000) (disch := omega) only [vq0, vq1, vq2, vq3, vq4, vq5, tagOf, reduceIte, reduceCtorEq, Nat.reduceEqDiff, Nat.reduceAdd, Nat.reduceSub, Nat.reduceMul, Nat.reduceLT, Nat.reduceLeDiff, Int.reduceToNat, Nat.reduceBEq, tq1, tq2, tq3, r3, r5, r6, r9, r10, r56, r57, p0, n1, n2, iy, veq_str]
                      exact ⟨g4.set (Nat.le_refl _) _, pn hpt _⟩
                    | some o' =>
                      rw [hta] at hm ht
                      obtain ⟨rfl, d', q1, q2⟩ := hm
                      simp only at ht
                      simp (maxSteps := 10000000) (disch := omega) only [vq0, vq1, vq2, vq3, vq4, vq5, tagOf, reduceIte, reduceCtorEq, Nat.reduceEqDiff, Nat.reduceAdd, Nat.reduceSub, Nat.reduceMul, Nat.reduceLT, Nat.reduceLeDiff, Int.reduceToNat, Nat.reduceBEq, tq1, tq2, tq3, r3, r5, r6, r9, r10, r56, r57, n1, n2, iy]
                      exact ⟨k2 - 1, by omega, i2 + 1, o', d', by omega, ht, rfl, by rw [p0, n0], by rw [p1, n1], by rw [p2, n2'], q1, q2, g4, by omega⟩
                  · have hi3 : i2 = ws.length := by omega
                    subst hi3
                    rw [List.drop_of_length_le (by omega), takesT] at ht
                    rw [← ht] at hpt
                    have hps := fun h3 hd => ps (numV c) o d h3 hpt hd
                    unfold opC at n3 hps
                    unfold zC at n0
                    have hq : ∀ l : List Value, RowAt (h2.set h.next (.cells l true none)) d o.data := fun l => by
                      rcases hd with ⟨q1, q2⟩ | ⟨cc, q1, q2, q3, q4⟩
                      · exact .inl ⟨q1, q2⟩
                      · refine .inr ⟨cc, q2, q3, ?_⟩
                        rw [get_set_ne]
                        · exact q4
                        · rintro rfl
                          rw [n0] at q4
                          have e1 := Option.some.inj q4
                          injection e1 with e1
                          have := all_bytes o.data
                          rw [← e1] at this
                          simp [okByte] at this
                    rcases hd with ⟨rfl, q2⟩ | ⟨cc, q1, q2, rfl, q4⟩
                    · simp (maxSteps := 10000000) (disch := omega) only [vq0, vq1, vq2, vq3, vq4, vq5, tagOf, reduceIte, reduceCtorEq, Nat.reduceEqDiff, Nat.reduceAdd, Nat.reduceSub, Nat.reduceMul, Nat.reduceLT, Nat.reduceLeDiff, Int.reduceToNat, Nat.reduceBEq, tq1, tq2, tq3, r3, r5, r6, r9, r10, r56, r57, n0, n1, n3]
                      exact ⟨gr2.set (Nat.le_refl _) _, hps _ (hq _)⟩
                    · simp (maxSteps := 10000000) (disch := omega) only [vq0, vq1, vq2, vq3, vq4, vq5, tagOf, reduceIte, reduceCtorEq, Nat.reduceEqDiff, Nat.reduceAdd, Nat.reduceSub, Nat.reduceMul, Nat.reduceLT, Nat.reduceLeDiff, Int.reduceToNat, Nat.reduceBEq, tq1, tq2, tq3, r3, r5, r6, r9, r10, r56, r57, n0, n1, n3]
                      exact ⟨gr2.set (Nat.le_refl _) _, hps _ (hq _)⟩
                · refine ⟨0, { TOp.zero with kind := v.2.1 }, .slice none 0 0, by omega, rfl, ?_⟩
                  simp (maxSteps := 10000000) (disch := omega) only [vq0, vq1, vq2, vq3, vq4, vq5, tagOf, reduceIte, reduceCtorEq, Nat.reduceEqDiff, Nat.reduceAdd, Nat.reduceSub, Nat.reduceMul, Nat.reduceLT, Nat.reduceLeDiff, Int.reduceToNat, Nat.reduceBEq, tq1, tq2, tq3, r3, r5, r6, m0, m1]
                  exact ⟨by rw [hn], rfl, rfl, rfl, rfl, .inl ⟨rfl, rfl⟩, ((gnew _ _).more _).set (by omega) _, by omega⟩
              · simp (maxSteps := 10000000) (disch := omega) only [vq0, vq1, vq2, vq3, vq4, vq5, tagOf, reduceIte, reduceCtorEq, Nat.reduceEqDiff, Nat.reduceAdd, Nat.reduceSub, Nat.reduceMul, Nat.reduceLT, Nat.reduceLeDiff, Int.reduceToNat, Nat.reduceBEq, tq1, tq2, tq3, r3, r5, r6, r30, r31, r32, m0, m1, m2, f1', f2', e1, hxb]
                exact ⟨k - 1, by omega, i + 1, by omega, by rw [← hv, verb_out (.inr (by omega))], rfl, rfl, gnew _ _, by omega⟩
            · have hxb : (v.1 == x) = false := by rw [beq_eq_false_iff_ne]; exact hx
              simp (maxSteps := 10000000) (disch := omega) only [vq0, vq1, vq2, vq3, vq4, vq5, tagOf, reduceIte, reduceCtorEq, Nat.reduceEqDiff, Nat.reduceAdd, Nat.reduceSub, Nat.reduceMul, Nat.reduceLT, Nat.reduceLeDiff, Int.reduceToNat, Nat.reduceBEq, tq1, tq2, tq3, r3, r5, r6, r30, r31, r32, m0, m1, m2, f1', f2', e1, hxb]
              exact ⟨k - 1, by omega, i + 1, by omega, by rw [← hv, verb_out (.inl hx)], rfl, rfl, gnew _ _, by omega⟩
          · have hv0 : verbOf x (2 + ws.length) verbsT = none := by rw [← hv, List.drop_of_length_le (show verbsT.length ≤ i from hi)]; rfl
            rw [hv0] at hpt
            simp (maxSteps := 10000000) (disch := omega) only [vq0, vq1, vq2, vq3, vq4, vq5, tagOf, reduceIte, reduceCtorEq, Nat.reduceEqDiff, Nat.reduceAdd, Nat.reduceSub, Nat.reduceMul, Nat.reduceLT, Nat.reduceLeDiff, Int.reduceToNat, Nat.reduceBEq, tq1, tq2, tq3, r3, r5, r6, r30, r31, r32, m0, m1, m2]
            exact ⟨gr.set (Nat.le_refl _) _, pn hpt _⟩
        · refine ⟨0, by omega, rfl, ?_⟩
          simp (maxSteps := 10000000) (disch := omega) only [vq0, vq1, vq2, vq3, vq4, vq5, tagOf, reduceIte, reduceCtorEq, Nat.reduceEqDiff, Nat.reduceAdd, Nat.reduceSub, Nat.reduceMul, Nat.reduceLT, Nat.reduceLeDiff, Int.reduceToNat, Nat.reduceBEq, tq1, tq2, tq3]
          exact ⟨rfl, rfl, rfl, ((Grow.new _ _).more _).more _, by omega⟩
end Go.Proofs.YtijnnpbfgmmngaaGreatDoor.C
