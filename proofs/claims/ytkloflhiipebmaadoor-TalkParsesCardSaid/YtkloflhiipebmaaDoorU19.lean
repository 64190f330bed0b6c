/- U19: the law of parsing: it answers true, whatever the line. -/
import Derived.Test.YtkloflhiipebmaaDoorU13
import Derived.Test.YtkloflhiipebmaaDoorU18
open Go Go.Vi Go.Tk
namespace Go.Proofs.YtkloflhiipebmaaDoor.C
set_option linter.unusedSimpArgs false
set_option maxRecDepth 100000
set_option maxHeartbeats 40000000
theorem num_in {y : List UInt8} (h : numB y = true) : inR (numV y) := by
  unfold numB at h
  unfold numV
  rcases hq : Lib.atoiAll y with v | _ | _
  · exact atoi_range hq
  · rw [hq] at h; cases h
  · rw [hq] at h; cases h
theorem hexS_half {d y : List UInt8} (h : hexS d = y) : d.length ≤ y.length := by
  subst h
  unfold hexS
  split
  · rename_i q; rw [List.isEmpty_iff.1 q]; simp
  · rw [hexL_len]; omega
theorem two_le {a b y : List UInt8} (h : a ++ 64 :: b = y) : a.length ≤ y.length ∧ b.length ≤ y.length := by
  subst h
  rw [List.length_append, List.length_cons]
  omega
theorem take_fit {o o' : TOp} {a : UInt8} {y : List UInt8} (h : takeT o a y = some o') (ok : OpOk o) (hy : y.length ≤ 1500) : OpOk o' := by
  obtain ⟨k1, k2, k3, k4, k5, k6, k7, k8, k9, k10⟩ := ok
  by_cases c105 : a.toNat = 105
  · obtain rfl : a = 105 := UInt8.toNat_inj.1 c105
    have e := take_i h
    subst e
    exact ⟨hy, k2, k3, k4, k5, k6, k7, k8, k9, k10⟩
  by_cases c118 : a.toNat = 118
  · obtain rfl : a = 118 := UInt8.toNat_inj.1 c118
    obtain ⟨x, b, rfl, e⟩ := take_v h
    by_cases hb : b = []
    · rw [if_pos hb] at e
      subst e hb
      exact ⟨hy, by simp, k3, k4, k5, k6, k7, k8, k9, k10⟩
    · rw [if_neg hb] at e
      have := two_le e
      exact ⟨by simp only; omega, by simp only; omega, k3, k4, k5, k6, k7, k8, k9, k10⟩
  by_cases c115 : a.toNat = 115
  · obtain rfl : a = 115 := UInt8.toNat_inj.1 c115
    obtain ⟨x, b, rfl, e⟩ := take_s h
    have := two_le e
    exact ⟨by simp only; omega, by simp only; omega, k3, k4, k5, k6, k7, k8, k9, k10⟩
  by_cases c112 : a.toNat = 112
  · obtain rfl : a = 112 := UInt8.toNat_inj.1 c112
    obtain ⟨x, b, rfl, e⟩ := take_p h
    have := two_le e
    exact ⟨k1, by simp only; omega, k3, by simp only; omega, k5, k6, k7, k8, k9, k10⟩
  by_cases c50 : a.toNat = 50
  · obtain rfl : a = 50 := UInt8.toNat_inj.1 c50
    obtain ⟨b, rfl, e⟩ := take_2 h
    refine ⟨k1, k2, ?_, k4, k5, k6, k7, k8, k9, k10⟩
    by_cases hb : b = []
    · subst hb; simp
    · rw [if_neg hb] at e; subst e; exact hy
  by_cases c100 : a.toNat = 100
  · obtain rfl : a = 100 := UInt8.toNat_inj.1 c100
    obtain ⟨b, rfl, e⟩ := take_d h
    have := hexS_half e
    exact ⟨k1, k2, k3, k4, by simp only; omega, k6, k7, k8, k9, k10⟩
  by_cases c109 : a.toNat = 109
  · obtain rfl : a = 109 := UInt8.toNat_inj.1 c109
    obtain ⟨b, rfl, e⟩ := take_m h
    exact ⟨k1, k2, k3, k4, k5, k6, k7, k8, k9, k10⟩
  have nm : ∀ q : TOp, (if numB y then some q else none) = some o' → inR (numV y) ∧ o' = q := fun q e => by
    split at e
    · rename_i hn; cases e; exact ⟨num_in hn, rfl⟩
    · cases e
  by_cases c97 : a.toNat = 97
  · obtain rfl : a = 97 := UInt8.toNat_inj.1 c97
    obtain ⟨hn, rfl⟩ := nm _ h
    exact ⟨k1, k2, k3, k4, k5, hn, k7, k8, k9, k10⟩
  by_cases c108 : a.toNat = 108
  · obtain rfl : a = 108 := UInt8.toNat_inj.1 c108
    obtain ⟨hn, rfl⟩ := nm _ h
    exact ⟨k1, k2, k3, k4, k5, k6, hn, k8, k9, k10⟩
  by_cases c122 : a.toNat = 122
  · obtain rfl : a = 122 := UInt8.toNat_inj.1 c122
    obtain ⟨hn, rfl⟩ := nm _ h
    exact ⟨k1, k2, k3, k4, k5, k6, k7, hn, k9, k10⟩
  by_cases c111 : a.toNat = 111
  · obtain rfl : a = 111 := UInt8.toNat_inj.1 c111
    obtain ⟨hn, rfl⟩ := nm _ h
    exact ⟨k1, k2, k3, k4, k5, k6, k7, k8, hn, k10⟩
  unfold takeT at h
  rw [if_neg c105, if_neg c118, if_neg c115, if_neg c112, if_neg c50, if_neg c100, if_neg c109, if_neg c97, if_neg c108, if_neg c122, if_neg c111] at h
  cases h
theorem takes_fit : ∀ (as' : List UInt8) (ws : List (List UInt8)) (o o' : TOp), takesT as' ws o = some o' → OpOk o → (∀ y ∈ ws, y.length ≤ 1500) → OpOk o'
  | [], ws, o, o', h, ok, hw => by rw [takesT_nil] at h; cases h; exact ok
  | a :: as', [], o, o', h, ok, hw => by cases h
  | a :: as', y :: ws, o, o', h, ok, hw => by
    rw [takesT] at h
    split at h
    · rename_i o1 h1
      exact takes_fit as' ws o1 o' h (take_fit h1 ok (hw y List.mem_cons_self)) fun x hx => hw x (List.mem_cons_of_mem _ hx)
    · cases h
theorem zin : inR 0 := ⟨by decide, by decide⟩
theorem parse_fit {l : List UInt8} {c : Int} {o : TOp} (h : parseT l = some (c, o)) (hl : l.length ≤ 1500) : inR c ∧ OpOk o := by
  unfold parseT at h
  have hw := words_le l
  split at h
  · rename_i c' x ws hq
    split at h
    · rename_i hn
      split at h
      · rename_i v hv
        split at h
        · rename_i o' ht
          cases h
          refine ⟨num_in hn, ?_⟩
          have hk := kinds_le v (verb_found hv).1
          refine takes_fit v.2.2 ws _ _ ht ⟨Nat.zero_le _, Nat.zero_le _, Nat.zero_le _, Nat.zero_le _, Nat.zero_le _, zin, zin, zin, zin, ?_⟩ fun y hy => ?_
          · unfold inR; simp only; omega
          · have := hw y (by rw [hq]; exact List.mem_cons_of_mem _ (List.mem_cons_of_mem _ hy))
            omega
        · cases h
      · cases h
    · cases h
  · cases h
theorem refSame_same (a b : TOp) (d1 d2 : Value) (h : Heap) (h1 : RowG h d1 a.data) (h2 : RowG h d2 b.data) (e : a = b) : Ret E f_laminaref25_Same [.agg ⟨opC a d1⟩, .agg ⟨opC b d2⟩] h (fun v h' => Grow h h' ∧ v = .bool true) := by
  refine (refSame_ok a b d1 d2 h h1 h2).mono ?_
  rintro v h' ⟨g, rfl⟩
  exact ⟨g, by rw [decide_eq_true e]⟩
theorem law_parses (l : List UInt8) (h : Heap) : Ret E f_laminalaw25_TalkParses [.string (strOf l)] h (fun v _ => v = .bool true) := by
  refine ret_fun is_laminalaw25_TalkParses (by simp) ?_
  unfold g_laminalaw25_TalkParses
  by_cases hl : l.length ≤ 1500
  · simp (maxSteps := 10000000) (disch := omega) only [vq0, vq1, vq2, vq3, vq4, vq5, tagOf, reduceIte, reduceCtorEq, Nat.reduceEqDiff, Nat.reduceAdd, Nat.reduceSub, Nat.reduceMul, Nat.reduceLT, Nat.reduceLeDiff, Int.reduceToNat, Nat.reduceBEq, tq1, tq2, tq3, alive_ret]
    refine (parse_ok l (by omega) h).mono ?_
    rintro v1 h1 ⟨g1, q1⟩
    unfold ParseQ at q1
    cases hp : parseT l with
    | none =>
      rw [hp] at q1
      subst q1
      unfold opC
      simp (maxSteps := 10000000) (disch := omega) only [vq0, vq1, vq2, vq3, vq4, vq5, tagOf, reduceIte, reduceCtorEq, Nat.reduceEqDiff, Nat.reduceAdd, Nat.reduceSub, Nat.reduceMul, Nat.reduceLT, Nat.reduceLeDiff, Int.reduceToNat, Nat.reduceBEq, tq1, tq2, tq3]
      refine (refParse_ok l (by omega) _).mono ?_
      rintro v2 h2 ⟨g2, q2⟩
      unfold RefQ at q2
      rw [hp] at q2
      subst q2
      have p1 := g2.get h1.next (Nat.lt_succ_self _)
      have hg1 : h1.next + 1 ≤ h2.next := g2.next
      unfold zC
      rw [get_set_same] at p1
      simp (maxSteps := 10000000) (disch := omega) only [vq0, vq1, vq2, vq3, vq4, vq5, tagOf, reduceIte, reduceCtorEq, Nat.reduceEqDiff, Nat.reduceAdd, Nat.reduceSub, Nat.reduceMul, Nat.reduceLT, Nat.reduceLeDiff, Int.reduceToNat, Nat.reduceBEq, tq1, tq2, tq3, p1]
      refine (refSame_same .zero .zero (.slice none 0 0) (.slice none 0 0) _ (.inl ⟨rfl, rfl⟩) (.inl ⟨rfl, rfl⟩) rfl).mono ?_
      rintro v3 h3 ⟨g3, rfl⟩
      simp (maxSteps := 10000000) (disch := omega) only [vq0, vq1, vq2, vq3, vq4, vq5, tagOf, reduceIte, reduceCtorEq, Nat.reduceEqDiff, Nat.reduceAdd, Nat.reduceSub, Nat.reduceMul, Nat.reduceLT, Nat.reduceLeDiff, Int.reduceToNat, Nat.reduceBEq, tq1, tq2, tq3, is_form]
    | some q =>
      obtain ⟨c, o⟩ := q
      rw [hp] at q1
      obtain ⟨d, rfl, hd⟩ := q1
      obtain ⟨hc, ok⟩ := parse_fit hp hl
      have hone : oneCell d = true := by rcases hd with ⟨rfl, _⟩ | ⟨_, _, rfl, _⟩ <;> rfl
      unfold opC
      simp (maxSteps := 10000000) (disch := omega) only [vq0, vq1, vq2, vq3, vq4, vq5, tagOf, reduceIte, reduceCtorEq, Nat.reduceEqDiff, Nat.reduceAdd, Nat.reduceSub, Nat.reduceMul, Nat.reduceLT, Nat.reduceLeDiff, Int.reduceToNat, Nat.reduceBEq, tq1, tq2, tq3, hone]
      refine (refParse_ok l (by omega) _).mono ?_
      rintro v2 h2 ⟨g2, q2⟩
      unfold RefQ at q2
      rw [hp] at q2
      obtain ⟨d2, rfl, hd2⟩ := q2
      have hone2 : oneCell d2 = true := by rcases hd2 with ⟨rfl, _⟩ | ⟨_, _, rfl, _⟩ <;> rfl
      have p1 := g2.get h1.next (Nat.lt_succ_self _)
      rw [get_set_same] at p1
      have p1' : h2.get h1.next = some (.cells (opC o d) true none) := p1
      have hg1 : h1.next + 1 ≤ h2.next := g2.next
      have g21 : Grow h1 h2 := ((Grow.new h1 _).set (Nat.le_refl _) _).trans g2
      have g4 : ∀ b x, Grow h2 ((h2.new b).set h2.next x) := fun b x => (Grow.new h2 b).set (Nat.le_refl _) x
      unfold opC
      simp (maxSteps := 10000000) (disch := omega) only [vq0, vq1, vq2, vq3, vq4, vq5, tagOf, reduceIte, reduceCtorEq, Nat.reduceEqDiff, Nat.reduceAdd, Nat.reduceSub, Nat.reduceMul, Nat.reduceLT, Nat.reduceLeDiff, Int.reduceToNat, Nat.reduceBEq, tq1, tq2, tq3, p1, hone2]
      refine (refSame_same o o d d2 _ (hd.g.grow (g21.trans (g4 _ _))) (hd2.g.grow (g4 _ _)) rfl).mono ?_
      rintro v3 h3 ⟨g3, rfl⟩
      have p3 := ((g4 _ _).trans g3).get h1.next hg1
      rw [p1] at p3
      simp (maxSteps := 10000000) (disch := omega) only [vq0, vq1, vq2, vq3, vq4, vq5, tagOf, reduceIte, reduceCtorEq, Nat.reduceEqDiff, Nat.reduceAdd, Nat.reduceSub, Nat.reduceMul, Nat.reduceLT, Nat.reduceLeDiff, Int.reduceToNat, Nat.reduceBEq, tq1, tq2, tq3, p3]
      refine (print_ok c o d h3 hc ok (hd.g.grow (g21.trans ((g4 _ _).trans g3)))).mono ?_
      rintro v4 h4 ⟨g4, q4⟩
      unfold PrintQ at q4
      rw [print_of_parse hp] at q4
      subst q4
      have hll : (l == l) = true := beq_self_eq_true _
      simp (maxSteps := 10000000) (disch := omega) only [vq0, vq1, vq2, vq3, vq4, vq5, tagOf, reduceIte, reduceCtorEq, Nat.reduceEqDiff, Nat.reduceAdd, Nat.reduceSub, Nat.reduceMul, Nat.reduceLT, Nat.reduceLeDiff, Int.reduceToNat, Nat.reduceBEq, tq1, tq2, tq3, hll]
  · simp (maxSteps := 10000000) (disch := omega) only [vq0, vq1, vq2, vq3, vq4, vq5, tagOf, reduceIte, reduceCtorEq, Nat.reduceEqDiff, Nat.reduceAdd, Nat.reduceSub, Nat.reduceMul, Nat.reduceLT, Nat.reduceLeDiff, Int.reduceToNat, Nat.reduceBEq, tq1, tq2, tq3, alive_ret]
end Go.Proofs.YtkloflhiipebmaaDoor.C
