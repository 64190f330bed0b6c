/- N2: the law of lines without a hall: it answers true, whatever the lines. -/
import Derived.Test.YtijnnpbfgmmngaaGreatDoorN1
open Go Go.Vi Go.Tk
namespace Go.Proofs.YtijnnpbfgmmngaaGreatDoor.C
set_option linter.unusedSimpArgs false
set_option maxRecDepth 100000
set_option maxHeartbeats 40000000
def Want (h0 h : Heap) (b : Nat) (w : Value) (m : List (List UInt8)) : Prop := (m = [] ∧ w = .slice (some ⟨b, 0, none⟩) 0 0 ∧ h.get b = some (.cells [] true none)) ∨ Own h0 h 1 t_string w (textsV m)
theorem Want.row {h0 h : Heap} {b : Nat} {w : Value} {m : List (List UInt8)} (x : Want h0 h b w m) (hb : b < h.next) : RowV h 1 w (textsV m) := by
  rcases x with ⟨rfl, rfl, hg⟩ | o
  · exact RowV.own hb (Nat.le_refl _) hg (by simp)
  · exact o.row
theorem Want.push {h0 h hX : Heap} {b : Nat} {w : Value} {m : List (List UInt8)} (x : Want h0 h b w m) (hb : b < h.next) (g : Grow h0 h) (gX : Grow h hX) (hm : m.length ≤ 100000) (s : List UInt8) :
    ∃ w' hY, appendV E t_s_string (some t_s_string) w (.slice (some ⟨hX.next, 0, none⟩) 1 1) (hX.new (.cells [.string (strOf s)] true none)) = some (w', hY) ∧ Want h0 hY b w' (m ++ [s]) ∧ Grow h0 hY ∧ b < hY.next := by
  have nX := gX.next
  rcases x with ⟨rfl, rfl, hg⟩ | o
  · have hd : RowV (hX.new (.cells [.string (strOf s)] true none)) 1 (.slice (some ⟨hX.next, 0, none⟩) 1 1) [.string (strOf s)] := RowV.own (row := [.string (strOf s)]) (w := true) (p := none) (Nat.lt_succ_self _) (Nat.le_refl _) (get_new_same _ _) (Nat.le_refl _)
    have hgb : (hX.new (.cells [.string (strOf s)] true none)).get b = some (.cells [] true none) := by rw [get_new_ne (by omega), gX.get b hb, hg]
    have ha := app_own0 sl_s_string okSrc_str (wr := true) hd rfl Nat.one_pos rfl hgb (by decide) (by decide)
    refine ⟨_, _, ha, .inr (.inr ⟨_, 1, rfl, Nat.one_pos, rfl, ?_, Nat.lt_succ_self _, get_new_same _ _⟩), ((g.trans gX).more _).more _, ?_⟩
    · have := (g.trans gX).next
      show h0.next ≤ hX.next + 1
      omega
    · show b < hX.next + 1 + 1
      omega
  · obtain ⟨w', hY, q1, q2, q3, q4, _⟩ := own_app sl_s_string okSrc_str (h := hX.new (.cells [.string (strOf s)] true none)) (o.grow (gX.trans (.new hX _))) ((g.trans gX).more _) (b2 := hX.next) (o2 := 0) (n := 1) (c2 := 1) (new := [.string (strOf s)]) (by simp (maxSteps := 10000000) (disch := omega) only [vq0, vq1, vq2, vq3, vq4, vq5, tagOf, reduceIte, reduceCtorEq, Nat.reduceEqDiff, Nat.reduceAdd, Nat.reduceSub, Nat.reduceMul, Nat.reduceLT, Nat.reduceLeDiff, Int.reduceToNat, Nat.reduceBEq, tq1, tq2, tq3]) (by omega) rfl (by rw [textsV_len]; simp; omega) (by decide)
    refine ⟨w', hY, q1, .inr (by rw [textsV_append]; exact q2), q3, ?_⟩
    rw [q4]
    show b < hX.next + 1 + 1
    omega
theorem law_none (v : Value) (l : List (List UInt8)) (h : Heap) (hv : RowV h 1 v (textsV l)) : Ret E f_laminalaw25_TalkNone [v] h (fun u _ => u = .bool true) := by
  refine ret_fun is_laminalaw25_TalkNone (by simp) ?_
  unfold g_laminalaw25_TalkNone
  obtain ⟨a1, c1, hv1⟩ := texts_is hv
  rw [hv1]
  simp (maxSteps := 10000000) (disch := omega) only [vq0, vq1, vq2, vq3, vq4, vq5, tagOf, reduceIte, reduceCtorEq, Nat.reduceEqDiff, Nat.reduceAdd, Nat.reduceSub, Nat.reduceMul, Nat.reduceLT, Nat.reduceLeDiff, Int.reduceToNat, Nat.reduceBEq, tq1, tq2, tq3, alive_ret]
  refine r_loop (k := l.length) (fun k ρ h' => ∃ (i : Nat) (w : Value), i + k = l.length ∧ i ≤ 21 ∧ (∀ s ∈ l.take i, s.length ≤ 900) ∧ ρ 0 = v ∧ ρ 3 = w ∧ ρ 12 = v ∧ ρ 13 = .int .i64 l.length ∧ ρ 14 = .int .i64 (i : Int) ∧ Want h h' h.next w ((l.take i).map ansL) ∧ Grow h h' ∧ h.next < h'.next) ?_ ?_
  · rintro k ρ h' ⟨i, w, hk, hi21, hsm, r0, r3, r12, r13, r14, ow, g, hlt⟩
    unfold g_laminalaw25_TalkNone_L0
    rcases Nat.lt_or_ge i l.length with hi | hi
    · have hx := List.getElem?_eq_getElem hi
      obtain ⟨b1, o1, d1, e1, hb1, q1⟩ := texts_elem (hv.grow g) hx
      have htk : (l.take (i + 1)).map ansL = (l.take i).map ansL ++ [ansL l[i]] := by rw [List.take_add_one, hx, List.map_append]; rfl
      have htl : ∀ s ∈ l.take (i + 1), s ∈ l.take i ∨ s = l[i] := fun s hs => by
        rw [List.take_add_one, hx] at hs
        rcases List.mem_append.1 hs with hs | hs
        · exact .inl hs
        · exact .inr (by simpa using hs)
      have hil : ((l.take i).map ansL).length ≤ 100000 := by rw [List.length_map, List.length_take]; omega
      generalize l[i] = x at hx q1 htk htl
      rw [e1] at r12
      by_cases h20 : (i : Int) > 20
      · simp (maxSteps := 10000000) (disch := omega) only [vq0, vq1, vq2, vq3, vq4, vq5, tagOf, reduceIte, reduceCtorEq, Nat.reduceEqDiff, Nat.reduceAdd, Nat.reduceSub, Nat.reduceMul, Nat.reduceLT, Nat.reduceLeDiff, Int.reduceToNat, Nat.reduceBEq, tq1, tq2, tq3, r0, r3, r12, r13, r14, q1]
      · by_cases h900 : (x.length : Int) > 900
        · simp (maxSteps := 10000000) (disch := omega) only [vq0, vq1, vq2, vq3, vq4, vq5, tagOf, reduceIte, reduceCtorEq, Nat.reduceEqDiff, Nat.reduceAdd, Nat.reduceSub, Nat.reduceMul, Nat.reduceLT, Nat.reduceLeDiff, Int.reduceToNat, Nat.reduceBEq, tq1, tq2, tq3, r0, r3, r12, r13, r14, q1]
        · have hsm' : ∀ s ∈ l.take (i + 1), s.length ≤ 900 := fun s hs => by
            rcases htl s hs with hs | rfl
            · exact hsm s hs
            · omega
          simp (maxSteps := 10000000) (disch := omega) only [vq0, vq1, vq2, vq3, vq4, vq5, tagOf, reduceIte, reduceCtorEq, Nat.reduceEqDiff, Nat.reduceAdd, Nat.reduceSub, Nat.reduceMul, Nat.reduceLT, Nat.reduceLeDiff, Int.reduceToNat, Nat.reduceBEq, tq1, tq2, tq3, r0, r3, r12, r13, r14, q1]
          refine (refParse_ok x (by omega) h').mono ?_
          rintro v1 h1 ⟨g1, q⟩
          unfold RefQ at q
          have hA : ansL x = match parseT x with
            | some _ => stateL
            | none => formL := rfl
          cases hp : parseT x with
          | none =>
            rw [hp] at q hA
            subst q
            rw [hA] at htk
            unfold zC
            obtain ⟨w', hY, happ, q4, q5, q6⟩ := ow.push hlt g (hX := (h1.new (.cells [.int .i64 0, .string (strOf []), .string (strOf []), .string (strOf []), .string (strOf []), .int .i64 0, .int .i64 0, .int .i64 0, .int .i64 0, .slice none 0 0, .bool false] true none)).set h1.next (.cells [.int .i64 0, .string (strOf []), .string (strOf []), .string (strOf []), .string (strOf []), .int .i64 0, .int .i64 0, .int .i64 0, .int .i64 0, .slice none 0 0, .bool false] true none)) (g1.trans ((Grow.new h1 _).set (Nat.le_refl _) _)) hil formL
            have e1x : ((h1.new (.cells [.int .i64 0, .string (strOf []), .string (strOf []), .string (strOf []), .string (strOf []), .int .i64 0, .int .i64 0, .int .i64 0, .int .i64 0, .slice none 0 0, .bool false] true none)).set h1.next (.cells [.int .i64 0, .string (strOf []), .string (strOf []), .string (strOf []), .string (strOf []), .int .i64 0, .int .i64 0, .int .i64 0, .int .i64 0, .slice none 0 0, .bool false] true none)).next = h1.next + 1 := rfl
            rw [e1x] at happ
            unfold formL at happ
            simp (maxSteps := 10000000) (disch := omega) only [vq0, vq1, vq2, vq3, vq4, vq5, tagOf, reduceIte, reduceCtorEq, Nat.reduceEqDiff, Nat.reduceAdd, Nat.reduceSub, Nat.reduceMul, Nat.reduceLT, Nat.reduceLeDiff, Int.reduceToNat, Nat.reduceBEq, tq1, tq2, tq3, r0, r3, r12, r13, r14]
            rw [happ]
            simp (maxSteps := 10000000) (disch := omega) only [vq0, vq1, vq2, vq3, vq4, vq5, tagOf, reduceIte, reduceCtorEq, Nat.reduceEqDiff, Nat.reduceAdd, Nat.reduceSub, Nat.reduceMul, Nat.reduceLT, Nat.reduceLeDiff, Int.reduceToNat, Nat.reduceBEq, tq1, tq2, tq3, r0, r3, r12, r13, r14]
            exact ⟨k - 1, by omega, i + 1, w', by omega, by omega, hsm', rfl, e1.symm, rfl, by rw [htk]; exact q4, q5, q6⟩
          | some co =>
            obtain ⟨c, o⟩ := co
            rw [hp] at q hA
            simp only at q
            rw [hA] at htk
            obtain ⟨d, rfl, hd⟩ := q
            have hone : oneCell d = true := by rcases hd with ⟨rfl, _⟩ | ⟨_, _, rfl, _⟩ <;> rfl
            have ho : opC o d = [.int .i64 o.kind, .string (strOf o.image), .string (strOf o.snap), .string (strOf o.snap2), .string (strOf o.parent), .int .i64 o.at_, .int .i64 o.len, .int .i64 o.size, .int .i64 o.object, d, .bool o.on] := rfl
            rw [ho]
            obtain ⟨w', hY, happ, q4, q5, q6⟩ := ow.push hlt g (hX := (h1.new (.cells [.int .i64 0, .string (strOf []), .string (strOf []), .string (strOf []), .string (strOf []), .int .i64 0, .int .i64 0, .int .i64 0, .int .i64 0, .slice none 0 0, .bool false] true none)).set h1.next (.cells [.int .i64 o.kind, .string (strOf o.image), .string (strOf o.snap), .string (strOf o.snap2), .string (strOf o.parent), .int .i64 o.at_, .int .i64 o.len, .int .i64 o.size, .int .i64 o.object, d, .bool o.on] true none)) (g1.trans ((Grow.new h1 _).set (Nat.le_refl _) _)) hil stateL
            have e1x : ((h1.new (.cells [.int .i64 0, .string (strOf []), .string (strOf []), .string (strOf []), .string (strOf []), .int .i64 0, .int .i64 0, .int .i64 0, .int .i64 0, .slice none 0 0, .bool false] true none)).set h1.next (.cells [.int .i64 o.kind, .string (strOf o.image), .string (strOf o.snap), .string (strOf o.snap2), .string (strOf o.parent), .int .i64 o.at_, .int .i64 o.len, .int .i64 o.size, .int .i64 o.object, d, .bool o.on] true none)).next = h1.next + 1 := rfl
            rw [e1x] at happ
            unfold stateL at happ
            simp (maxSteps := 10000000) (disch := omega) only [vq0, vq1, vq2, vq3, vq4, vq5, tagOf, reduceIte, reduceCtorEq, Nat.reduceEqDiff, Nat.reduceAdd, Nat.reduceSub, Nat.reduceMul, Nat.reduceLT, Nat.reduceLeDiff, Int.reduceToNat, Nat.reduceBEq, tq1, tq2, tq3, r0, r3, r12, r13, r14, hone]
            rw [happ]
            simp (maxSteps := 10000000) (disch := omega) only [vq0, vq1, vq2, vq3, vq4, vq5, tagOf, reduceIte, reduceCtorEq, Nat.reduceEqDiff, Nat.reduceAdd, Nat.reduceSub, Nat.reduceMul, Nat.reduceLT, Nat.reduceLeDiff, Int.reduceToNat, Nat.reduceBEq, tq1, tq2, tq3, r0, r3, r12, r13, r14]
            exact ⟨k - 1, by omega, i + 1, w', by omega, by omega, hsm', rfl, e1.symm, rfl, by rw [htk]; exact q4, q5, q6⟩
    · rw [List.take_of_length_le hi] at ow hsm
      simp (maxSteps := 10000000) (disch := omega) only [vq0, vq1, vq2, vq3, vq4, vq5, tagOf, reduceIte, reduceCtorEq, Nat.reduceEqDiff, Nat.reduceAdd, Nat.reduceSub, Nat.reduceMul, Nat.reduceLT, Nat.reduceLeDiff, Int.reduceToNat, Nat.reduceBEq, tq1, tq2, tq3, r0, r3, r12, r13, r14]
      refine (talk_ok v l h' (hv.grow g) (by omega) hsm).mono ?_
      rintro u h2 ⟨g2, hu⟩
      simp (maxSteps := 10000000) (disch := omega) only [vq0, vq1, vq2, vq3, vq4, vq5, tagOf, reduceIte, reduceCtorEq, Nat.reduceEqDiff, Nat.reduceAdd, Nat.reduceSub, Nat.reduceMul, Nat.reduceLT, Nat.reduceLeDiff, Int.reduceToNat, Nat.reduceBEq, tq1, tq2, tq3, r0, r3, r12, r13, r14]
      exact (sameT_ok u w _ h2 hu ((ow.row hlt).grow g2) (by rw [List.length_map]; omega)).mono fun _ _ e => by simp (maxSteps := 10000000) (disch := omega) only [vq0, vq1, vq2, vq3, vq4, vq5, tagOf, reduceIte, reduceCtorEq, Nat.reduceEqDiff, Nat.reduceAdd, Nat.reduceSub, Nat.reduceMul, Nat.reduceLT, Nat.reduceLeDiff, Int.reduceToNat, Nat.reduceBEq, tq1, tq2, tq3, e]
  · exact ⟨0, _, by omega, by omega, by simp, by simp (maxSteps := 10000000) (disch := omega) only [vq0, vq1, vq2, vq3, vq4, vq5, tagOf, reduceIte, reduceCtorEq, Nat.reduceEqDiff, Nat.reduceAdd, Nat.reduceSub, Nat.reduceMul, Nat.reduceLT, Nat.reduceLeDiff, Int.reduceToNat, Nat.reduceBEq, tq1, tq2, tq3, hv1], rfl, by simp (maxSteps := 10000000) (disch := omega) only [vq0, vq1, vq2, vq3, vq4, vq5, tagOf, reduceIte, reduceCtorEq, Nat.reduceEqDiff, Nat.reduceAdd, Nat.reduceSub, Nat.reduceMul, Nat.reduceLT, Nat.reduceLeDiff, Int.reduceToNat, Nat.reduceBEq, tq1, tq2, tq3, hv1], by simp (maxSteps := 10000000) (disch := omega) only [vq0, vq1, vq2, vq3, vq4, vq5, tagOf, reduceIte, reduceCtorEq, Nat.reduceEqDiff, Nat.reduceAdd, Nat.reduceSub, Nat.reduceMul, Nat.reduceLT, Nat.reduceLeDiff, Int.reduceToNat, Nat.reduceBEq, tq1, tq2, tq3], by simp (maxSteps := 10000000) (disch := omega) only [vq0, vq1, vq2, vq3, vq4, vq5, tagOf, reduceIte, reduceCtorEq, Nat.reduceEqDiff, Nat.reduceAdd, Nat.reduceSub, Nat.reduceMul, Nat.reduceLT, Nat.reduceLeDiff, Int.reduceToNat, Nat.reduceBEq, tq1, tq2, tq3]; rfl, .inl ⟨rfl, by simp (maxSteps := 10000000) (disch := omega) only [vq0, vq1, vq2, vq3, vq4, vq5, tagOf, reduceIte, reduceCtorEq, Nat.reduceEqDiff, Nat.reduceAdd, Nat.reduceSub, Nat.reduceMul, Nat.reduceLT, Nat.reduceLeDiff, Int.reduceToNat, Nat.reduceBEq, tq1, tq2, tq3], get_new_same _ _⟩, Grow.new h _, Nat.lt_succ_self _⟩
end Go.Proofs.YtijnnpbfgmmngaaGreatDoor.C
