/- U13: the document's answer: a line, parsed. -/
import Derived.Test.YtijnnpbfgmmngaaGreatDoorU12
import Derived.Test.YtijnnpbfgmmngaaGreatDoorTp
open Go Go.Vi Go.Tk
namespace Go.Proofs.YtijnnpbfgmmngaaGreatDoor.C
set_option linter.unusedSimpArgs false
set_option maxRecDepth 100000
set_option maxHeartbeats 40000000
def RefQ (l : List UInt8) (v : Value) (h' : Heap) : Prop := match parseT l with
  | some (c, o) => ∃ d, v = .tuple ⟨[.int .i64 c, .agg ⟨opC o d⟩, .bool true]⟩ ∧ RowAt h' d o.data
  | none => v = .tuple ⟨[.int .i64 0, .agg ⟨zC⟩, .bool false]⟩
theorem refQ_none {l : List UInt8} (hp : parseT l = none) (h : Heap) : RefQ l (.tuple ⟨[.int .i64 0, .agg ⟨zC⟩, .bool false]⟩) h := by
  unfold RefQ; rw [hp]
theorem refQ_some {l : List UInt8} {c : Int} {o : TOp} {d : Value} {h : Heap} (hp : parseT l = some (c, o)) (hd : RowAt h d o.data) : RefQ l (.tuple ⟨[.int .i64 c, .agg ⟨opC o d⟩, .bool true]⟩) h := by
  unfold RefQ; rw [hp]; exact ⟨d, rfl, hd⟩
theorem verb_mem {x : List UInt8} {n : Nat} : ∀ {l : List (List UInt8 × Int × List UInt8)} {v : List UInt8 × Int × List UInt8}, verbOf x n l = some v → v ∈ l := by
  intro l
  induction l with
  | nil => intro v h; cases h
  | cons u l ih =>
    intro v h
    rw [verbOf] at h
    split at h
    · cases h; exact List.mem_cons_self
    · exact List.mem_cons_of_mem _ (ih h)
theorem named_cut {y : List UInt8} (h : (twoOf y).2.2 = true) : namedB y = false := by
  have e := two_join y h
  unfold namedB
  have : y.all Tk.okB = false := by
    rw [List.all_eq_false]
    exact ⟨64, by rw [e]; exact List.mem_append_right _ List.mem_cons_self, by decide⟩
  rw [this, Bool.and_false]
theorem snap2_keep {o o' : TOp} {a : UInt8} {y : List UInt8} (h : takeT o a y = some o') (ha : a ≠ 50) : o'.snap2 = o.snap2 := by
  by_cases c105 : a.toNat = 105
  · obtain rfl : a = 105 := UInt8.toNat_inj.1 c105
    rw [take_i h]
  by_cases c118 : a.toNat = 118
  · obtain rfl : a = 118 := UInt8.toNat_inj.1 c118
    obtain ⟨_, _, rfl, _⟩ := take_v h
    rfl
  by_cases c115 : a.toNat = 115
  · obtain rfl : a = 115 := UInt8.toNat_inj.1 c115
    obtain ⟨_, _, rfl, _⟩ := take_s h
    rfl
  by_cases c112 : a.toNat = 112
  · obtain rfl : a = 112 := UInt8.toNat_inj.1 c112
    obtain ⟨_, _, rfl, _⟩ := take_p h
    rfl
  by_cases c50 : a.toNat = 50
  · obtain rfl : a = 50 := UInt8.toNat_inj.1 c50
    exact absurd rfl ha
  by_cases c100 : a.toNat = 100
  · obtain rfl : a = 100 := UInt8.toNat_inj.1 c100
    obtain ⟨_, rfl, _⟩ := take_d h
    rfl
  by_cases c109 : a.toNat = 109
  · obtain rfl : a = 109 := UInt8.toNat_inj.1 c109
    obtain ⟨_, rfl, _⟩ := take_m h
    rfl
  by_cases c97 : a.toNat = 97
  · obtain rfl : a = 97 := UInt8.toNat_inj.1 c97
    obtain ⟨_, rfl, _⟩ := take_a h
    rfl
  by_cases c108 : a.toNat = 108
  · obtain rfl : a = 108 := UInt8.toNat_inj.1 c108
    obtain ⟨_, rfl, _⟩ := take_l h
    rfl
  by_cases c122 : a.toNat = 122
  · obtain rfl : a = 122 := UInt8.toNat_inj.1 c122
    obtain ⟨_, rfl, _⟩ := take_z h
    rfl
  by_cases c111 : a.toNat = 111
  · obtain rfl : a = 111 := UInt8.toNat_inj.1 c111
    obtain ⟨_, rfl, _⟩ := take_o h
    rfl
  unfold takeT at h
  rw [if_neg c105, if_neg c118, if_neg c115, if_neg c112, if_neg c50, if_neg c100, if_neg c109, if_neg c97, if_neg c108, if_neg c122, if_neg c111] at h
  cases h
theorem takesT_nil (ws : List (List UInt8)) (o : TOp) : takesT [] ws o = some o := by cases ws <;> rfl
theorem refParse_ok (l : List UInt8) (hl : l.length ≤ 100000) (h : Heap) : Ret E f_laminaref25_Parse [.string (strOf l)] h (fun v h' => Grow h h' ∧ RefQ l v h') := by
  have hwl := words_le l
  have hwn := wordsL_ne l
  have pn := fun hp h => refQ_none (l := l) hp h
  unfold zC at pn
  have ps := fun c o d h hp hd => refQ_some (l := l) (c := c) (o := o) (d := d) (h := h) hp hd
  have hpt : parseT l = match wordsL l with
    | c :: x :: ws => if numB c then match verbOf x (2 + ws.length) verbsT with
        | some v => match takesT v.2.2 ws { TOp.zero with kind := v.2.1 } with
          | some o => some (numV c, o)
          | none => none
        | none => none
      else none
    | _ => none := rfl
  have hcnt : (wordsL l).length ≤ l.length + 1 := by rw [words_len]; have := List.count_le_length (a := (32 : UInt8)) (l := l); omega
  generalize hP : RefQ l = P at pn ps ⊢
  refine ret_fun is_laminaref25_Parse (by simp) ?_
  unfold g_laminaref25_Parse
  simp (maxSteps := 10000000) (disch := omega) only [vq0, vq1, vq2, vq3, vq4, vq5, tagOf, reduceIte, reduceCtorEq, Nat.reduceEqDiff, Nat.reduceAdd, Nat.reduceSub, Nat.reduceMul, Nat.reduceLT, Nat.reduceLeDiff, Int.reduceToNat, Nat.reduceBEq, tq1, tq2, tq3]
  refine (refWords_ok l hl _).mono ?_
  rintro v h1 ⟨g1, bw, p, rfl, hb0, hb1, hbw⟩
  have hz1 := g1.get h.next (Nat.lt_succ_self _)
  rw [get_new_same] at hz1
  have hb0' : h.next + 1 ≤ bw := hb0
  have gh1 : Grow h h1 := (Grow.new h _).trans g1
  generalize wordsL l = ws at hwl hwn hpt hcnt hbw ⊢
  cases ws with
  | nil => exact absurd rfl hwn
  | cons c ws =>
    have hc := hwl c List.mem_cons_self
    have hc' : c.length ≤ 100000 := by omega
    have e0 : (textsV (c :: ws))[0]? = some (.string (strOf c)) := rfl
    simp (maxSteps := 10000000) (disch := omega) only [vq0, vq1, vq2, vq3, vq4, vq5, tagOf, reduceIte, reduceCtorEq, Nat.reduceEqDiff, Nat.reduceAdd, Nat.reduceSub, Nat.reduceMul, Nat.reduceLT, Nat.reduceLeDiff, Int.reduceToNat, Nat.reduceBEq, tq1, tq2, tq3, e0, hbw, (refNumber_ok c hc' _).eq]
    cases hnum : numB c with
    | false =>
      have hp0 : parseT l = none := by
        rw [hpt]
        cases ws with
        | nil => rfl
        | cons x ws => simp only [hnum]; rfl
      simp (maxSteps := 10000000) (disch := omega) only [vq0, vq1, vq2, vq3, vq4, vq5, tagOf, reduceIte, reduceCtorEq, Nat.reduceEqDiff, Nat.reduceAdd, Nat.reduceSub, Nat.reduceMul, Nat.reduceLT, Nat.reduceLeDiff, Int.reduceToNat, Nat.reduceBEq, tq1, tq2, tq3, hz1]
      exact ⟨gh1.set (Nat.le_refl _) _, pn hp0 _⟩
    | true =>
      cases ws with
      | nil =>
        simp (maxSteps := 10000000) (disch := omega) only [vq0, vq1, vq2, vq3, vq4, vq5, tagOf, reduceIte, reduceCtorEq, Nat.reduceEqDiff, Nat.reduceAdd, Nat.reduceSub, Nat.reduceMul, Nat.reduceLT, Nat.reduceLeDiff, Int.reduceToNat, Nat.reduceBEq, tq1, tq2, tq3, hz1]
        exact ⟨gh1.set (Nat.le_refl _) _, pn hpt _⟩
      | cons x ws =>
        simp only [hnum, if_true] at hpt
        have hcw : ws.length ≤ 100000 := by simp at hcnt; omega
        have e1 : (textsV (c :: x :: ws))[1]? = some (.string (strOf x)) := rfl
        simp (maxSteps := 10000000) (disch := omega) only [vq0, vq1, vq2, vq3, vq4, vq5, tagOf, reduceIte, reduceCtorEq, Nat.reduceEqDiff, Nat.reduceAdd, Nat.reduceSub, Nat.reduceMul, Nat.reduceLT, Nat.reduceLeDiff, Int.reduceToNat, Nat.reduceBEq, tq1, tq2, tq3, hz1]
        refine r_loop (k := 22) (fun k ρ h' => ∃ i wn kd, i + k = 22 ∧ pickV x (kd, wn) (verbsT.drop i) = pickV x (0, []) verbsT ∧ wn.length ≤ 4 ∧ ρ 3 = .pointer (some ⟨h.next, 0, none⟩) ∧ ρ 5 = .slice (some ⟨bw, 0, none⟩) (ws.length + 2) (ws.length + 2) ∧ ρ 6 = .int .i64 (numV c) ∧
          ρ 8 = .pointer (some ⟨h1.next, 0, none⟩) ∧ ρ 9 = .string (strOf wn) ∧ ρ 10 = .int .i64 ((i : Int) + 1) ∧ h'.get h.next = some (.cells zC true none) ∧ h'.get bw = some (.cells (textsV (c :: x :: ws)) true p) ∧
          h'.get h1.next = some (.cells (opC { TOp.zero with kind := kd } (.slice none 0 0)) true none) ∧ Grow h h' ∧ h1.next + 1 ≤ h'.next) ?_ ?_
        · rintro k ρ h' ⟨i, wn, kd, hk, hv, hwn4, r3, r5, r6, r8, r9, r10, m0, m1, m2, gr, hnx⟩
          unfold g_laminaref25_Parse_L0
          unfold zC at m0
          rcases Nat.lt_or_ge i 22 with hi | hi
          · have hvi : verbsT[i]? = some verbsT[i] := List.getElem?_eq_getElem hi
            have hw4 := wants_le verbsT[i] (List.getElem_mem _)
            have hva := verbs_at i _ hvi
            rw [List.drop_eq_getElem_cons hi, pick_cons] at hv
            generalize verbsT[i] = v at hvi hv hw4 hva
            by_cases hx : v.1 = x
            · have hxb : (v.1 == x) = true := by rw [hx]; simp
              rw [if_pos hx] at hv
              unfold opC at m2
              simp (maxSteps := 10000000) (disch := omega) only [vq0, vq1, vq2, vq3, vq4, vq5, tagOf, reduceIte, reduceCtorEq, Nat.reduceEqDiff, Nat.reduceAdd, Nat.reduceSub, Nat.reduceMul, Nat.reduceLT, Nat.reduceLeDiff, Int.reduceToNat, Nat.reduceBEq, tq1, tq2, tq3, r3, r5, r6, r8, r9, r10, m0, m1, m2, e1, table_ok i v hvi, hxb]
              exact ⟨k - 1, by omega, i + 1, v.2.2, v.2.1, by omega, hv, hw4, rfl, rfl, rfl, by rw [hva]; rfl, gr.set (by have := gh1.next; omega) _, hnx⟩
            · have hxb : (v.1 == x) = false := by rw [beq_eq_false_iff_ne]; exact hx
              rw [if_neg hx] at hv
              simp (maxSteps := 10000000) (disch := omega) only [vq0, vq1, vq2, vq3, vq4, vq5, tagOf, reduceIte, reduceCtorEq, Nat.reduceEqDiff, Nat.reduceAdd, Nat.reduceSub, Nat.reduceMul, Nat.reduceLT, Nat.reduceLeDiff, Int.reduceToNat, Nat.reduceBEq, tq1, tq2, tq3, r3, r5, r6, r8, r9, r10, m0, m1, e1, table_ok i v hvi, hxb]
              exact ⟨k - 1, by omega, i + 1, wn, kd, by omega, hv, hwn4, rfl, rfl, rfl, m2, gr, hnx⟩
          · have hv0 : pickV x (0, []) verbsT = (kd, wn) := by rw [← hv, List.drop_of_length_le (show verbsT.length ≤ i from hi)]; rfl
            have hpv := pick_verb x (2 + ws.length) verbsT verbs_nodup verbs_kind
            rw [hv0] at hpv
            unfold opC at m2
            rcases hpv with ⟨hbad, hno⟩ | ⟨hk0, hlen, w0, hvb⟩
            · rw [hno] at hpt
              by_cases hk0 : kd = 0
              · simp (maxSteps := 10000000) (disch := omega) only [vq0, vq1, vq2, vq3, vq4, vq5, tagOf, reduceIte, reduceCtorEq, Nat.reduceEqDiff, Nat.reduceAdd, Nat.reduceSub, Nat.reduceMul, Nat.reduceLT, Nat.reduceLeDiff, Int.reduceToNat, Nat.reduceBEq, tq1, tq2, tq3, r3, r5, r6, r8, r9, r10, m0, m1, m2]
                exact ⟨gr.set (Nat.le_refl _) _, pn hpt _⟩
              · have hlen : 2 + ws.length ≠ 2 + wn.length := by
                  rcases hbad with hb | hb
                  · exact absurd hb hk0
                  · exact hb
                simp (maxSteps := 10000000) (disch := omega) only [vq0, vq1, vq2, vq3, vq4, vq5, tagOf, reduceIte, reduceCtorEq, Nat.reduceEqDiff, Nat.reduceAdd, Nat.reduceSub, Nat.reduceMul, Nat.reduceLT, Nat.reduceLeDiff, Int.reduceToNat, Nat.reduceBEq, tq1, tq2, tq3, r3, r5, r6, r8, r9, r10, m0, m1, m2]
                exact ⟨gr.set (Nat.le_refl _) _, pn hpt _⟩
            · rw [hvb] at hpt
              simp only at hpt hk0 hlen
              simp (maxSteps := 10000000) (disch := omega) only [vq0, vq1, vq2, vq3, vq4, vq5, tagOf, reduceIte, reduceCtorEq, Nat.reduceEqDiff, Nat.reduceAdd, Nat.reduceSub, Nat.reduceMul, Nat.reduceLT, Nat.reduceLeDiff, Int.reduceToNat, Nat.reduceBEq, tq1, tq2, tq3, r3, r5, r6, r8, r9, r10, m0, m1, m2]
              obtain ⟨hkn, hcn⟩ := wants_known _ (verb_mem hvb)
              have hge : h.next ≤ h1.next := gh1.next
              simp only at hkn hcn
              refine r_loop (k := ws.length) (fun k ρ h2 => ∃ i2 o d, i2 + k = ws.length ∧ takesT (wn.drop i2) (ws.drop i2) o = takesT wn ws { TOp.zero with kind := kd } ∧ (50 ∈ wn.drop i2 → o.snap2 = []) ∧ ρ 3 = .pointer (some ⟨h.next, 0, none⟩) ∧ ρ 5 = .slice (some ⟨bw, 0, none⟩) (ws.length + 2) (ws.length + 2) ∧ ρ 6 = .int .i64 (numV c) ∧
                ρ 8 = .pointer (some ⟨h1.next, 0, none⟩) ∧ ρ 9 = .string (strOf wn) ∧ ρ 13 = .int .i64 (i2 : Int) ∧ h2.get h.next = some (.cells zC true none) ∧ h2.get bw = some (.cells (textsV (c :: x :: ws)) true p) ∧ h2.get h1.next = some (.cells (opC o d) true none) ∧ DataAt h2 h1.next d o.data ∧ Grow h h2 ∧ h1.next + 1 ≤ h2.next) ?_ ?_
              · rintro k2 ρ h2 ⟨i2, o, d, hk2, ht, hsn, r3, r5, r6, r8, r9, r13, m0, m1, m2, hd, gr2, hnx2⟩
                unfold g_laminaref25_Parse_L1
                have m2' := m2
                unfold zC at m0
                unfold opC at m2
                rcases Nat.lt_or_ge i2 ws.length with hi2 | hi2
                · have ha : wn[i2]? = some wn[i2] := List.getElem?_eq_getElem (by omega)
                  have hy : ws[i2]? = some ws[i2] := List.getElem?_eq_getElem hi2
                  have hyl : ws[i2].length ≤ 100000 := by have := hwl ws[i2] (List.mem_cons_of_mem _ (List.mem_cons_of_mem _ (List.getElem_mem _))); omega
                  have hdw := List.drop_eq_getElem_cons (show i2 < wn.length by omega)
                  rw [hdw, List.drop_eq_getElem_cons hi2, takesT] at ht
                  have hcnt50 : wn[i2] = 50 → 50 ∉ wn.drop (i2 + 1) := fun e hm => by
                    have h1 : (wn.drop i2).count 50 ≤ 1 := Nat.le_trans (List.Sublist.count_le 50 (List.drop_sublist i2 wn)) hcn
                    rw [hdw, e, List.count_cons_self] at h1
                    have := List.count_pos_iff.2 hm
                    omega
                  have hsn2 : ∀ o' : TOp, o'.snap2 = o.snap2 → 50 ∈ wn.drop (i2 + 1) → o'.snap2 = [] := fun (o' : TOp) he hm => by
                    rw [he]; exact hsn (by rw [hdw]; exact List.mem_cons_of_mem _ hm)
                  generalize wn[i2] = a at ha ht hcnt50
                  generalize ws[i2] = y at hy hyl ht
                  have h2l := two_len y
                  have next : ∀ o', takeT o a y = some o' → takesT (wn.drop (i2 + 1)) (ws.drop (i2 + 1)) o' = takesT wn ws { TOp.zero with kind := kd } := fun o' he => by rw [he] at ht; exact ht
                  have nope : takeT o a y = none → parseT l = none := fun he => by rw [he] at ht; rw [hpt, ← ht]
                  have snx : ∀ o', takeT o a y = some o' → 50 ∈ wn.drop (i2 + 1) → o'.snap2 = [] := fun o' he hm => by
                    by_cases h50 : a = 50
                    · exact absurd hm (hcnt50 h50)
                    · exact hsn2 o' (snap2_keep he h50) hm
                  have ia : wn[((i2 : Int)).toNat]? = some a := by rw [Int.toNat_natCast]; exact ha
                  have iy : (textsV (c :: x :: ws))[((2 : Int) + (i2 : Int)).toNat]? = some (.string (strOf y)) := by
                    rw [show ((2 : Int) + (i2 : Int)).toNat = i2 + 2 from by omega]
                    exact texts_at (by simpa using hy)
                  simp (maxSteps := 10000000) (disch := omega) only [vq0, vq1, vq2, vq3, vq4, vq5, tagOf, reduceIte, reduceCtorEq, Nat.reduceEqDiff, Nat.reduceAdd, Nat.reduceSub, Nat.reduceMul, Nat.reduceLT, Nat.reduceLeDiff, Int.reduceToNat, Nat.reduceBEq, tq1, tq2, tq3, r3, r5, r6, r8, r9, r13, m0, m1, m2, ia, iy, byteV_at, (refTwo_ok y hyl _).eq, (refNumber_ok y hyl _).eq]
                  by_cases c105 : a.toNat = 105
                  · cases hn : namedB y with
                    | true =>
                      have ht0 : takeT o a y = some { o with image := y } := by unfold takeT; rw [if_pos c105]; rw [if_pos hn]
                      simp (maxSteps := 10000000) (disch := omega) only [vq0, vq1, vq2, vq3, vq4, vq5, tagOf, reduceIte, reduceCtorEq, Nat.reduceEqDiff, Nat.reduceAdd, Nat.reduceSub, Nat.reduceMul, Nat.reduceLT, Nat.reduceLeDiff, Int.reduceToNat, Nat.reduceBEq, tq1, tq2, tq3, r3, r5, r6, r8, r9, r13, m0, m1, m2, ia, iy, byteV_at, (refTwo_ok y hyl _).eq, (refNumber_ok y hyl _).eq, (refNamed_ok y (by omega) _).eq, hn]
                      exact ⟨k2 - 1, by omega, i2 + 1, { o with image := y }, d, by omega, next _ ht0, snx _ ht0, rfl, rfl, rfl, hd.keep ((GrowBut.of (.refl _)).set _), (gr2.set hge _), hnx2⟩
                    | false =>
                      have ht0 : takeT o a y = none := by unfold takeT; rw [if_pos c105]; rw [if_neg (by rw [hn]; simp)]
                      simp (maxSteps := 10000000) (disch := omega) only [vq0, vq1, vq2, vq3, vq4, vq5, tagOf, reduceIte, reduceCtorEq, Nat.reduceEqDiff, Nat.reduceAdd, Nat.reduceSub, Nat.reduceMul, Nat.reduceLT, Nat.reduceLeDiff, Int.reduceToNat, Nat.reduceBEq, tq1, tq2, tq3, r3, r5, r6, r8, r9, r13, m0, m1, m2, ia, iy, byteV_at, (refTwo_ok y hyl _).eq, (refNumber_ok y hyl _).eq, (refNamed_ok y (by omega) _).eq, hn]
                      exact ⟨(gr2.set hge _).set (Nat.le_refl _) _, pn (nope ht0) _⟩
                  by_cases c118 : a.toNat = 118
                  · cases hcut : (twoOf y).2.2 with
                    | false =>
                      have htwo := two_none y hcut
                      have e1 : (twoOf y).1 = y := by rw [htwo]
                      have e2 : (twoOf y).2.1 = [] := by rw [htwo]
                      have hpf : pairB y = false := by unfold pairB; rw [hcut]; rfl
                      cases hn1 : namedB y with
                      | true =>
                        have ht0 : takeT o a y = some { o with image := y, snap := [] } := by unfold takeT; rw [if_neg c105, if_pos c118]; rw [if_neg (by rw [hpf]; simp), if_pos hn1]
                        simp (maxSteps := 10000000) (disch := omega) only [vq0, vq1, vq2, vq3, vq4, vq5, tagOf, reduceIte, reduceCtorEq, Nat.reduceEqDiff, Nat.reduceAdd, Nat.reduceSub, Nat.reduceMul, Nat.reduceLT, Nat.reduceLeDiff, Int.reduceToNat, Nat.reduceBEq, tq1, tq2, tq3, r3, r5, r6, r8, r9, r13, m0, m1, m2, ia, iy, byteV_at, (refTwo_ok y hyl _).eq, (refNumber_ok y hyl _).eq, e1, e2, (refNamed_ok y (by omega) _).eq, hcut, hn1]
                        exact ⟨k2 - 1, by omega, i2 + 1, { o with image := y, snap := [] }, d, by omega, next _ ht0, snx _ ht0, rfl, rfl, rfl, (hd.keep ((GrowBut.of (.refl _)).set _)).keep ((GrowBut.of (.refl _)).set _), ((gr2.set hge _).set hge _), hnx2⟩
                      | false =>
                        have ht0 : takeT o a y = none := by unfold takeT; rw [if_neg c105, if_pos c118]; rw [if_neg (by rw [hpf]; simp), if_neg (by rw [hn1]; simp)]
                        simp (maxSteps := 10000000) (disch := omega) only [vq0, vq1, vq2, vq3, vq4, vq5, tagOf, reduceIte, reduceCtorEq, Nat.reduceEqDiff, Nat.reduceAdd, Nat.reduceSub, Nat.reduceMul, Nat.reduceLT, Nat.reduceLeDiff, Int.reduceToNat, Nat.reduceBEq, tq1, tq2, tq3, r3, r5, r6, r8, r9, r13, m0, m1, m2, ia, iy, byteV_at, (refTwo_ok y hyl _).eq, (refNumber_ok y hyl _).eq, e1, e2, (refNamed_ok y (by omega) _).eq, hcut, hn1]
                        exact ⟨((gr2.set hge _).set hge _).set (Nat.le_refl _) _, pn (nope ht0) _⟩
                    | true =>
                      have hny := named_cut hcut
                      cases hn1 : namedB (twoOf y).1 with
                      | false =>
                        have hpf : pairB y = false := by unfold pairB; rw [hn1]; simp
                        have ht0 : takeT o a y = none := by unfold takeT; rw [if_neg c105, if_pos c118]; rw [if_neg (by rw [hpf]; simp), if_neg (by rw [hny]; simp)]
                        simp (maxSteps := 10000000) (disch := omega) only [vq0, vq1, vq2, vq3, vq4, vq5, tagOf, reduceIte, reduceCtorEq, Nat.reduceEqDiff, Nat.reduceAdd, Nat.reduceSub, Nat.reduceMul, Nat.reduceLT, Nat.reduceLeDiff, Int.reduceToNat, Nat.reduceBEq, tq1, tq2, tq3, r3, r5, r6, r8, r9, r13, m0, m1, m2, ia, iy, byteV_at, (refTwo_ok y hyl _).eq, (refNumber_ok y hyl _).eq, (refNamed_ok (twoOf y).1 (by omega) _).eq, hcut, hn1]
                        exact ⟨((gr2.set hge _).set hge _).set (Nat.le_refl _) _, pn (nope ht0) _⟩
                      | true =>
                        cases hn2 : namedB (twoOf y).2.1 with
                        | false =>
                          have hpf : pairB y = false := by unfold pairB; rw [hn2]; simp
                          have ht0 : takeT o a y = none := by unfold takeT; rw [if_neg c105, if_pos c118]; rw [if_neg (by rw [hpf]; simp), if_neg (by rw [hny]; simp)]
                          simp (maxSteps := 10000000) (disch := omega) only [vq0, vq1, vq2, vq3, vq4, vq5, tagOf, reduceIte, reduceCtorEq, Nat.reduceEqDiff, Nat.reduceAdd, Nat.reduceSub, Nat.reduceMul, Nat.reduceLT, Nat.reduceLeDiff, Int.reduceToNat, Nat.reduceBEq, tq1, tq2, tq3, r3, r5, r6, r8, r9, r13, m0, m1, m2, ia, iy, byteV_at, (refTwo_ok y hyl _).eq, (refNumber_ok y hyl _).eq, (refNamed_ok (twoOf y).1 (by omega) _).eq, (refNamed_ok (twoOf y).2.1 (by omega) _).eq, hcut, hn1, hn2]
                          exact ⟨((gr2.set hge _).set hge _).set (Nat.le_refl _) _, pn (nope ht0) _⟩
                        | true =>
                          have hpf : pairB y = true := by unfold pairB; rw [hcut, hn1, hn2]; rfl
                          have ht0 : takeT o a y = some { o with image := (twoOf y).1, snap := (twoOf y).2.1 } := by unfold takeT; rw [if_neg c105, if_pos c118]; rw [if_pos hpf]
                          simp (maxSteps := 10000000) (disch := omega) only [vq0, vq1, vq2, vq3, vq4, vq5, tagOf, reduceIte, reduceCtorEq, Nat.reduceEqDiff, Nat.reduceAdd, Nat.reduceSub, Nat.reduceMul, Nat.reduceLT, Nat.reduceLeDiff, Int.reduceToNat, Nat.reduceBEq, tq1, tq2, tq3, r3, r5, r6, r8, r9, r13, m0, m1, m2, ia, iy, byteV_at, (refTwo_ok y hyl _).eq, (refNumber_ok y hyl _).eq, (refNamed_ok (twoOf y).1 (by omega) _).eq, (refNamed_ok (twoOf y).2.1 (by omega) _).eq, hcut, hn1, hn2]
                          exact ⟨k2 - 1, by omega, i2 + 1, { o with image := (twoOf y).1, snap := (twoOf y).2.1 }, d, by omega, next _ ht0, snx _ ht0, rfl, rfl, rfl, (hd.keep ((GrowBut.of (.refl _)).set _)).keep ((GrowBut.of (.refl _)).set _), ((gr2.set hge _).set hge _), hnx2⟩
                  by_cases c115 : a.toNat = 115
                  · cases hcut : (twoOf y).2.2 with
                    | false =>
                      have hpf : pairB y = false := by unfold pairB; rw [hcut]; rfl
                      have ht0 : takeT o a y = none := by unfold takeT; rw [if_neg c105, if_neg c118, if_pos c115]; rw [if_neg (by rw [hpf]; simp)]
                      cases hn1 : namedB (twoOf y).1 with
                      | true =>
                        simp (maxSteps := 10000000) (disch := omega) only [vq0, vq1, vq2, vq3, vq4, vq5, tagOf, reduceIte, reduceCtorEq, Nat.reduceEqDiff, Nat.reduceAdd, Nat.reduceSub, Nat.reduceMul, Nat.reduceLT, Nat.reduceLeDiff, Int.reduceToNat, Nat.reduceBEq, tq1, tq2, tq3, r3, r5, r6, r8, r9, r13, m0, m1, m2, ia, iy, byteV_at, (refTwo_ok y hyl _).eq, (refNumber_ok y hyl _).eq, (refNamed_ok (twoOf y).1 (by omega) _).eq, hcut, hn1]
                        exact ⟨((gr2.set hge _).set hge _).set (Nat.le_refl _) _, pn (nope ht0) _⟩
                      | false =>
                        simp (maxSteps := 10000000) (disch := omega) only [vq0, vq1, vq2, vq3, vq4, vq5, tagOf, reduceIte, reduceCtorEq, Nat.reduceEqDiff, Nat.reduceAdd, Nat.reduceSub, Nat.reduceMul, Nat.reduceLT, Nat.reduceLeDiff, Int.reduceToNat, Nat.reduceBEq, tq1, tq2, tq3, r3, r5, r6, r8, r9, r13, m0, m1, m2, ia, iy, byteV_at, (refTwo_ok y hyl _).eq, (refNumber_ok y hyl _).eq, (refNamed_ok (twoOf y).1 (by omega) _).eq, hcut, hn1]
                        exact ⟨((gr2.set hge _).set hge _).set (Nat.le_refl _) _, pn (nope ht0) _⟩
                    | true =>
                      cases hn1 : namedB (twoOf y).1 with
                      | false =>
                        have hpf : pairB y = false := by unfold pairB; rw [hn1]; simp
                        have ht0 : takeT o a y = none := by unfold takeT; rw [if_neg c105, if_neg c118, if_pos c115]; rw [if_neg (by rw [hpf]; simp)]
                        simp (maxSteps := 10000000) (disch := omega) only [vq0, vq1, vq2, vq3, vq4, vq5, tagOf, reduceIte, reduceCtorEq, Nat.reduceEqDiff, Nat.reduceAdd, Nat.reduceSub, Nat.reduceMul, Nat.reduceLT, Nat.reduceLeDiff, Int.reduceToNat, Nat.reduceBEq, tq1, tq2, tq3, r3, r5, r6, r8, r9, r13, m0, m1, m2, ia, iy, byteV_at, (refTwo_ok y hyl _).eq, (refNumber_ok y hyl _).eq, (refNamed_ok (twoOf y).1 (by omega) _).eq, hcut, hn1]
                        exact ⟨((gr2.set hge _).set hge _).set (Nat.le_refl _) _, pn (nope ht0) _⟩
                      | true =>
                        cases hn2 : namedB (twoOf y).2.1 with
                        | false =>
                          have hpf : pairB y = false := by unfold pairB; rw [hn2]; simp
                          have ht0 : takeT o a y = none := by unfold takeT; rw [if_neg c105, if_neg c118, if_pos c115]; rw [if_neg (by rw [hpf]; simp)]
                          simp (maxSteps := 10000000) (disch := omega) only [vq0, vq1, vq2, vq3, vq4, vq5, tagOf, reduceIte, reduceCtorEq, Nat.reduceEqDiff, Nat.reduceAdd, Nat.reduceSub, Nat.reduceMul, Nat.reduceLT, Nat.reduceLeDiff, Int.reduceToNat, Nat.reduceBEq, tq1, tq2, tq3, r3, r5, r6, r8, r9, r13, m0, m1, m2, ia, iy, byteV_at, (refTwo_ok y hyl _).eq, (refNumber_ok y hyl _).eq, (refNamed_ok (twoOf y).1 (by omega) _).eq, (refNamed_ok (twoOf y).2.1 (by omega) _).eq, hcut, hn1, hn2]
                          exact ⟨((gr2.set hge _).set hge _).set (Nat.le_refl _) _, pn (nope ht0) _⟩
                        | true =>
                          have hpf : pairB y = true := by unfold pairB; rw [hcut, hn1, hn2]; rfl
                          have ht0 : takeT o a y = some { o with image := (twoOf y).1, snap := (twoOf y).2.1 } := by unfold takeT; rw [if_neg c105, if_neg c118, if_pos c115]; rw [if_pos hpf]
                          simp (maxSteps := 10000000) (disch := omega) only [vq0, vq1, vq2, vq3, vq4, vq5, tagOf, reduceIte, reduceCtorEq, Nat.reduceEqDiff, Nat.reduceAdd, Nat.reduceSub, Nat.reduceMul, Nat.reduceLT, Nat.reduceLeDiff, Int.reduceToNat, Nat.reduceBEq, tq1, tq2, tq3, r3, r5, r6, r8, r9, r13, m0, m1, m2, ia, iy, byteV_at, (refTwo_ok y hyl _).eq, (refNumber_ok y hyl _).eq, (refNamed_ok (twoOf y).1 (by omega) _).eq, (refNamed_ok (twoOf y).2.1 (by omega) _).eq, hcut, hn1, hn2]
                          exact ⟨k2 - 1, by omega, i2 + 1, { o with image := (twoOf y).1, snap := (twoOf y).2.1 }, d, by omega, next _ ht0, snx _ ht0, rfl, rfl, rfl, (hd.keep ((GrowBut.of (.refl _)).set _)).keep ((GrowBut.of (.refl _)).set _), ((gr2.set hge _).set hge _), hnx2⟩
                  by_cases c112 : a.toNat = 112
                  · cases hcut : (twoOf y).2.2 with
                    | false =>
                      have hpf : pairB y = false := by unfold pairB; rw [hcut]; rfl
                      have ht0 : takeT o a y = none := by unfold takeT; rw [if_neg c105, if_neg c118, if_neg c115, if_pos c112]; rw [if_neg (by rw [hpf]; simp)]
                      cases hn1 : namedB (twoOf y).1 with
                      | true =>
                        simp (maxSteps := 10000000) (disch := omega) only [vq0, vq1, vq2, vq3, vq4, vq5, tagOf, reduceIte, reduceCtorEq, Nat.reduceEqDiff, Nat.reduceAdd, Nat.reduceSub, Nat.reduceMul, Nat.reduceLT, Nat.reduceLeDiff, Int.reduceToNat, Nat.reduceBEq, tq1, tq2, tq3, r3, r5, r6, r8, r9, r13, m0, m1, m2, ia, iy, byteV_at, (refTwo_ok y hyl _).eq, (refNumber_ok y hyl _).eq, (refNamed_ok (twoOf y).1 (by omega) _).eq, hcut, hn1]
                        exact ⟨((gr2.set hge _).set hge _).set (Nat.le_refl _) _, pn (nope ht0) _⟩
                      | false =>
                        simp (maxSteps := 10000000) (disch := omega) only [vq0, vq1, vq2, vq3, vq4, vq5, tagOf, reduceIte, reduceCtorEq, Nat.reduceEqDiff, Nat.reduceAdd, Nat.reduceSub, Nat.reduceMul, Nat.reduceLT, Nat.reduceLeDiff, Int.reduceToNat, Nat.reduceBEq, tq1, tq2, tq3, r3, r5, r6, r8, r9, r13, m0, m1, m2, ia, iy, byteV_at, (refTwo_ok y hyl _).eq, (refNumber_ok y hyl _).eq, (refNamed_ok (twoOf y).1 (by omega) _).eq, hcut, hn1]
                        exact ⟨((gr2.set hge _).set hge _).set (Nat.le_refl _) _, pn (nope ht0) _⟩
                    | true =>
                      cases hn1 : namedB (twoOf y).1 with
                      | false =>
                        have hpf : pairB y = false := by unfold pairB; rw [hn1]; simp
                        have ht0 : takeT o a y = none := by unfold takeT; rw [if_neg c105, if_neg c118, if_neg c115, if_pos c112]; rw [if_neg (by rw [hpf]; simp)]
                        simp (maxSteps := 10000000) (disch := omega) only [vq0, vq1, vq2, vq3, vq4, vq5, tagOf, reduceIte, reduceCtorEq, Nat.reduceEqDiff, Nat.reduceAdd, Nat.reduceSub, Nat.reduceMul, Nat.reduceLT, Nat.reduceLeDiff, Int.reduceToNat, Nat.reduceBEq, tq1, tq2, tq3, r3, r5, r6, r8, r9, r13, m0, m1, m2, ia, iy, byteV_at, (refTwo_ok y hyl _).eq, (refNumber_ok y hyl _).eq, (refNamed_ok (twoOf y).1 (by omega) _).eq, hcut, hn1]
                        exact ⟨((gr2.set hge _).set hge _).set (Nat.le_refl _) _, pn (nope ht0) _⟩
                      | true =>
                        cases hn2 : namedB (twoOf y).2.1 with
                        | false =>
                          have hpf : pairB y = false := by unfold pairB; rw [hn2]; simp
                          have ht0 : takeT o a y = none := by unfold takeT; rw [if_neg c105, if_neg c118, if_neg c115, if_pos c112]; rw [if_neg (by rw [hpf]; simp)]
                          simp (maxSteps := 10000000) (disch := omega) only [vq0, vq1, vq2, vq3, vq4, vq5, tagOf, reduceIte, reduceCtorEq, Nat.reduceEqDiff, Nat.reduceAdd, Nat.reduceSub, Nat.reduceMul, Nat.reduceLT, Nat.reduceLeDiff, Int.reduceToNat, Nat.reduceBEq, tq1, tq2, tq3, r3, r5, r6, r8, r9, r13, m0, m1, m2, ia, iy, byteV_at, (refTwo_ok y hyl _).eq, (refNumber_ok y hyl _).eq, (refNamed_ok (twoOf y).1 (by omega) _).eq, (refNamed_ok (twoOf y).2.1 (by omega) _).eq, hcut, hn1, hn2]
                          exact ⟨((gr2.set hge _).set hge _).set (Nat.le_refl _) _, pn (nope ht0) _⟩
                        | true =>
                          have hpf : pairB y = true := by unfold pairB; rw [hcut, hn1, hn2]; rfl
                          have ht0 : takeT o a y = some { o with parent := (twoOf y).1, snap := (twoOf y).2.1 } := by unfold takeT; rw [if_neg c105, if_neg c118, if_neg c115, if_pos c112]; rw [if_pos hpf]
                          simp (maxSteps := 10000000) (disch := omega) only [vq0, vq1, vq2, vq3, vq4, vq5, tagOf, reduceIte, reduceCtorEq, Nat.reduceEqDiff, Nat.reduceAdd, Nat.reduceSub, Nat.reduceMul, Nat.reduceLT, Nat.reduceLeDiff, Int.reduceToNat, Nat.reduceBEq, tq1, tq2, tq3, r3, r5, r6, r8, r9, r13, m0, m1, m2, ia, iy, byteV_at, (refTwo_ok y hyl _).eq, (refNumber_ok y hyl _).eq, (refNamed_ok (twoOf y).1 (by omega) _).eq, (refNamed_ok (twoOf y).2.1 (by omega) _).eq, hcut, hn1, hn2]
                          exact ⟨k2 - 1, by omega, i2 + 1, { o with parent := (twoOf y).1, snap := (twoOf y).2.1 }, d, by omega, next _ ht0, snx _ ht0, rfl, rfl, rfl, (hd.keep ((GrowBut.of (.refl _)).set _)).keep ((GrowBut.of (.refl _)).set _), ((gr2.set hge _).set hge _), hnx2⟩
                  by_cases c50 : a.toNat = 50
                  · by_cases h45 : y = [45]
                    · have hb45 : (y == [45]) = true := by rw [h45]; rfl
                      have hs2 : o.snap2 = [] := hsn (by rw [List.drop_eq_getElem_cons (show i2 < wn.length by omega)]; exact List.mem_cons.2 (.inl (by
                        have := (List.getElem?_eq_some_iff.1 ha).2
                        rw [this]; exact (UInt8.toNat_inj.1 c50).symm)))
                      have ht0 : takeT o a y = some o := by
                        unfold takeT; rw [if_neg c105, if_neg c118, if_neg c115, if_neg c112, if_pos c50]; rw [if_pos h45, ← hs2]
                      simp (maxSteps := 10000000) (disch := omega) only [vq0, vq1, vq2, vq3, vq4, vq5, tagOf, reduceIte, reduceCtorEq, Nat.reduceEqDiff, Nat.reduceAdd, Nat.reduceSub, Nat.reduceMul, Nat.reduceLT, Nat.reduceLeDiff, Int.reduceToNat, Nat.reduceBEq, tq1, tq2, tq3, r3, r5, r6, r8, r9, r13, m0, m1, m2, ia, iy, byteV_at, (refTwo_ok y hyl _).eq, (refNumber_ok y hyl _).eq, hb45]
                      exact ⟨k2 - 1, by omega, i2 + 1, o, d, by omega, next _ ht0, snx _ ht0, rfl, rfl, rfl, hd, gr2, hnx2⟩
                    · have hb45 : (y == [45]) = false := by rw [beq_eq_false_iff_ne]; exact h45
                      cases hn : namedB y with
                      | true =>
                        have ht0 : takeT o a y = some { o with snap2 := y } := by unfold takeT; rw [if_neg c105, if_neg c118, if_neg c115, if_neg c112, if_pos c50]; rw [if_neg h45, if_pos hn]
                        simp (maxSteps := 10000000) (disch := omega) only [vq0, vq1, vq2, vq3, vq4, vq5, tagOf, reduceIte, reduceCtorEq, Nat.reduceEqDiff, Nat.reduceAdd, Nat.reduceSub, Nat.reduceMul, Nat.reduceLT, Nat.reduceLeDiff, Int.reduceToNat, Nat.reduceBEq, tq1, tq2, tq3, r3, r5, r6, r8, r9, r13, m0, m1, m2, ia, iy, byteV_at, (refTwo_ok y hyl _).eq, (refNumber_ok y hyl _).eq, hb45, (refNamed_ok y (by omega) _).eq, hn]
                        exact ⟨k2 - 1, by omega, i2 + 1, { o with snap2 := y }, d, by omega, next _ ht0, snx _ ht0, rfl, rfl, rfl, hd.keep ((GrowBut.of (.refl _)).set _), (gr2.set hge _), hnx2⟩
                      | false =>
                        have ht0 : takeT o a y = none := by unfold takeT; rw [if_neg c105, if_neg c118, if_neg c115, if_neg c112, if_pos c50]; rw [if_neg h45, if_neg (by rw [hn]; simp)]
                        simp (maxSteps := 10000000) (disch := omega) only [vq0, vq1, vq2, vq3, vq4, vq5, tagOf, reduceIte, reduceCtorEq, Nat.reduceEqDiff, Nat.reduceAdd, Nat.reduceSub, Nat.reduceMul, Nat.reduceLT, Nat.reduceLeDiff, Int.reduceToNat, Nat.reduceBEq, tq1, tq2, tq3, r3, r5, r6, r8, r9, r13, m0, m1, m2, ia, iy, byteV_at, (refTwo_ok y hyl _).eq, (refNumber_ok y hyl _).eq, hb45, (refNamed_ok y (by omega) _).eq, hn]
                        exact ⟨(gr2.set hge _).set (Nat.le_refl _) _, pn (nope ht0) _⟩
                  by_cases c100 : a.toNat = 100
                  · simp (maxSteps := 10000000) (disch := omega) only [vq0, vq1, vq2, vq3, vq4, vq5, tagOf, reduceIte, reduceCtorEq, Nat.reduceEqDiff, Nat.reduceAdd, Nat.reduceSub, Nat.reduceMul, Nat.reduceLT, Nat.reduceLeDiff, Int.reduceToNat, Nat.reduceBEq, tq1, tq2, tq3, r3, r5, r6, r8, r9, r13, m0, m1, m2, ia, iy, byteV_at, (refTwo_ok y hyl _).eq, (refNumber_ok y hyl _).eq]
                    refine (refBytes_ok y hyl _).mono ?_
                    rintro v3 h3 ⟨g3, d3, l3, ok3, rfl, hr3, hok3, hl3⟩
                    have p0 := g3.get h.next (by have := gr2.next; omega)
                    have p1 := g3.get bw (by have := gr2.next; omega)
                    have p2 := g3.get h1.next (by omega)
                    rw [m0] at p0
                    rw [m1] at p1
                    rw [m2] at p2
                    have gr3 := gr2.trans g3
                    have hd3 := data_of_own (b := h1.next) hr3 (by omega)
                    have hnx3 : h1.next + 1 ≤ h3.next := Nat.le_trans hnx2 g3.next
                    have hone : oneCell d3 = true := by rcases hr3 with ⟨rfl, _⟩ | ⟨_, _, rfl, _⟩ <;> rfl
                    have hst : ∀ (o : Nat) (h : Heap), storeV E t_s_uint8 (.pointer (some ⟨h1.next, o, none⟩)) d3 h = putB h h1.next o d3 (h.get h1.next) := fun o h => by
                      rcases hr3 with ⟨rfl, _⟩ | ⟨_, _, rfl, _⟩ <;> simp (maxSteps := 10000000) (disch := omega) only [vq0, vq1, vq2, vq3, vq4, vq5, tagOf, reduceIte, reduceCtorEq, Nat.reduceEqDiff, Nat.reduceAdd, Nat.reduceSub, Nat.reduceMul, Nat.reduceLT, Nat.reduceLeDiff, Int.reduceToNat, Nat.reduceBEq, tq1, tq2, tq3]
                    cases hq : dataOf y with
                    | none =>
                      rw [hq] at hok3
                      have hok3 : false = ok3 := hok3
                      subst hok3
                      have ht0 : takeT o a y = none := by unfold takeT; rw [if_neg c105, if_neg c118, if_neg c115, if_neg c112, if_neg c50, if_pos c100]; rw [hq]
                      simp (maxSteps := 10000000) (disch := omega) only [vq0, vq1, vq2, vq3, vq4, vq5, tagOf, reduceIte, reduceCtorEq, Nat.reduceEqDiff, Nat.reduceAdd, Nat.reduceSub, Nat.reduceMul, Nat.reduceLT, Nat.reduceLeDiff, Int.reduceToNat, Nat.reduceBEq, tq1, tq2, tq3, r3, r5, r6, r8, r9, r13, p0, p1, p2, hst]
                      exact ⟨(gr3.set hge _).set (Nat.le_refl _) _, pn (nope ht0) _⟩
                    | some dd =>
                      rw [hq] at hok3
                      have hok3 : true = ok3 := hok3
                      subst hok3
                      have hl4 := hl3 dd hq
                      subst hl4
                      have ht0 : takeT o a y = some { o with data := l3 } := by unfold takeT; rw [if_neg c105, if_neg c118, if_neg c115, if_neg c112, if_neg c50, if_pos c100]; rw [hq]
                      simp (maxSteps := 10000000) (disch := omega) only [vq0, vq1, vq2, vq3, vq4, vq5, tagOf, reduceIte, reduceCtorEq, Nat.reduceEqDiff, Nat.reduceAdd, Nat.reduceSub, Nat.reduceMul, Nat.reduceLT, Nat.reduceLeDiff, Int.reduceToNat, Nat.reduceBEq, tq1, tq2, tq3, r3, r5, r6, r8, r9, r13, p0, p1, p2, hst]
                      exact ⟨k2 - 1, by omega, i2 + 1, { o with data := l3 }, d3, by omega, next _ ht0, snx _ ht0, rfl, rfl, rfl, hd3.keep ((GrowBut.of (.refl _)).set _), gr3.set hge _, hnx3⟩
                  by_cases c109 : a.toNat = 109
                  · by_cases hon : y = [111, 110]
                    · have hb1 : (y == [111, 110]) = true := by rw [hon]; rfl
                      have ht0 : takeT o a y = some { o with on := true } := by unfold takeT; rw [if_neg c105, if_neg c118, if_neg c115, if_neg c112, if_neg c50, if_neg c100, if_pos c109]; rw [if_pos hon]
                      simp (maxSteps := 10000000) (disch := omega) only [vq0, vq1, vq2, vq3, vq4, vq5, tagOf, reduceIte, reduceCtorEq, Nat.reduceEqDiff, Nat.reduceAdd, Nat.reduceSub, Nat.reduceMul, Nat.reduceLT, Nat.reduceLeDiff, Int.reduceToNat, Nat.reduceBEq, tq1, tq2, tq3, r3, r5, r6, r8, r9, r13, m0, m1, m2, ia, iy, byteV_at, (refTwo_ok y hyl _).eq, (refNumber_ok y hyl _).eq, hb1]
                      exact ⟨k2 - 1, by omega, i2 + 1, { o with on := true }, d, by omega, next _ ht0, snx _ ht0, rfl, rfl, rfl, hd.keep ((GrowBut.of (.refl _)).set _), (gr2.set hge _), hnx2⟩
                    · have hb1 : (y == [111, 110]) = false := by rw [beq_eq_false_iff_ne]; exact hon
                      by_cases hoff : y = [111, 102, 102]
                      · have hb2 : (y == [111, 102, 102]) = true := by rw [hoff]; rfl
                        have ht0 : takeT o a y = some { o with on := false } := by unfold takeT; rw [if_neg c105, if_neg c118, if_neg c115, if_neg c112, if_neg c50, if_neg c100, if_pos c109]; rw [if_neg hon, if_pos hoff]
                        simp (maxSteps := 10000000) (disch := omega) only [vq0, vq1, vq2, vq3, vq4, vq5, tagOf, reduceIte, reduceCtorEq, Nat.reduceEqDiff, Nat.reduceAdd, Nat.reduceSub, Nat.reduceMul, Nat.reduceLT, Nat.reduceLeDiff, Int.reduceToNat, Nat.reduceBEq, tq1, tq2, tq3, r3, r5, r6, r8, r9, r13, m0, m1, m2, ia, iy, byteV_at, (refTwo_ok y hyl _).eq, (refNumber_ok y hyl _).eq, hb1, hb2]
                        exact ⟨k2 - 1, by omega, i2 + 1, { o with on := false }, d, by omega, next _ ht0, snx _ ht0, rfl, rfl, rfl, hd.keep ((GrowBut.of (.refl _)).set _), (gr2.set hge _), hnx2⟩
                      · have hb2 : (y == [111, 102, 102]) = false := by rw [beq_eq_false_iff_ne]; exact hoff
                        have ht0 : takeT o a y = none := by unfold takeT; rw [if_neg c105, if_neg c118, if_neg c115, if_neg c112, if_neg c50, if_neg c100, if_pos c109]; rw [if_neg hon, if_neg hoff]
                        simp (maxSteps := 10000000) (disch := omega) only [vq0, vq1, vq2, vq3, vq4, vq5, tagOf, reduceIte, reduceCtorEq, Nat.reduceEqDiff, Nat.reduceAdd, Nat.reduceSub, Nat.reduceMul, Nat.reduceLT, Nat.reduceLeDiff, Int.reduceToNat, Nat.reduceBEq, tq1, tq2, tq3, r3, r5, r6, r8, r9, r13, m0, m1, m2, ia, iy, byteV_at, (refTwo_ok y hyl _).eq, (refNumber_ok y hyl _).eq, hb1, hb2]
                        exact ⟨(gr2.set hge _).set (Nat.le_refl _) _, pn (nope ht0) _⟩
                  by_cases c97 : a.toNat = 97
                  · cases hnb : numB y with
                    | true =>
                      have ht0 : takeT o a y = some { o with at_ := numV y } := by unfold takeT; rw [if_neg c105, if_neg c118, if_neg c115, if_neg c112, if_neg c50, if_neg c100, if_neg c109, if_pos c97]; rw [if_pos hnb]
                      simp (maxSteps := 10000000) (disch := omega) only [vq0, vq1, vq2, vq3, vq4, vq5, tagOf, reduceIte, reduceCtorEq, Nat.reduceEqDiff, Nat.reduceAdd, Nat.reduceSub, Nat.reduceMul, Nat.reduceLT, Nat.reduceLeDiff, Int.reduceToNat, Nat.reduceBEq, tq1, tq2, tq3, r3, r5, r6, r8, r9, r13, m0, m1, m2, ia, iy, byteV_at, (refTwo_ok y hyl _).eq, (refNumber_ok y hyl _).eq, hnb]
                      exact ⟨k2 - 1, by omega, i2 + 1, { o with at_ := numV y }, d, by omega, next _ ht0, snx _ ht0, rfl, rfl, rfl, hd.keep ((GrowBut.of (.refl _)).set _), (gr2.set hge _), hnx2⟩
                    | false =>
                      have ht0 : takeT o a y = none := by unfold takeT; rw [if_neg c105, if_neg c118, if_neg c115, if_neg c112, if_neg c50, if_neg c100, if_neg c109, if_pos c97]; rw [if_neg (by rw [hnb]; simp)]
                      simp (maxSteps := 10000000) (disch := omega) only [vq0, vq1, vq2, vq3, vq4, vq5, tagOf, reduceIte, reduceCtorEq, Nat.reduceEqDiff, Nat.reduceAdd, Nat.reduceSub, Nat.reduceMul, Nat.reduceLT, Nat.reduceLeDiff, Int.reduceToNat, Nat.reduceBEq, tq1, tq2, tq3, r3, r5, r6, r8, r9, r13, m0, m1, m2, ia, iy, byteV_at, (refTwo_ok y hyl _).eq, (refNumber_ok y hyl _).eq, hnb]
                      exact ⟨(gr2.set hge _).set (Nat.le_refl _) _, pn (nope ht0) _⟩
                  by_cases c108 : a.toNat = 108
                  · cases hnb : numB y with
                    | true =>
                      have ht0 : takeT o a y = some { o with len := numV y } := by unfold takeT; rw [if_neg c105, if_neg c118, if_neg c115, if_neg c112, if_neg c50, if_neg c100, if_neg c109, if_neg c97, if_pos c108]; rw [if_pos hnb]
                      simp (maxSteps := 10000000) (disch := omega) only [vq0, vq1, vq2, vq3, vq4, vq5, tagOf, reduceIte, reduceCtorEq, Nat.reduceEqDiff, Nat.reduceAdd, Nat.reduceSub, Nat.reduceMul, Nat.reduceLT, Nat.reduceLeDiff, Int.reduceToNat, Nat.reduceBEq, tq1, tq2, tq3, r3, r5, r6, r8, r9, r13, m0, m1, m2, ia, iy, byteV_at, (refTwo_ok y hyl _).eq, (refNumber_ok y hyl _).eq, hnb]
                      exact ⟨k2 - 1, by omega, i2 + 1, { o with len := numV y }, d, by omega, next _ ht0, snx _ ht0, rfl, rfl, rfl, hd.keep ((GrowBut.of (.refl _)).set _), (gr2.set hge _), hnx2⟩
                    | false =>
                      have ht0 : takeT o a y = none := by unfold takeT; rw [if_neg c105, if_neg c118, if_neg c115, if_neg c112, if_neg c50, if_neg c100, if_neg c109, if_neg c97, if_pos c108]; rw [if_neg (by rw [hnb]; simp)]
                      simp (maxSteps := 10000000) (disch := omega) only [vq0, vq1, vq2, vq3, vq4, vq5, tagOf, reduceIte, reduceCtorEq, Nat.reduceEqDiff, Nat.reduceAdd, Nat.reduceSub, Nat.reduceMul, Nat.reduceLT, Nat.reduceLeDiff, Int.reduceToNat, Nat.reduceBEq, tq1, tq2, tq3, r3, r5, r6, r8, r9, r13, m0, m1, m2, ia, iy, byteV_at, (refTwo_ok y hyl _).eq, (refNumber_ok y hyl _).eq, hnb]
                      exact ⟨(gr2.set hge _).set (Nat.le_refl _) _, pn (nope ht0) _⟩
                  by_cases c122 : a.toNat = 122
                  · cases hnb : numB y with
                    | true =>
                      have ht0 : takeT o a y = some { o with size := numV y } := by unfold takeT; rw [if_neg c105, if_neg c118, if_neg c115, if_neg c112, if_neg c50, if_neg c100, if_neg c109, if_neg c97, if_neg c108, if_pos c122]; rw [if_pos hnb]
                      simp (maxSteps := 10000000) (disch := omega) only [vq0, vq1, vq2, vq3, vq4, vq5, tagOf, reduceIte, reduceCtorEq, Nat.reduceEqDiff, Nat.reduceAdd, Nat.reduceSub, Nat.reduceMul, Nat.reduceLT, Nat.reduceLeDiff, Int.reduceToNat, Nat.reduceBEq, tq1, tq2, tq3, r3, r5, r6, r8, r9, r13, m0, m1, m2, ia, iy, byteV_at, (refTwo_ok y hyl _).eq, (refNumber_ok y hyl _).eq, hnb]
                      exact ⟨k2 - 1, by omega, i2 + 1, { o with size := numV y }, d, by omega, next _ ht0, snx _ ht0, rfl, rfl, rfl, hd.keep ((GrowBut.of (.refl _)).set _), (gr2.set hge _), hnx2⟩
                    | false =>
                      have ht0 : takeT o a y = none := by unfold takeT; rw [if_neg c105, if_neg c118, if_neg c115, if_neg c112, if_neg c50, if_neg c100, if_neg c109, if_neg c97, if_neg c108, if_pos c122]; rw [if_neg (by rw [hnb]; simp)]
                      simp (maxSteps := 10000000) (disch := omega) only [vq0, vq1, vq2, vq3, vq4, vq5, tagOf, reduceIte, reduceCtorEq, Nat.reduceEqDiff, Nat.reduceAdd, Nat.reduceSub, Nat.reduceMul, Nat.reduceLT, Nat.reduceLeDiff, Int.reduceToNat, Nat.reduceBEq, tq1, tq2, tq3, r3, r5, r6, r8, r9, r13, m0, m1, m2, ia, iy, byteV_at, (refTwo_ok y hyl _).eq, (refNumber_ok y hyl _).eq, hnb]
                      exact ⟨(gr2.set hge _).set (Nat.le_refl _) _, pn (nope ht0) _⟩
                  by_cases c111 : a.toNat = 111
                  · cases hnb : numB y with
                    | true =>
                      have ht0 : takeT o a y = some { o with object := numV y } := by unfold takeT; rw [if_neg c105, if_neg c118, if_neg c115, if_neg c112, if_neg c50, if_neg c100, if_neg c109, if_neg c97, if_neg c108, if_neg c122, if_pos c111]; rw [if_pos hnb]
                      simp (maxSteps := 10000000) (disch := omega) only [vq0, vq1, vq2, vq3, vq4, vq5, tagOf, reduceIte, reduceCtorEq, Nat.reduceEqDiff, Nat.reduceAdd, Nat.reduceSub, Nat.reduceMul, Nat.reduceLT, Nat.reduceLeDiff, Int.reduceToNat, Nat.reduceBEq, tq1, tq2, tq3, r3, r5, r6, r8, r9, r13, m0, m1, m2, ia, iy, byteV_at, (refTwo_ok y hyl _).eq, (refNumber_ok y hyl _).eq, hnb]
                      exact ⟨k2 - 1, by omega, i2 + 1, { o with object := numV y }, d, by omega, next _ ht0, snx _ ht0, rfl, rfl, rfl, hd.keep ((GrowBut.of (.refl _)).set _), (gr2.set hge _), hnx2⟩
                    | false =>
                      have ht0 : takeT o a y = none := by unfold takeT; rw [if_neg c105, if_neg c118, if_neg c115, if_neg c112, if_neg c50, if_neg c100, if_neg c109, if_neg c97, if_neg c108, if_neg c122, if_pos c111]; rw [if_neg (by rw [hnb]; simp)]
                      simp (maxSteps := 10000000) (disch := omega) only [vq0, vq1, vq2, vq3, vq4, vq5, tagOf, reduceIte, reduceCtorEq, Nat.reduceEqDiff, Nat.reduceAdd, Nat.reduceSub, Nat.reduceMul, Nat.reduceLT, Nat.reduceLeDiff, Int.reduceToNat, Nat.reduceBEq, tq1, tq2, tq3, r3, r5, r6, r8, r9, r13, m0, m1, m2, ia, iy, byteV_at, (refTwo_ok y hyl _).eq, (refNumber_ok y hyl _).eq, hnb]
                      exact ⟨(gr2.set hge _).set (Nat.le_refl _) _, pn (nope ht0) _⟩
                  exfalso
                  have hka := List.all_eq_true.1 hkn a (List.mem_of_getElem? ha)
                  unfold knownB at hka
                  simp at hka
                  omega
                · have hi3 : i2 = ws.length := by omega
                  subst hi3
                  rw [List.drop_of_length_le (show wn.length ≤ ws.length by omega), takesT_nil] at ht
                  rw [← ht] at hpt
                  have hps := fun h3 hd => ps (numV c) o d h3 hpt hd
                  unfold opC at hps
                  have hq : ∀ l : List Value, RowAt (h2.set h.next (.cells l true none)) d o.data := fun l => by
                    rcases hd with ⟨q1, q2⟩ | ⟨cc, q1, q2, q3, q4⟩
                    · exact .inl ⟨q1, q2⟩
                    · refine .inr ⟨cc, q2, q3, ?_⟩
                      rw [get_set_ne]
                      · exact q4
                      · rintro rfl
                        rw [m0] at q4
                        have e1 := Option.some.inj q4
                        injection e1 with e1
                        have := all_bytes o.data
                        rw [← e1] at this
                        simp [okByte] at this
                  rcases hd with ⟨rfl, q2⟩ | ⟨cc, q1, q2, rfl, q4⟩
                  · simp (maxSteps := 10000000) (disch := omega) only [vq0, vq1, vq2, vq3, vq4, vq5, tagOf, reduceIte, reduceCtorEq, Nat.reduceEqDiff, Nat.reduceAdd, Nat.reduceSub, Nat.reduceMul, Nat.reduceLT, Nat.reduceLeDiff, Int.reduceToNat, Nat.reduceBEq, tq1, tq2, tq3, r3, r5, r6, r8, r9, r13, m0, m1, m2]
                    exact ⟨gr2.set (Nat.le_refl _) _, hps _ (hq _)⟩
                  · simp (maxSteps := 10000000) (disch := omega) only [vq0, vq1, vq2, vq3, vq4, vq5, tagOf, reduceIte, reduceCtorEq, Nat.reduceEqDiff, Nat.reduceAdd, Nat.reduceSub, Nat.reduceMul, Nat.reduceLT, Nat.reduceLeDiff, Int.reduceToNat, Nat.reduceBEq, tq1, tq2, tq3, r3, r5, r6, r8, r9, r13, m0, m1, m2]
                    exact ⟨gr2.set (Nat.le_refl _) _, hps _ (hq _)⟩
              · refine ⟨0, { TOp.zero with kind := kd }, .slice none 0 0, by omega, rfl, fun _ => rfl, ?_⟩
                simp (maxSteps := 10000000) (disch := omega) only [vq0, vq1, vq2, vq3, vq4, vq5, tagOf, reduceIte, reduceCtorEq, Nat.reduceEqDiff, Nat.reduceAdd, Nat.reduceSub, Nat.reduceMul, Nat.reduceLT, Nat.reduceLeDiff, Int.reduceToNat, Nat.reduceBEq, tq1, tq2, tq3, r3, r5, r6, r8, r9, m0, m1, m2]
                exact ⟨rfl, rfl, rfl, .inl ⟨rfl, rfl⟩, gr, hnx⟩
        · refine ⟨0, [], 0, by omega, rfl, by simp, ?_⟩
          simp (maxSteps := 10000000) (disch := omega) only [vq0, vq1, vq2, vq3, vq4, vq5, tagOf, reduceIte, reduceCtorEq, Nat.reduceEqDiff, Nat.reduceAdd, Nat.reduceSub, Nat.reduceMul, Nat.reduceLT, Nat.reduceLeDiff, Int.reduceToNat, Nat.reduceBEq, tq1, tq2, tq3, hbw, hz1]
          exact ⟨rfl, rfl, rfl, (gh1.more _).set (by have := gh1.next; omega) _, Nat.le_refl _⟩
end Go.Proofs.YtijnnpbfgmmngaaGreatDoor.C
