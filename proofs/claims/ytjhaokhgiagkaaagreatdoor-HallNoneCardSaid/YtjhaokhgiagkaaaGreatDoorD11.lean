/- D11: the boxes of parts. -/
import Derived.Test.YtjhaokhgiagkaaaGreatDoorD10
open Go Go.Vi Go.Bm
namespace Go.Proofs.YtjhaokhgiagkaaaGreatDoor.C
set_option linter.unusedSimpArgs false
set_option maxRecDepth 100000
set_option maxHeartbeats 40000000
theorem okSrc_boxes : okSrc E (some t_s_box_Box) = some true := by kernel_rfl
def bxC (k g : Int) (x : Int × Value × List UInt8) : List Value := [.int .i64 k, .int .i64 g, .int .i64 x.1, x.2.1]
def BoxesAt (h0 h : Heap) (v : Value) (k g fr : Int) (F : Nat → List UInt8) (N : Nat) : Prop := ∃ xs : List (Int × Value × List UInt8), Own h0 h 4 t_box_Box v (xs.flatMap (bxC k g)) ∧
  xs.map (fun x => (x.1, x.2.2)) = (List.range N).map (fun j : Nat => (fr + (j : Int), F j)) ∧ ∀ x ∈ xs, BRow h x.2.1 x.2.2 ∧ ∀ b, blkOf x.2.1 = some b → h0.next ≤ b
theorem boxes_ok (h : Heap) (d : Value) (data : List UInt8) (k g fr : Int) (hd : BRow h d data) (hc : Cut1 h d) (hl : data.length ≤ 10000000) (hlt : ∀ b, blkOf d = some b → b < h.next) (hf : 0 ≤ fr ∧ fr ≤ 1000000000) :
    Ret E f_journal_boxes [d, .int .i64 k, .int .i64 g, .int .i64 fr] h fun v h' => Grow h h' ∧ BoxesAt h h' v k g fr (piece data) ((data.length + 105) / 106) := by
  refine ret_fun is_journal_boxes (by simp) ?_
  unfold g_journal_boxes
  have hdn := hd.is
  simp (maxSteps := 10000000) (disch := omega) only [vq0, vq1, vq2, vq3, vq4, vq5, tagOf, reduceIte, reduceCtorEq, Nat.reduceEqDiff, Nat.reduceAdd, Nat.reduceSub, Nat.reduceMul, Nat.reduceLT, Nat.reduceLeDiff, Int.reduceToNat, Nat.reduceBEq, tq1, tq2, tq3, tq4, tq5]
  refine (parts_ok h d data hd hc (by omega) hlt).mono ?_
  rintro v hP ⟨gP, qs, ow, hq, hr⟩
  obtain ⟨N, eN⟩ : ∃ N, N = (data.length + 105) / 106 := ⟨_, rfl⟩
  rw [← eN] at hq ⊢
  have hqn : qs.length = N := by have := congrArg List.length hq; rw [List.length_map, List.length_map, List.length_range] at this; exact this
  obtain ⟨av, nv, cv, ev, hvn, hvc⟩ := ow.row.is
  rw [List.length_map, Nat.mul_one, hqn] at hvn
  subst hvn
  have hlen : lenP E t_s_s_uint8 v = some (.int .i64 (nv : Int)) := by rw [ev]; simp (maxSteps := 10000000) (disch := omega) only [vq0, vq1, vq2, vq3, vq4, vq5, tagOf, reduceIte, reduceCtorEq, Nat.reduceEqDiff, Nat.reduceAdd, Nat.reduceSub, Nat.reduceMul, Nat.reduceLT, Nat.reduceLeDiff, Int.reduceToNat, Nat.reduceBEq, tq1, tq2, tq3, tq4, tq5]
  simp (maxSteps := 10000000) (disch := omega) only [vq0, vq1, vq2, vq3, vq4, vq5, tagOf, reduceIte, reduceCtorEq, Nat.reduceEqDiff, Nat.reduceAdd, Nat.reduceSub, Nat.reduceMul, Nat.reduceLT, Nat.reduceLeDiff, Int.reduceToNat, Nat.reduceBEq, tq1, tq2, tq3, tq4, tq5, hlen]
  refine r_loop (k := nv) (fun kk ρ h' => ∃ (i : Nat) (w : Value) (xs : List (Int × Value × List UInt8)), i + kk = nv ∧ Grow hP h' ∧ Own hP h' 4 t_box_Box w (xs.flatMap (bxC k g)) ∧ xs.map (fun x => (x.1, x.2.2)) = (List.range i).map (fun j : Nat => (fr + (j : Int), piece data j)) ∧ (∀ x ∈ xs, BRow hP x.2.1 x.2.2 ∧ ∀ b, blkOf x.2.1 = some b → h.next ≤ b) ∧
    ρ 1 = .int .i64 k ∧ ρ 2 = .int .i64 g ∧ ρ 3 = .int .i64 fr ∧ ρ 9 = w ∧ ρ 13 = v ∧ ρ 14 = .int .i64 nv ∧ ρ 15 = .int .i64 (i : Int)) ?_ ?_
  · rintro kk ρ h' ⟨i, w, xs, hk, gr, owx, hxs, hxr, r1, r2, r3, r9, r13, r14, r15⟩
    unfold g_journal_boxes_L0
    have hxn : xs.length = i := by have := congrArg List.length hxs; rw [List.length_map, List.length_map, List.length_range] at this; exact this
    rcases Nat.lt_or_ge i nv with hi | hi
    · have hqi : qs[i]? = some qs[i] := List.getElem?_eq_getElem (by omega)
      have hq2 : (qs[i]).2 = piece data i := by
        have := congrArg (·[i]?) hq
        simp only [List.getElem?_map, hqi, List.getElem?_range hi, Option.map_some] at this
        exact Option.some.inj this
      obtain ⟨hqb, hqa⟩ := hr qs[i] (List.getElem_mem (by omega))
      rw [hq2] at hqb
      generalize qs[i] = q at hqi hqb hqa hq2
      rcases ow with ⟨_, e⟩ | ⟨b, n, e, hn0, hnl, hb0, hb1, hg⟩
      · rw [List.map_eq_nil_iff.1 e] at hqn; simp at hqn; omega
      · have e0 := e
        rw [ev] at e
        cases e
        have hgb := (gr.get b hb1).trans hg
        have hcell : cellAt (h'.get b) i = some q.1 := by rw [hgb]; show (qs.map (·.1))[i]? = _; rw [List.getElem?_map, hqi]; rfl
        obtain ⟨aq, cq, eq⟩ := hqb.is
        have hqc : cellsOf q.1 = [q.1] := by rw [eq]; rfl
        have hqo := hqb.one
        subst e0
        simp (maxSteps := 10000000) (disch := omega) only [vq0, vq1, vq2, vq3, vq4, vq5, tagOf, reduceIte, reduceCtorEq, Nat.reduceEqDiff, Nat.reduceAdd, Nat.reduceSub, Nat.reduceMul, Nat.reduceLT, Nat.reduceLeDiff, Int.reduceToNat, Nat.reduceBEq, tq1, tq2, tq3, tq4, tq5, r1, r2, r3, r9, r13, r14, r15, hcell, hqc, hqo]
        have g2 : Grow hP (h'.new (.cells [.int .i64 k, .int .i64 g, .int .i64 (fr + (i : Int)), q.1] true none)) := gr.trans (.new _ _)
        have fl : (xs.flatMap (bxC k g)).length = xs.length * 4 := flat_len fun _ _ => rfl
        obtain ⟨w2, h2, happ, ow2, g3, n3, hb3, k3⟩ := own_app sl_s_box_Box okSrc_boxes (owx.grow (.new h' (.cells [.int .i64 k, .int .i64 g, .int .i64 (fr + (i : Int)), q.1] true none))) g2 (b2 := h'.next) (o2 := 0) (n := 1) (c2 := 1) (new := [.int .i64 k, .int .i64 g, .int .i64 (fr + (i : Int)), q.1])
          (by rw [get_new_same]; rfl) (by omega) (by rw [List.all_cons, List.all_cons, List.all_cons, List.all_cons, hqo]; rfl) (by rw [fl, hxn]; simp; omega) (by decide)
        obtain ⟨a2, n2, c2, e2, _⟩ := ow2.row.is
        subst e2
        simp (maxSteps := 10000000) (disch := omega) only [vq0, vq1, vq2, vq3, vq4, vq5, tagOf, reduceIte, reduceCtorEq, Nat.reduceEqDiff, Nat.reduceAdd, Nat.reduceSub, Nat.reduceMul, Nat.reduceLT, Nat.reduceLeDiff, Int.reduceToNat, Nat.reduceBEq, tq1, tq2, tq3, tq4, tq5, happ, r1, r2, r3, r13, r14, r15]
        refine ⟨kk - 1, by omega, i + 1, _, xs ++ [(fr + (i : Int), q.1, q.2)], by omega, g3, ?_, ?_, ?_, rfl, ?_⟩
        · rw [List.flatMap_append]
          exact ow2
        · rw [List.map_append, hxs, List.range_succ, List.map_append, hq2]; rfl
        · intro x hx
          rcases List.mem_append.1 hx with hx | hx
          · exact hxr x hx
          · rw [List.mem_singleton] at hx
            rw [hx]
            show BRow hP q.1 q.2 ∧ ∀ b, blkOf q.1 = some b → h.next ≤ b
            rw [hq2]
            exact ⟨hqb, fun b hb => (hqa b hb).1⟩
        · rfl
    · have hi2 : i = nv := by omega
      subst hi2
      obtain ⟨a2, n2, c2, e2, _⟩ := owx.row.is
      subst e2
      simp (maxSteps := 10000000) (disch := omega) only [vq0, vq1, vq2, vq3, vq4, vq5, tagOf, reduceIte, reduceCtorEq, Nat.reduceEqDiff, Nat.reduceAdd, Nat.reduceSub, Nat.reduceMul, Nat.reduceLT, Nat.reduceLeDiff, Int.reduceToNat, Nat.reduceBEq, tq1, tq2, tq3, tq4, tq5, r1, r2, r3, r9, r13, r14, r15]
      exact ⟨gP.trans gr, xs, owx.since gP.next, hxs, fun x hx => ⟨(hxr x hx).1.grow gr, (hxr x hx).2⟩⟩
  · refine ⟨0, .slice none 0 0, [], by omega, .refl _, .nil _ _ _ _, rfl, (fun _ h => nomatch h), ?_⟩
    simp (maxSteps := 10000000) (disch := omega) only [vq0, vq1, vq2, vq3, vq4, vq5, tagOf, reduceIte, reduceCtorEq, Nat.reduceEqDiff, Nat.reduceAdd, Nat.reduceSub, Nat.reduceMul, Nat.reduceLT, Nat.reduceLeDiff, Int.reduceToNat, Nat.reduceBEq, tq1, tq2, tq3, tq4, tq5]
    rfl
end Go.Proofs.YtjhaokhgiagkaaaGreatDoor.C
