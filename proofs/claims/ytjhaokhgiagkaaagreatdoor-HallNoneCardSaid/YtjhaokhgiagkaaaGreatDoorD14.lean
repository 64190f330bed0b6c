/- D14: a state is written as a generation. -/
import Derived.Test.YtjhaokhgiagkaaaGreatDoorD13
open Go Go.Vi Go.Bm
namespace Go.Proofs.YtjhaokhgiagkaaaGreatDoor.C
set_option linter.unusedSimpArgs false
set_option maxRecDepth 100000
set_option maxHeartbeats 40000000
theorem out_cut (h0 h : Heap) (p : Nat) (l : List UInt8) (x : Wt h0 h p l) (hl : l.length ≤ 100000000) :
    Ret E f_p_wire_Writer_Out [.pointer (some ⟨p, 0, none⟩)] h (fun u h' => Grow h h' ∧ BRow h' u l ∧ (∀ b, blkOf u = some b → h.next ≤ b) ∧ Cut1 h' u) := by
  refine ret_fun is_p_wire_Writer_Out (by simp) ?_
  unfold g_p_wire_Writer_Out
  obtain ⟨⟨v, h1, h2, h3⟩, ⟨h4, h5⟩, g⟩ := x
  simp (maxSteps := 10000000) (disch := omega) only [vq0, vq1, vq2, vq3, vq4, vq5, tagOf, reduceIte, reduceCtorEq, Nat.reduceEqDiff, Nat.reduceAdd, Nat.reduceSub, Nat.reduceMul, Nat.reduceLT, Nat.reduceLeDiff, Int.reduceToNat, Nat.reduceBEq, tq1, tq2, tq3, tq4, tq5, h1]
  refine (cloneB_ok v l h h2.row hl).mono ?_
  rintro u h' ⟨q1, q2, q3, q4, _⟩
  simp (maxSteps := 10000000) (disch := omega) only [vq0, vq1, vq2, vq3, vq4, vq5, tagOf, reduceIte, reduceCtorEq, Nat.reduceEqDiff, Nat.reduceAdd, Nat.reduceSub, Nat.reduceMul, Nat.reduceLT, Nat.reduceLeDiff, Int.reduceToNat, Nat.reduceBEq, tq1, tq2, tq3, tq4, tq5]
  exact ⟨q1, q2, q3, q4⟩
theorem number_ok (h : Heap) (n : Int) : Ret E f_journal_number [.int .i64 n] h fun u h' => Grow h h' ∧ BRow h' u (numB n) ∧ ∀ b, blkOf u = some b → h.next ≤ b := by
  refine ret_fun is_journal_number (by simp) ?_
  unfold g_journal_number
  simp (maxSteps := 10000000) (disch := omega) only [vq0, vq1, vq2, vq3, vq4, vq5, tagOf, reduceIte, reduceCtorEq, Nat.reduceEqDiff, Nat.reduceAdd, Nat.reduceSub, Nat.reduceMul, Nat.reduceLT, Nat.reduceLeDiff, Int.reduceToNat, Nat.reduceBEq, tq1, tq2, tq3, tq4, tq5]
  obtain ⟨hA, eA⟩ : ∃ y, y = h.new (.cells [.slice none 0 0] true none) := ⟨_, rfl⟩
  have gA : Grow h hA := by rw [eA]; exact .new h _
  have pA : hA.get h.next = some (.cells [.slice none 0 0] true none) := by rw [eA]; exact get_new_same _ _
  have nA : hA.next = h.next + 1 := by rw [eA]; rfl
  rw [← eA]
  clear eA
  have x0 : Wt h hA h.next [] := ⟨⟨_, pA, .nil _ _ _ _, fun e => nomatch e⟩, ⟨by omega, by omega⟩, gA⟩
  refine (wnum_ok h hA h.next [] n x0 (by simp)).mono ?_
  rintro u h1 ⟨x1, f1⟩
  simp (maxSteps := 10000000) (disch := omega) only [vq0, vq1, vq2, vq3, vq4, vq5, tagOf, reduceIte, reduceCtorEq, Nat.reduceEqDiff, Nat.reduceAdd, Nat.reduceSub, Nat.reduceMul, Nat.reduceLT, Nat.reduceLeDiff, Int.reduceToNat, Nat.reduceBEq, tq1, tq2, tq3, tq4, tq5]
  refine (out_ok h h1 h.next _ x1 (by simp [numB_len])).mono ?_
  rintro u h2 ⟨g2, hu, hb⟩
  simp (maxSteps := 10000000) (disch := omega) only [vq0, vq1, vq2, vq3, vq4, vq5, tagOf, reduceIte, reduceCtorEq, Nat.reduceEqDiff, Nat.reduceAdd, Nat.reduceSub, Nat.reduceMul, Nat.reduceLT, Nat.reduceLeDiff, Int.reduceToNat, Nat.reduceBEq, tq1, tq2, tq3, tq4, tq5]
  have n1 := x1.lt
  exact ⟨x1.g.trans g2, hu, fun b hb2 => by have := hb b hb2; omega⟩
theorem BoxesAt.len {h0 h : Heap} {v : Value} {k g fr : Int} {F : Nat → List UInt8} {N : Nat} (x : BoxesAt h0 h v k g fr F N) : ∃ a c, v = .slice a N c := by
  obtain ⟨xs, ow, hxs, hxr⟩ := x
  have hxn : xs.length = N := by have := congrArg List.length hxs; rw [List.length_map, List.length_map, List.length_range] at this; exact this
  have fl : (xs.flatMap (bxC k g)).length = xs.length * 4 := flat_len fun _ _ => rfl
  obtain ⟨av, nv, cv, ev, hvn, hvc⟩ := ow.row.is
  have : nv = N := by omega
  subst this
  exact ⟨av, cv, ev⟩
theorem BoxesAt.grow {h0 h h' : Heap} {v : Value} {k g fr : Int} {F : Nat → List UInt8} {N : Nat} (x : BoxesAt h0 h v k g fr F N) (gr : Grow h h') : BoxesAt h0 h' v k g fr F N := by
  obtain ⟨xs, ow, hxs, hxr⟩ := x
  exact ⟨xs, ow.grow gr, hxs, fun x hx => ⟨(hxr x hx).1.grow gr, (hxr x hx).2⟩⟩
theorem piece_len (d : List UInt8) (j : Nat) : (piece d j).length ≤ 106 := by unfold piece; rw [List.length_take]; omega
theorem DW.area {n0 N p m : Nat} {h : Heap} {size : Int} {ws : List (Int × List UInt8)} {f : Int → List UInt8} (x : DW n0 N h p m size ws f) (h1 : 2 ≤ size) (h2 : size ≤ 1000000) : Ret E f_journal_area [.pointer (some ⟨p, 0, none⟩)] h fun v h' => v = .int .i64 ((size - 2) / 3) ∧ h' = h := by
  obtain ⟨d, hd, _, hs, _⟩ := x
  rw [← hs]
  exact area_ok h p d hd (by omega) (by omega)
theorem DW.areaAt {n0 N p m : Nat} {h : Heap} {size : Int} {ws : List (Int × List UInt8)} {f : Int → List UInt8} (x : DW n0 N h p m size ws f) (g : Int) (h1 : 2 ≤ size) (h2 : size ≤ 1000000) (hg : 0 ≤ g) : Ret E f_journal_areaAt [.pointer (some ⟨p, 0, none⟩), .int .i64 g] h fun v h' => v = .int .i64 (2 + g % 2 * ((size - 2) / 3)) ∧ h' = h := by
  obtain ⟨d, hd, _, hs, _⟩ := x
  rw [← hs]
  exact areaAt_ok h p g d hd (by omega) (by omega) hg
theorem DW.len {n0 N p m : Nat} {h : Heap} {size : Int} {ws : List (Int × List UInt8)} {f : Int → List UInt8} (x : DW n0 N h p m size ws f) : Ret E f_p_disk_Disk_Len [.pointer (some ⟨p, 0, none⟩)] h fun v h' => v = .int .i64 size ∧ h' = h := by
  obtain ⟨d, hd, _, hs, _⟩ := x
  rw [← hs]
  exact len_ok h p d hd
def nParts (data : List UInt8) : Nat := (data.length + 105) / 106
def wrote (f : Int → List UInt8) (size gen : Int) (data : List UInt8) : Int → List UInt8 :=
  upd ((partW 2 gen 0 (2 + gen % 2 * ((size - 2) / 3)) (piece data) (nParts data)).foldl upd f) (gen % 2, sealS 1 gen 0 (numB data.length))
theorem writeJ_ok (h : Heap) (p m M : Nat) (size gen : Int) (f : Int → List UInt8) (v : Value) (data : List UInt8) (x : DW h.next (M + nParts data + 3) h p m size [] f) (hs : 8 ≤ size ∧ size ≤ 20000) (hv : BRow h v data) (hc : Cut1 h v) (hlt : ∀ b, blkOf v = some b → b < h.next)
    (hg : 0 ≤ gen ∧ gen ≤ 4611686018427387904) (hN : (nParts data : Int) ≤ (size - 2) / 3) :
    Ret E f_journal_write [.pointer (some ⟨p, 0, none⟩), .int .i64 gen, v] h fun u h' => u = .nilIface ∧ DW h.next M h' p m size [] (wrote f size gen data) ∧ Frm h.next p m h h' := by
  refine ret_fun is_journal_write (by simp) ?_
  unfold g_journal_write
  have hdl : data.length ≤ 10000000 := by unfold nParts at hN; omega
  have pb : p < h.next ∧ m < h.next := by obtain ⟨d, _, _, _, _, _, h6, h7, _⟩ := x; exact ⟨h6, h7⟩
  obtain ⟨av, cv, ev⟩ := hv.is
  have hlen : lenP E t_s_uint8 v = some (.int .i64 (data.length : Int)) := by rw [ev]; simp (maxSteps := 10000000) (disch := omega) only [vq0, vq1, vq2, vq3, vq4, vq5, tagOf, reduceIte, reduceCtorEq, Nat.reduceEqDiff, Nat.reduceAdd, Nat.reduceSub, Nat.reduceMul, Nat.reduceLT, Nat.reduceLeDiff, Int.reduceToNat, Nat.reduceBEq, tq1, tq2, tq3, tq4, tq5]
  simp (maxSteps := 10000000) (disch := omega) only [vq0, vq1, vq2, vq3, vq4, vq5, tagOf, reduceIte, reduceCtorEq, Nat.reduceEqDiff, Nat.reduceAdd, Nat.reduceSub, Nat.reduceMul, Nat.reduceLT, Nat.reduceLeDiff, Int.reduceToNat, Nat.reduceBEq, tq1, tq2, tq3, tq4, tq5]
  refine (boxes_ok h v data 2 gen 0 hv hc hdl hlt (by omega)).mono ?_
  rintro w h1 ⟨g1, bx⟩
  rw [show (data.length + 105) / 106 = nParts data from rfl] at bx
  obtain ⟨aw, cw, rfl⟩ := bx.len
  have n1 := g1.next
  have x1 := (x.grow g1).base (n1 := h1.next) (Nat.le_refl _) (by omega) (by omega)
  simp (maxSteps := 10000000) (disch := omega) only [vq0, vq1, vq2, vq3, vq4, vq5, tagOf, reduceIte, reduceCtorEq, Nat.reduceEqDiff, Nat.reduceAdd, Nat.reduceSub, Nat.reduceMul, Nat.reduceLT, Nat.reduceLeDiff, Int.reduceToNat, Nat.reduceBEq, tq1, tq2, tq3, tq4, tq5, (x1.area (by omega) (by omega)).eq, (x1.areaAt gen (by omega) (by omega) hg.1).eq, hlen]
  refine (number_ok h1 _).mono ?_
  rintro u h2 ⟨g2, hu, hub⟩
  have n2 := g2.next
  obtain ⟨au, cu, eu⟩ := hu.is
  have huo := hu.one
  have huc : cellsOf u = [u] := by rw [eu]; rfl
  simp (maxSteps := 10000000) (disch := omega) only [vq0, vq1, vq2, vq3, vq4, vq5, tagOf, reduceIte, reduceCtorEq, Nat.reduceEqDiff, Nat.reduceAdd, Nat.reduceSub, Nat.reduceMul, Nat.reduceLT, Nat.reduceLeDiff, Int.reduceToNat, Nat.reduceBEq, tq1, tq2, tq3, tq4, tq5, huc, huo]
  have hmod : 0 ≤ gen % 2 ∧ gen % 2 ≤ 1 := by omega
  have hmul : 0 ≤ gen % 2 * ((size - 2) / 3) ∧ gen % 2 * ((size - 2) / 3) ≤ (size - 2) / 3 := by
    rcases (show gen % 2 = 0 ∨ gen % 2 = 1 by omega) with e | e <;> rw [e] <;> omega
  refine (rows_ok h h2 p m (nParts data) M size f _ u 2 gen 0 (2 + gen % 2 * ((size - 2) / 3)) 1 gen 0 (gen % 2) (piece data) (numB data.length) ((x1.grow g2).base (Nat.le_refl _) (by omega) (by omega)) pb.1 pb.2 (bx.grow g2) (fun j _ => piece_len data j) (by omega)
    (by omega) hg (by omega) (by omega) (by omega) (by omega) hg (by omega) (by omega) (by rw [numB_len]; omega) hu (fun b hb => by have := hub b hb; omega)).mono ?_
  rintro u2 h3 ⟨rfl, dw3, fr3⟩
  simp (maxSteps := 10000000) (disch := omega) only [vq0, vq1, vq2, vq3, vq4, vq5, tagOf, reduceIte, reduceCtorEq, Nat.reduceEqDiff, Nat.reduceAdd, Nat.reduceSub, Nat.reduceMul, Nat.reduceLT, Nat.reduceLeDiff, Int.reduceToNat, Nat.reduceBEq, tq1, tq2, tq3, tq4, tq5]
  have n3 := fr3.next
  exact ⟨dw3.base (by omega) pb.1 pb.2, (Frm.of (g1.trans g2) (Nat.le_refl _)).trans (fr3.down (by omega))⟩
theorem zsec_is : z_t_api_Sector = zsec.map byteV := by kernel_rfl
theorem write_w {n0 N p m : Nat} {h : Heap} {size : Int} {ws : List (Int × List UInt8)} {f : Int → List UInt8} (x : DW n0 (N + 1) h p m size ws f) (i : Int) (s : List UInt8) (hs : s.length = 128) (hi : 0 ≤ i ∧ i < size) (hn : ws.length ≤ 10000) :
    Ret E f_p_disk_Disk_Write [.pointer (some ⟨p, 0, none⟩), .int .i64 i, .agg ⟨s.map byteV⟩] h fun u h' => u = .nilIface ∧ DW n0 N h' p m size (ws ++ [(i, s)]) f ∧ Frm n0 p m h h' := by
  obtain ⟨d, h1, h2, h3, h4, h5, h6, h7, h8, h9, h10, h11⟩ := x
  have hb : ∀ b, blkOf d.wait = some b → n0 ≤ b := fun b hb => (h10.lt hb).1
  have lv := h2.live
  refine (write_ok (atN h 0) h p i s d ws h1 lv.armed lv.gone lv.s0 lv.s1 lv.l0 lv.l1 (atN_grow (Nat.zero_le _)) ⟨Nat.zero_le _, by omega⟩ (h10.since (Nat.zero_le _)) (fun e => by have := hb p e; omega) (by rw [h3]; exact hi) hs hn (flat129 h11)).mono ?_
  rintro u h' ⟨rfl, w', d1, o1, b1, n1, k1⟩
  have hfr : ∀ c, c < n0 → c ≠ p → h'.get c = h.get c := fun c hc hp => k1 c (by omega) hp fun e => by have := hb c e; omega
  refine ⟨rfl, ⟨_, d1, h2.step, h3, h4, h5.keep (hfr m h7 (fun e => h8 e.symm)), h6, h7, h8, by omega, ?_, ?_⟩, ⟨n1, fun c hc hp _ => hfr c hc hp⟩⟩
  · rcases o1 with o1 | ⟨b, q, e, r1, r2, r3, r4, r5⟩
    · exact .inl o1
    · exact .inr ⟨b, q, e, r1, r2, by have := b1 b (by rw [e]; rfl); show n0 ≤ b; omega, r4, r5⟩
  · intro w hw
    rcases List.mem_append.1 hw with hw | hw
    · exact h11 w hw
    · rw [List.mem_singleton] at hw
      rw [hw]
      exact hs
end Go.Proofs.YtjhaokhgiagkaaaGreatDoor.C
