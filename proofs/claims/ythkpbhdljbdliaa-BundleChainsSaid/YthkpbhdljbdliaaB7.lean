/- B7: the law of chains: it answers true, whatever the diffs. -/
import Derived.Test.YthkpbhdljbdliaaB6
import Derived.Test.YthkpbhdljbdliaaPl
open Go Go.Vi Go.Bm
namespace Go.Proofs.Ythkpbhdljbdliaa.C
set_option linter.unusedSimpArgs false
set_option maxRecDepth 100000
set_option maxHeartbeats 40000000
theorem alive_ret (h : Heap) (Q : Value → Heap → Prop) : Ret E f_laminalaw23_alive [] h Q = Q (.bool true) h :=
  Ret.eq (ret_ext (g := memo (.bool true)) (by kernel_rfl) (by kernel_rfl) rfl ⟨rfl, rfl⟩) Q
theorem DRow_veq {h : Heap} {v : Value} {r : List Rec} (x : DRow h v r) : ∀ n, veq (n + 1) v v = true := by
  obtain ⟨a, c, rfl⟩ := x.is
  intro n
  simp (maxSteps := 10000000) (disch := omega) only [vq0, vq1, vq2, vq3, vq4, vq5, tagOf, reduceIte, reduceCtorEq, Nat.reduceEqDiff, Nat.reduceAdd, Nat.reduceSub, Nat.reduceMul, Nat.reduceLT, Nat.reduceLeDiff, Int.reduceToNat, Nat.reduceBEq, tq1, tq2, tq3]
structure K3 (h : Heap) (A B C : Blk) (k : Heap) : Prop where
  a : k.get h.next = some A
  b : k.get (h.next + 1) = some B
  c : k.get (h.next + 1 + 1) = some C
  n : h.next + 3 ≤ k.next
  g : Grow h k
theorem K3.grow {h : Heap} {A B C : Blk} {k k' : Heap} (x : K3 h A B C k) (g : Grow k k') : K3 h A B C k' := by
  obtain ⟨a, b, c, n, g0⟩ := x
  have := g.next
  exact ⟨(g.get _ (by omega)).trans a, (g.get _ (by omega)).trans b, (g.get _ (by omega)).trans c, by omega, g0.trans g⟩
theorem K3.start (h : Heap) (A B C : Blk) : K3 h A B C (((h.new A).new B).new C) := by
  refine ⟨?_, ?_, ?_, Nat.le_refl _, ((Grow.new h _).more _).more _⟩
  · simp (maxSteps := 10000000) (disch := omega) only [vq0, vq1, vq2, vq3, vq4, vq5, tagOf, reduceIte, reduceCtorEq, Nat.reduceEqDiff, Nat.reduceAdd, Nat.reduceSub, Nat.reduceMul, Nat.reduceLT, Nat.reduceLeDiff, Int.reduceToNat, Nat.reduceBEq, tq1, tq2, tq3]
  · simp (maxSteps := 10000000) (disch := omega) only [vq0, vq1, vq2, vq3, vq4, vq5, tagOf, reduceIte, reduceCtorEq, Nat.reduceEqDiff, Nat.reduceAdd, Nat.reduceSub, Nat.reduceMul, Nat.reduceLT, Nat.reduceLeDiff, Int.reduceToNat, Nat.reduceBEq, tq1, tq2, tq3]
  · simp (maxSteps := 10000000) (disch := omega) only [vq0, vq1, vq2, vq3, vq4, vq5, tagOf, reduceIte, reduceCtorEq, Nat.reduceEqDiff, Nat.reduceAdd, Nat.reduceSub, Nat.reduceMul, Nat.reduceLT, Nat.reduceLeDiff, Int.reduceToNat, Nat.reduceBEq, tq1, tq2, tq3]
theorem mergeQ_cases {a b : Dif} {v : Value} {h : Heap} (q : MergeQ a b v h) : ∃ m w e, v = .tuple ⟨[.agg ⟨difC m w⟩, e]⟩ ∧ DRow h w m.recs ∧ ((e = .nilIface ∧ goodD a = true ∧ goodD b = true ∧ b.fr = a.to ∧ m = mergeD a b) ∨ ∃ n, e = .iface t_api_Errno (.int .i64 n)) := by
  unfold MergeQ at q
  split at q
  · rename_i hg
    split at q
    · rename_i hf
      obtain ⟨w, rfl, hw⟩ := q
      exact ⟨_, w, _, rfl, hw, .inl ⟨rfl, hg.1, hg.2, hf, rfl⟩⟩
    · exact ⟨_, _, _, q, .nil _, .inr ⟨_, rfl⟩⟩
  · exact ⟨_, _, _, q, .nil _, .inr ⟨_, rfl⟩⟩
theorem runs_len (S : Nat → Option UInt8) (n : Nat) : ∀ k i, (runsP S n k i).length ≤ k
  | 0, _ => by rw [runsP]; simp
  | k + 1, i => by
    rw [runsP]
    split
    · split
      · have := runs_len S n k (runEnd S (n - i) i + 1)
        rw [List.length_cons]
        omega
      · have := runs_len S n k (i + 1)
        omega
    · simp
theorem merge_len {a b : Dif} (hb : goodD b = true) : (mergeD a b).recs.length ≤ 1000000 := by
  have := runs_len (mergeS a b) b.to.toNat (b.to.toNat + 1) 0
  have h2 := (good_of hb).2.1
  have : (mergeD a b).recs.length ≤ b.to.toNat + 1 := this
  omega
def patF (j : Nat) : UInt8 := UInt8.ofNat (3 * j + 1)
theorem pat_byte (i : Nat) : IntKind.u8.wrap (3 * (i : Int) + 1) = ((patF i).toNat : Int) := by
  unfold patF
  rw [IntKind.wrap_u8, UInt8.toNat_ofNat']
  rfl
theorem law_chains (a b c : Dif) (va vb vc : Value) (h : Heap) (ha : DRow h va a.recs) (hb : DRow h vb b.recs) (hc : DRow h vc c.recs) :
    Ret E f_laminalaw23_BundleChains [.agg ⟨difC a va⟩, .agg ⟨difC b vb⟩, .agg ⟨difC c vc⟩] h (fun v _ => v = .bool true) := by
  refine ret_fun is_laminalaw23_BundleChains (by simp) ?_
  unfold g_laminalaw23_BundleChains
  have hda : difC a va = [.int .i64 a.fr, .int .i64 a.to, va] := rfl
  have hdb : difC b vb = [.int .i64 b.fr, .int .i64 b.to, vb] := rfl
  have hdc : difC c vc = [.int .i64 c.fr, .int .i64 c.to, vc] := rfl
  have oa := ha.one
  have ob := hb.one
  have oc := hc.one
  have ea := DRow_veq ha
  have eb := DRow_veq hb
  have ec := DRow_veq hc
  rw [hda, hdb, hdc]
  have k0 := K3.start h (.cells [.int .i64 a.fr, .int .i64 a.to, va] true none) (.cells [.int .i64 b.fr, .int .i64 b.to, vb] true none) (.cells [.int .i64 c.fr, .int .i64 c.to, vc] true none)
  simp (maxSteps := 10000000) (disch := omega) only [vq0, vq1, vq2, vq3, vq4, vq5, tagOf, reduceIte, reduceCtorEq, Nat.reduceEqDiff, Nat.reduceAdd, Nat.reduceSub, Nat.reduceMul, Nat.reduceLT, Nat.reduceLeDiff, Int.reduceToNat, Nat.reduceBEq, tq1, tq2, tq3, alive_ret, oa, ob, oc]
  refine (large_ok a va _ (ha.grow k0.g)).mono ?_
  rintro v1 h1 ⟨g1, q1⟩
  have k1 := k0.grow g1
  rcases q1 with rfl | ⟨rfl, fa⟩
  · simp (maxSteps := 10000000) (disch := omega) only [vq0, vq1, vq2, vq3, vq4, vq5, tagOf, reduceIte, reduceCtorEq, Nat.reduceEqDiff, Nat.reduceAdd, Nat.reduceSub, Nat.reduceMul, Nat.reduceLT, Nat.reduceLeDiff, Int.reduceToNat, Nat.reduceBEq, tq1, tq2, tq3]
  simp (maxSteps := 10000000) (disch := omega) only [vq0, vq1, vq2, vq3, vq4, vq5, tagOf, reduceIte, reduceCtorEq, Nat.reduceEqDiff, Nat.reduceAdd, Nat.reduceSub, Nat.reduceMul, Nat.reduceLT, Nat.reduceLeDiff, Int.reduceToNat, Nat.reduceBEq, tq1, tq2, tq3, k1.b, ob]
  refine (large_ok b vb _ (hb.grow k1.g)).mono ?_
  rintro v2 h2 ⟨g2, q2⟩
  have k2 := k1.grow g2
  rcases q2 with rfl | ⟨rfl, fb⟩
  · simp (maxSteps := 10000000) (disch := omega) only [vq0, vq1, vq2, vq3, vq4, vq5, tagOf, reduceIte, reduceCtorEq, Nat.reduceEqDiff, Nat.reduceAdd, Nat.reduceSub, Nat.reduceMul, Nat.reduceLT, Nat.reduceLeDiff, Int.reduceToNat, Nat.reduceBEq, tq1, tq2, tq3]
  simp (maxSteps := 10000000) (disch := omega) only [vq0, vq1, vq2, vq3, vq4, vq5, tagOf, reduceIte, reduceCtorEq, Nat.reduceEqDiff, Nat.reduceAdd, Nat.reduceSub, Nat.reduceMul, Nat.reduceLT, Nat.reduceLeDiff, Int.reduceToNat, Nat.reduceBEq, tq1, tq2, tq3, k2.c, oc]
  refine (large_ok c vc _ (hc.grow k2.g)).mono ?_
  rintro v3 h3 ⟨g3, q3⟩
  have k3 := k2.grow g3
  rcases q3 with rfl | ⟨rfl, fc⟩
  · simp (maxSteps := 10000000) (disch := omega) only [vq0, vq1, vq2, vq3, vq4, vq5, tagOf, reduceIte, reduceCtorEq, Nat.reduceEqDiff, Nat.reduceAdd, Nat.reduceSub, Nat.reduceMul, Nat.reduceLT, Nat.reduceLeDiff, Int.reduceToNat, Nat.reduceBEq, tq1, tq2, tq3]
  by_cases hfr : a.fr > 5000
  · simp (maxSteps := 10000000) (disch := omega) only [vq0, vq1, vq2, vq3, vq4, vq5, tagOf, reduceIte, reduceCtorEq, Nat.reduceEqDiff, Nat.reduceAdd, Nat.reduceSub, Nat.reduceMul, Nat.reduceLT, Nat.reduceLeDiff, Int.reduceToNat, Nat.reduceBEq, tq1, tq2, tq3, k3.a]
  have hLa : a.recs.length ≤ 1000000 := by have := fa.n; omega
  have hLb : b.recs.length ≤ 1000000 := by have := fb.n; omega
  have hLc : c.recs.length ≤ 1000000 := by have := fc.n; omega
  have hDa : ∀ r ∈ a.recs, r.data.length ≤ 1000000 := fun r hr => by have := fa.data r hr; omega
  have hDb : ∀ r ∈ b.recs, r.data.length ≤ 1000000 := fun r hr => by have := fb.data r hr; omega
  have hDc : ∀ r ∈ c.recs, r.data.length ≤ 1000000 := fun r hr => by have := fc.data r hr; omega
  simp (maxSteps := 10000000) (disch := omega) only [vq0, vq1, vq2, vq3, vq4, vq5, tagOf, reduceIte, reduceCtorEq, Nat.reduceEqDiff, Nat.reduceAdd, Nat.reduceSub, Nat.reduceMul, Nat.reduceLT, Nat.reduceLeDiff, Int.reduceToNat, Nat.reduceBEq, tq1, tq2, tq3, k3.a, oa]
  refine (programDiff_ok a va h3 (ha.grow k3.g) hLa hDa).mono ?_
  rintro v4 h4 ⟨g4, wa, rfl, hwa⟩
  have k4 := k3.grow g4
  simp (maxSteps := 10000000) (disch := omega) only [vq0, vq1, vq2, vq3, vq4, vq5, tagOf, reduceIte, reduceCtorEq, Nat.reduceEqDiff, Nat.reduceAdd, Nat.reduceSub, Nat.reduceMul, Nat.reduceLT, Nat.reduceLeDiff, Int.reduceToNat, Nat.reduceBEq, tq1, tq2, tq3, k4.b, ob]
  refine (programDiff_ok b vb h4 (hb.grow k4.g) hLb hDb).mono ?_
  rintro v5 h5 ⟨g5, wb, rfl, hwb⟩
  have k5 := k4.grow g5
  simp (maxSteps := 10000000) (disch := omega) only [vq0, vq1, vq2, vq3, vq4, vq5, tagOf, reduceIte, reduceCtorEq, Nat.reduceEqDiff, Nat.reduceAdd, Nat.reduceSub, Nat.reduceMul, Nat.reduceLT, Nat.reduceLeDiff, Int.reduceToNat, Nat.reduceBEq, tq1, tq2, tq3]
  refine (merge_ok a b wa wb h5 (hwa.grow g5) hwb hLa hLb).mono ?_
  rintro v6 h6 ⟨g6, q6⟩
  have k6 := k5.grow g6
  obtain ⟨m, wm, e1, rfl, hwm, q6⟩ := mergeQ_cases q6
  have om := hwm.one
  have hdm : difC m wm = [.int .i64 m.fr, .int .i64 m.to, wm] := rfl
  rw [hdm]
  have n6 := k6.n
  simp (maxSteps := 10000000) (disch := omega) only [vq0, vq1, vq2, vq3, vq4, vq5, tagOf, reduceIte, reduceCtorEq, Nat.reduceEqDiff, Nat.reduceAdd, Nat.reduceSub, Nat.reduceMul, Nat.reduceLT, Nat.reduceLeDiff, Int.reduceToNat, Nat.reduceBEq, tq1, tq2, tq3, k3.a, k3.b, k3.c, k4.a, k4.b, k4.c, k5.a, k5.b, k5.c, k6.a, k6.b, k6.c, ea, eb, om, ob]
  obtain ⟨h7, e7⟩ : ∃ x, x = (h6.new (.cells [.int .i64 0, .int .i64 0, .slice none 0 0] true none)).set h6.next (.cells [.int .i64 m.fr, .int .i64 m.to, wm] true none) := ⟨_, rfl⟩
  have g7 : Grow h6 h7 := by rw [e7]; exact (Grow.new h6 _).set (Nat.le_refl _) _
  have hn7 : h7.next = h6.next + 1 := by rw [e7]; rfl
  have k7 := k6.grow g7
  have p7 : h7.get h6.next = some (.cells [.int .i64 m.fr, .int .i64 m.to, wm] true none) := by rw [e7, get_set_same]
  rw [← e7]
  refine (programDiff_ok b vb h7 (hb.grow k7.g) hLb hDb).mono ?_
  rintro v8 h8 ⟨g8, wb2, rfl, hwb2⟩
  have k8 := k7.grow g8
  simp (maxSteps := 10000000) (disch := omega) only [vq0, vq1, vq2, vq3, vq4, vq5, tagOf, reduceIte, reduceCtorEq, Nat.reduceEqDiff, Nat.reduceAdd, Nat.reduceSub, Nat.reduceMul, Nat.reduceLT, Nat.reduceLeDiff, Int.reduceToNat, Nat.reduceBEq, tq1, tq2, tq3, k8.c, oc]
  refine (programDiff_ok c vc h8 (hc.grow k8.g) hLc hDc).mono ?_
  rintro v9 h9 ⟨g9, wc, rfl, hwc⟩
  have k9 := k8.grow g9
  simp (maxSteps := 10000000) (disch := omega) only [vq0, vq1, vq2, vq3, vq4, vq5, tagOf, reduceIte, reduceCtorEq, Nat.reduceEqDiff, Nat.reduceAdd, Nat.reduceSub, Nat.reduceMul, Nat.reduceLT, Nat.reduceLeDiff, Int.reduceToNat, Nat.reduceBEq, tq1, tq2, tq3]
  refine (merge_ok b c wb2 wc h9 (hwb2.grow g9) hwc hLb hLc).mono ?_
  rintro v10 h10 ⟨g10, q10⟩
  have k10 := k9.grow g10
  obtain ⟨m2, wm2, e2, rfl, hwm2, q10⟩ := mergeQ_cases q10
  have om2 := hwm2.one
  have hdm2 : difC m2 wm2 = [.int .i64 m2.fr, .int .i64 m2.to, wm2] := rfl
  rw [hdm2]
  have n10 := k10.n
  have n7 := k7.n
  have gn8 := g8.next
  have gn9 := g9.next
  have gn10 := g10.next
  simp (maxSteps := 10000000) (disch := omega) only [vq0, vq1, vq2, vq3, vq4, vq5, tagOf, reduceIte, reduceCtorEq, Nat.reduceEqDiff, Nat.reduceAdd, Nat.reduceSub, Nat.reduceMul, Nat.reduceLT, Nat.reduceLeDiff, Int.reduceToNat, Nat.reduceBEq, tq1, tq2, tq3, k7.a, k7.b, k7.c, k8.a, k8.b, k8.c, k9.a, k9.b, k9.c, k10.a, k10.b, k10.c, eb, ec, om2]
  obtain ⟨h11, e11⟩ : ∃ x, x = (h10.new (.cells [.int .i64 0, .int .i64 0, .slice none 0 0] true none)).set h10.next (.cells [.int .i64 m2.fr, .int .i64 m2.to, wm2] true none) := ⟨_, rfl⟩
  have g11 : Grow h10 h11 := by rw [e11]; exact (Grow.new h10 _).set (Nat.le_refl _) _
  have hn11 : h11.next = h10.next + 1 := by rw [e11]; rfl
  have k11 := k10.grow g11
  have g710 : Grow h7 h10 := (g8.trans g9).trans g10
  have gn710 := g710.next
  have g711 : Grow h7 h11 := g710.trans g11
  have p11 : h11.get h10.next = some (.cells [.int .i64 m2.fr, .int .i64 m2.to, wm2] true none) := by rw [e11, get_set_same]
  have p11' : h11.get h6.next = some (.cells [.int .i64 m.fr, .int .i64 m.to, wm] true none) := (g711.get _ (by omega)).trans p7
  rw [← e11]
  rcases q6 with ⟨rfl, gda, gdb, fab, rfl⟩ | ⟨n, rfl⟩
  · rcases q10 with ⟨rfl, _, gdc, fbc, rfl⟩ | ⟨n, rfl⟩
    · have em := DRow_veq hwm
      have em2 := DRow_veq hwm2
      have gm := good_merge gda gdb
      have gm2 := good_merge gdb gdc
      have lm := merge_len (a := a) gdb
      have lm2 := merge_len (a := b) gdc
      simp (maxSteps := 10000000) (disch := omega) only [vq0, vq1, vq2, vq3, vq4, vq5, tagOf, reduceIte, reduceCtorEq, Nat.reduceEqDiff, Nat.reduceAdd, Nat.reduceSub, Nat.reduceMul, Nat.reduceLT, Nat.reduceLeDiff, Int.reduceToNat, Nat.reduceBEq, tq1, tq2, tq3, k11.c, oc, p11', om]
      refine (programDiff_ok c vc h11 (hc.grow k11.g) hLc hDc).mono ?_
      rintro v12 h12 ⟨g12, wc2, rfl, hwc2⟩
      have k12 := k11.grow g12
      simp (maxSteps := 10000000) (disch := omega) only [vq0, vq1, vq2, vq3, vq4, vq5, tagOf, reduceIte, reduceCtorEq, Nat.reduceEqDiff, Nat.reduceAdd, Nat.reduceSub, Nat.reduceMul, Nat.reduceLT, Nat.reduceLeDiff, Int.reduceToNat, Nat.reduceBEq, tq1, tq2, tq3]
      have mo := fun Q => (merge_ok (mergeD a b) c wm wc2 h12 (hwm.grow ((g7.trans g711).trans g12)) hwc2 lm hLc).mono (Q' := Q)
      rw [hdm] at mo
      refine mo _ ?_
      rintro v13 h13 ⟨g13, q13⟩
      have k13 := k12.grow g13
      unfold MergeQ at q13
      rw [if_pos ⟨gm, gdc⟩, if_pos (show c.fr = (mergeD a b).to from fbc)] at q13
      obtain ⟨wx, rfl, hwx⟩ := q13
      have ox := hwx.one
      have hdx : difC (mergeD (mergeD a b) c) wx = [.int .i64 (mergeD (mergeD a b) c).fr, .int .i64 (mergeD (mergeD a b) c).to, wx] := rfl
      rw [hdx]
      have n11 := k11.n
      have gn12 := g12.next
      have gn13 := g13.next
      have r12 : h12.get h6.next = _ := (g12.get _ (by omega)).trans p11'
      have r13 : h13.get h6.next = _ := (g13.get _ (by omega)).trans r12
      simp (maxSteps := 10000000) (disch := omega) only [vq0, vq1, vq2, vq3, vq4, vq5, tagOf, reduceIte, reduceCtorEq, Nat.reduceEqDiff, Nat.reduceAdd, Nat.reduceSub, Nat.reduceMul, Nat.reduceLT, Nat.reduceLeDiff, Int.reduceToNat, Nat.reduceBEq, tq1, tq2, tq3, k11.a, k11.b, k11.c, k12.a, k12.b, k12.c, k13.a, k13.b, k13.c, ec, em, ox, p11', r12, r13, oa]
      obtain ⟨h14, e14⟩ : ∃ x, x = (h13.new (.cells [.int .i64 0, .int .i64 0, .slice none 0 0] true none)).set h13.next (.cells [.int .i64 (mergeD (mergeD a b) c).fr, .int .i64 (mergeD (mergeD a b) c).to, wx] true none) := ⟨_, rfl⟩
      have g14 : Grow h13 h14 := by rw [e14]; exact (Grow.new h13 _).set (Nat.le_refl _) _
      have hn14 : h14.next = h13.next + 1 := by rw [e14]; rfl
      have k14 := k13.grow g14
      have p14 : h14.get h13.next = some (.cells [.int .i64 (mergeD (mergeD a b) c).fr, .int .i64 (mergeD (mergeD a b) c).to, wx] true none) := by rw [e14, get_set_same]
      have p14' : h14.get h10.next = some (.cells [.int .i64 (mergeD b c).fr, .int .i64 (mergeD b c).to, wm2] true none) := (((g12.trans g13).trans g14).get _ (by omega)).trans p11
      rw [← e14]
      refine (programDiff_ok a va h14 (ha.grow k14.g) hLa hDa).mono ?_
      rintro v15 h15 ⟨g15, wa2, rfl, hwa2⟩
      have k15 := k14.grow g15
      have gn15 := g15.next
      have s15 : h15.get h10.next = _ := (g15.get _ (by omega)).trans p14'
      simp (maxSteps := 10000000) (disch := omega) only [vq0, vq1, vq2, vq3, vq4, vq5, tagOf, reduceIte, reduceCtorEq, Nat.reduceEqDiff, Nat.reduceAdd, Nat.reduceSub, Nat.reduceMul, Nat.reduceLT, Nat.reduceLeDiff, Int.reduceToNat, Nat.reduceBEq, tq1, tq2, tq3, s15, om2]
      have mo2 := fun Q => (merge_ok a (mergeD b c) wa2 wm2 h15 hwa2 (hwm2.grow ((((g11.trans g12).trans g13).trans g14).trans g15)) hLa lm2).mono (Q' := Q)
      rw [hdm2] at mo2
      refine mo2 _ ?_
      rintro v16 h16 ⟨g16, q16⟩
      have k16 := k15.grow g16
      unfold MergeQ at q16
      rw [if_pos ⟨gda, gm2⟩, if_pos (show (mergeD b c).fr = a.to from fab)] at q16
      obtain ⟨wy, rfl, hwy⟩ := q16
      have oy := hwy.one
      have hdy : difC (mergeD a (mergeD b c)) wy = [.int .i64 (mergeD a (mergeD b c)).fr, .int .i64 (mergeD a (mergeD b c)).to, wy] := rfl
      rw [hdy]
      have gn16 := g16.next
      have s16 : h16.get h10.next = _ := (g16.get _ (by omega)).trans s15
      obtain ⟨⟨af0, af1⟩, _, _⟩ := good_of gda
      obtain ⟨N, hN⟩ : ∃ N : Nat, a.fr = (N : Int) := ⟨a.fr.toNat, by omega⟩
      have n16 := k16.n
      have n13 := k13.n
      have u16 : h16.get h13.next = _ := ((g15.trans g16).get _ (by omega)).trans p14
      have ka := k16.a
      rw [hN] at ka
      simp (maxSteps := 10000000) (disch := omega) only [vq0, vq1, vq2, vq3, vq4, vq5, tagOf, reduceIte, reduceCtorEq, Nat.reduceEqDiff, Nat.reduceAdd, Nat.reduceSub, Nat.reduceMul, Nat.reduceLT, Nat.reduceLeDiff, Int.reduceToNat, Nat.reduceBEq, tq1, tq2, tq3, k14.a, k15.a, k16.a, ea, em2, oy, p14', s15, s16, hN]
      obtain ⟨h17, e17⟩ : ∃ x, x = (h16.new (.cells [.int .i64 0, .int .i64 0, .slice none 0 0] true none)).set h16.next (.cells [.int .i64 (mergeD a (mergeD b c)).fr, .int .i64 (mergeD a (mergeD b c)).to, wy] true none) := ⟨_, rfl⟩
      have g17 : Grow h16 h17 := by rw [e17]; exact (Grow.new h16 _).set (Nat.le_refl _) _
      have hn17 : h17.next = h16.next + 1 := by rw [e17]; rfl
      have p17 : h17.get h16.next = some (.cells [.int .i64 (mergeD a (mergeD b c)).fr, .int .i64 (mergeD a (mergeD b c)).to, wy] true none) := by rw [e17, get_set_same]
      have p17' : h17.get h13.next = some (.cells [.int .i64 (mergeD (mergeD a b) c).fr, .int .i64 (mergeD (mergeD a b) c).to, wx] true none) := (g17.get _ (by omega)).trans u16
      rw [← e17]
      have g018 : ∀ k : Heap, But (h16.next + 1) (h16.next + 1) h17 k → Grow h17 k := fun k bt => bt.grow (by omega) (by omega)
      refine r_loop (k := N) (fun k ρ h' => ∃ (i : Nat), i + k = N ∧ ρ 11 = .pointer (some ⟨h13.next, 0, none⟩) ∧ ρ 12 = .pointer (some ⟨h16.next, 0, none⟩) ∧ ρ 13 = .slice (some ⟨h16.next + 1, 0, none⟩) N N ∧ ρ 80 = .int .i64 N ∧ ρ 81 = .int .i64 (i : Int) ∧
        But (h16.next + 1) (h16.next + 1) h17 h' ∧ h16.next + 1 < h'.next ∧ h'.get (h16.next + 1) = some (.cells (tab N fun j => byteV (if j < i then patF j else 0)) true none)) ?_ ?_
      · rintro k ρ h' ⟨i, hk, r11, r12', r13', r80, r81, bt, hlt, hrow⟩
        unfold g_laminalaw23_BundleChains_L0
        rcases Nat.lt_or_ge i N with hi | hi
        · have hpb := pat_byte i
          simp (maxSteps := 10000000) (disch := omega) only [vq0, vq1, vq2, vq3, vq4, vq5, tagOf, reduceIte, reduceCtorEq, Nat.reduceEqDiff, Nat.reduceAdd, Nat.reduceSub, Nat.reduceMul, Nat.reduceLT, Nat.reduceLeDiff, Int.reduceToNat, Nat.reduceBEq, tq1, tq2, tq3, r11, r12', r13', r80, r81, hrow, tab_len, hpb]
          refine ⟨k - 1, by omega, i + 1, by omega, rfl, bt.setx _, by omega, ?_⟩
          rw [tab_set]
          congr 2
          refine tab_congr fun j hj => ?_
          by_cases e : j = i
          · rw [if_pos e, if_pos (show j < i + 1 by omega), e]; rfl
          · rw [if_neg e]
            by_cases c1 : j < i
            · rw [if_pos c1, if_pos (by omega)]
            · rw [if_neg c1, if_neg (by omega)]
        · have hrow' : h'.get (h16.next + 1) = some (.cells (((List.range N).map patF).map byteV) true none) := by
            rw [hrow, range_tab]
            congr 2
            exact tab_congr fun j hj => by rw [if_pos (by omega)]
          have gk := g018 _ bt
          have hll : ((List.range N).map patF).length = N := by simp
          generalize (List.range N).map patF = l at hrow' hll
          have hbl : BRow h' (.slice (some ⟨h16.next + 1, 0, none⟩) N N) l := .inr ⟨h16.next + 1, 0, N, N, _, true, none, hlt, rfl, Nat.le_refl _, by simp [hll], hrow', by simp, by rw [List.drop_zero, List.take_of_length_le (by simp)]⟩
          have pA : h'.get h13.next = _ := (gk.get _ (by omega)).trans p17'
          have pB : h'.get h16.next = _ := (gk.get _ (by omega)).trans p17
          simp (maxSteps := 10000000) (disch := omega) only [vq0, vq1, vq2, vq3, vq4, vq5, tagOf, reduceIte, reduceCtorEq, Nat.reduceEqDiff, Nat.reduceAdd, Nat.reduceSub, Nat.reduceMul, Nat.reduceLT, Nat.reduceLeDiff, Int.reduceToNat, Nat.reduceBEq, tq1, tq2, tq3, r11, r12', r13', r80, r81, pA, ox]
          have gxy := good_merge gm gdc
          have gyx := good_merge gda gm2
          have fr1 : (mergeD (mergeD a b) c).fr = a.fr := rfl
          have fr2 : (mergeD a (mergeD b c)).fr = a.fr := rfl
          have ap1 := fun Q => (apply_ok (mergeD (mergeD a b) c) wx (.slice (some ⟨h16.next + 1, 0, none⟩) N N) l h' (hwx.grow (((((g14.trans g15).trans g16).trans g17)).trans gk)) hbl gxy (by rw [fr1]; omega) (merge_len gdc)).mono (Q' := Q)
          rw [hdx] at ap1
          refine ap1 _ ?_
          rintro v18 h18 ⟨g18, w1, rfl, hw1⟩
          have gn18 := g18.next
          have pB : h18.get h16.next = _ := (g18.get _ (by omega)).trans pB
          simp (maxSteps := 10000000) (disch := omega) only [vq0, vq1, vq2, vq3, vq4, vq5, tagOf, reduceIte, reduceCtorEq, Nat.reduceEqDiff, Nat.reduceAdd, Nat.reduceSub, Nat.reduceMul, Nat.reduceLT, Nat.reduceLeDiff, Int.reduceToNat, Nat.reduceBEq, tq1, tq2, tq3, r11, r12', r13', r80, r81, pB, oy]
          have ap2 := fun Q => (apply_ok (mergeD a (mergeD b c)) wy (.slice (some ⟨h16.next + 1, 0, none⟩) N N) l h18 (hwy.grow ((g17.trans gk).trans g18)) (hbl.grow g18) gyx (by rw [fr2]; omega) (merge_len gm2)).mono (Q' := Q)
          rw [hdy] at ap2
          refine ap2 _ ?_
          rintro v19 h19 ⟨g19, w2, rfl, hw2⟩
          have eq1 : applyL (mergeD (mergeD a b) c) l = applyL (mergeD a (mergeD b c)) l := by
            have hla : (l.length : Int) = a.fr := by omega
            rw [apply_merge gm gdc (show (l.length : Int) = (mergeD a b).fr from hla), apply_merge gda gdb hla, apply_merge gda gm2 hla, apply_merge gdb gdc]
            rw [applyL_len]
            have := (good_of gda).2.1
            omega
          rw [← eq1] at hw2
          have hsame := fun Q => sameB_ret (Q := Q) (hw1.grow g19) hw2
          simp (maxSteps := 10000000) (disch := omega) only [vq0, vq1, vq2, vq3, vq4, vq5, tagOf, reduceIte, reduceCtorEq, Nat.reduceEqDiff, Nat.reduceAdd, Nat.reduceSub, Nat.reduceMul, Nat.reduceLT, Nat.reduceLeDiff, Int.reduceToNat, Nat.reduceBEq, tq1, tq2, tq3, hsame]
      · refine ⟨0, by omega, by simp (maxSteps := 10000000) (disch := omega) only [vq0, vq1, vq2, vq3, vq4, vq5, tagOf, reduceIte, reduceCtorEq, Nat.reduceEqDiff, Nat.reduceAdd, Nat.reduceSub, Nat.reduceMul, Nat.reduceLT, Nat.reduceLeDiff, Int.reduceToNat, Nat.reduceBEq, tq1, tq2, tq3], by simp (maxSteps := 10000000) (disch := omega) only [vq0, vq1, vq2, vq3, vq4, vq5, tagOf, reduceIte, reduceCtorEq, Nat.reduceEqDiff, Nat.reduceAdd, Nat.reduceSub, Nat.reduceMul, Nat.reduceLT, Nat.reduceLeDiff, Int.reduceToNat, Nat.reduceBEq, tq1, tq2, tq3], by simp (maxSteps := 10000000) (disch := omega) only [vq0, vq1, vq2, vq3, vq4, vq5, tagOf, reduceIte, reduceCtorEq, Nat.reduceEqDiff, Nat.reduceAdd, Nat.reduceSub, Nat.reduceMul, Nat.reduceLT, Nat.reduceLeDiff, Int.reduceToNat, Nat.reduceBEq, tq1, tq2, tq3], by simp (maxSteps := 10000000) (disch := omega) only [vq0, vq1, vq2, vq3, vq4, vq5, tagOf, reduceIte, reduceCtorEq, Nat.reduceEqDiff, Nat.reduceAdd, Nat.reduceSub, Nat.reduceMul, Nat.reduceLT, Nat.reduceLeDiff, Int.reduceToNat, Nat.reduceBEq, tq1, tq2, tq3], by simp (maxSteps := 10000000) (disch := omega) only [vq0, vq1, vq2, vq3, vq4, vq5, tagOf, reduceIte, reduceCtorEq, Nat.reduceEqDiff, Nat.reduceAdd, Nat.reduceSub, Nat.reduceMul, Nat.reduceLT, Nat.reduceLeDiff, Int.reduceToNat, Nat.reduceBEq, tq1, tq2, tq3]; rfl, .of (.new h17 _), by show h16.next + 1 < h17.next + 1; omega, ?_⟩
        rw [show h16.next + 1 = h17.next from hn17.symm, get_new_same, tab_rep]
        rfl
    · simp (maxSteps := 10000000) (disch := omega) only [vq0, vq1, vq2, vq3, vq4, vq5, tagOf, reduceIte, reduceCtorEq, Nat.reduceEqDiff, Nat.reduceAdd, Nat.reduceSub, Nat.reduceMul, Nat.reduceLT, Nat.reduceLeDiff, Int.reduceToNat, Nat.reduceBEq, tq1, tq2, tq3]
  · simp (maxSteps := 10000000) (disch := omega) only [vq0, vq1, vq2, vq3, vq4, vq5, tagOf, reduceIte, reduceCtorEq, Nat.reduceEqDiff, Nat.reduceAdd, Nat.reduceSub, Nat.reduceMul, Nat.reduceLT, Nat.reduceLeDiff, Int.reduceToNat, Nat.reduceBEq, tq1, tq2, tq3]
end Go.Proofs.Ythkpbhdljbdliaa.C
