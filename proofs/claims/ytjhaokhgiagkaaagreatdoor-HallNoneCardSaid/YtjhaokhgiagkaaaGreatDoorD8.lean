/- D8: a box is put on the disk. -/
import Derived.Test.YtjhaokhgiagkaaaGreatDoorD7
open Go Go.Vi Go.Bm
namespace Go.Proofs.YtjhaokhgiagkaaaGreatDoor.C
set_option linter.unusedSimpArgs false
set_option maxRecDepth 100000
set_option maxHeartbeats 40000000
theorem put_ok (h0 h : Heap) (p : Nat) (i : Int) (d : Dk) (ws : List (Int × List UInt8)) (k g n : Int) (v : Value) (da : List UInt8) (hd : DkAt h p d) (lv : Live d) (g0 : Grow h0 h) (hp : h0.next ≤ p ∧ p < h.next)
    (hw : Own h0 h 129 t_disk_write d.wait (ws.flatMap wrC)) (hwp : blkOf d.wait ≠ some p) (hi : 0 ≤ i ∧ i < d.size) (hn : ws.length ≤ 10000) (hl : (ws.flatMap wrC).length = 129 * ws.length)
    (hv : BRow h v da) (hk : 1 ≤ k ∧ k ≤ 255) (hg : 0 ≤ g ∧ g ≤ 4611686018427387904) (hn2 : 0 ≤ n ∧ n ≤ 2147483647) (hda : da.length ≤ 106) :
    Ret E f_journal_put [.pointer (some ⟨p, 0, none⟩), .int .i64 i, .agg ⟨[.int .i64 k, .int .i64 g, .int .i64 n, v]⟩] h fun u h' => u = .nilIface ∧ ∃ w', DkAt h' p { d.step with wait := w' } ∧ Own h0 h' 129 t_disk_write w' ((ws ++ [(i, sealS k g n da)]).flatMap wrC) ∧ (∀ b, blkOf w' = some b → h.next ≤ b) ∧
      h.next ≤ h'.next ∧ (∀ c, c < h.next → c ≠ p → blkOf d.wait ≠ some c → h'.get c = h.get c) := by
  refine ret_fun is_journal_put (by simp) ?_
  unfold g_journal_put
  obtain ⟨a, c, rfl⟩ := hv.is
  simp (maxSteps := 10000000) (disch := omega) only [vq0, vq1, vq2, vq3, vq4, vq5, tagOf, reduceIte, reduceCtorEq, Nat.reduceEqDiff, Nat.reduceAdd, Nat.reduceSub, Nat.reduceMul, Nat.reduceLT, Nat.reduceLeDiff, Int.reduceToNat, Nat.reduceBEq, tq1, tq2, tq3, tq4, tq5]
  obtain ⟨hA, eA⟩ : ∃ y, y = h.new (.cells [.int .i64 k, .int .i64 g, .int .i64 n, .slice a da.length c] true none) := ⟨_, rfl⟩
  have gA : Grow h hA := by rw [eA]; exact .new h _
  have mA : hA.get h.next = some (.cells [.int .i64 k, .int .i64 g, .int .i64 n, .slice a da.length c] true none) := by rw [eA]; exact get_new_same _ _
  have nA : hA.next = h.next + 1 := by rw [eA]; rfl
  rw [← eA]
  clear eA
  refine (seal_ok hA k g n _ da (hv.grow gA) hk hg hn2 hda).mono ?_
  rintro u h1 ⟨g1, rfl⟩
  have hs := sealS_len k g n da hda
  generalize sealS k g n da = s at hs ⊢
  have hs1 : (s.map byteV).length = 128 := by rw [List.length_map]; exact hs
  have ht1 : (s.map byteV).take 128 = s.map byteV := List.take_of_length_le (by omega)
  have n1 := g1.next
  obtain ⟨st, le, ar, go, sz, su, wt⟩ := d
  have hd1 := (g1.get p (by omega)).trans ((gA.get p (by omega)).trans hd)
  simp only at hw hwp hi
  have hzd : z_t_api_Sector.drop 128 = [] := rfl
  simp (maxSteps := 10000000) (disch := omega) only [vq0, vq1, vq2, vq3, vq4, vq5, tagOf, reduceIte, reduceCtorEq, Nat.reduceEqDiff, Nat.reduceAdd, Nat.reduceSub, Nat.reduceMul, Nat.reduceLT, Nat.reduceLeDiff, Int.reduceToNat, Nat.reduceBEq, tq1, tq2, tq3, tq4, tq5, hs1, ht1, hzd]
  obtain ⟨hB, eB⟩ : ∃ y, y = (h1.new (.cells z_t_api_Sector true none)).set h1.next (.cells (s.map byteV) true none) := ⟨_, rfl⟩
  have kB : ∀ c, c < h1.next → hB.get c = h1.get c := fun c hc => by rw [eB, get_set_ne (by omega), get_new_ne (by omega)]
  have nB : hB.next = h1.next + 1 := by rw [eB]; rfl
  rw [← eB]
  clear eB
  have gB : Grow h hB := ⟨by omega, fun c hc => (kB c (by omega)).trans ((g1.get c (by omega)).trans (gA.get c hc))⟩
  refine (write_ok h0 hB p i s _ ws ((kB p (by omega)).trans hd1) lv.armed lv.gone lv.s0 lv.s1 lv.l0 lv.l1 (g0.trans gB) ⟨hp.1, by omega⟩ (hw.grow gB) hwp hi hs hn hl).mono ?_
  rintro v h2 ⟨rfl, w', hd2, hw2, hwp2, hn2, hk2⟩
  simp (maxSteps := 10000000) (disch := omega) only [vq0, vq1, vq2, vq3, vq4, vq5, tagOf, reduceIte, reduceCtorEq, Nat.reduceEqDiff, Nat.reduceAdd, Nat.reduceSub, Nat.reduceMul, Nat.reduceLT, Nat.reduceLeDiff, Int.reduceToNat, Nat.reduceBEq, tq1, tq2, tq3, tq4, tq5]
  exact ⟨w', hd2, hw2, fun b hb => by have := hwp2 b hb; omega, by omega, fun c hc h3 h4 => (hk2 c (by omega) h3 h4).trans (gB.get c hc)⟩
end Go.Proofs.YtjhaokhgiagkaaaGreatDoor.C
