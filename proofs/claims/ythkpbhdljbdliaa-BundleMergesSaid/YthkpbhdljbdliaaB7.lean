/- B7: the law of chains: it answers true, whatever the diffs. -/
import Derived.Test.YthkpbhdljbdliaaB6
import Derived.Test.YthkpbhdljbdliaaPl
open Go Go.Vi Go.Bm
namespace Go.Proofs.Ythkpbhdljbdliaa.C
set_option linter.unusedSimpArgs false
set_option maxRecDepth 100000
set_option maxHeartbeats 40000000
theorem alive_ret (h : Heap) (Q : Value → Heap → Prop) : Ret E f_laminalaw23_alive [] h Q = Q (.bool true) h :=
  Ret.eq (ret_ext (g := memo (.bool true)) (by kernel_rfl) (by kernel_rfl) rfl ⟨rfl, rfl⟩) Q
theorem DRow_veq {h : Heap} {v : Value} {r : List Rec} (x : DRow h v r) : ∀ n, veq (n + 1) v v = true := by
  obtain ⟨a, c, rfl⟩ := x.is
  intro n
  simp (maxSteps := 10000000) (disch := omega) only [vq0, vq1, vq2, vq3, vq4, vq5, tagOf, reduceIte, reduceCtorEq, Nat.reduceEqDiff, Nat.reduceAdd, Nat.reduceSub, Nat.reduceMul, Nat.reduceLT, Nat.reduceLeDiff, Int.reduceToNat, Nat.reduceBEq, tq1, tq2, tq3]
structure K3 (h : Heap) (A B C : Blk) (k : Heap) : Prop where
  a : k.get h.next = some A
  b : k.get (h.next + 1) = some B
  c : k.get (h.next + 1 + 1) = some C
  n : h.next + 3 ≤ k.next
  g : Grow h k
theorem K3.grow {h : Heap} {A B C : Blk} {k k' : Heap} (x : K3 h A B C k) (g : Grow k k') : K3 h A B C k' := by
  obtain ⟨a, b, c, n, g0⟩ := x
  have := g.next
  exact ⟨(g.get _ (by omega)).trans a, (g.get _ (by omega)).trans b, (g.get _ (by omega)).trans c, by omega, g0.trans g⟩
theorem K3.start (h : Heap) (A B C : Blk) : K3 h A B C (((h.new A).new B).new C) := by
  refine ⟨?_, ?_, ?_, Nat.le_refl _, ((Grow.new h _).more _).more _⟩
  · simp (maxSteps := 10000000) (disch := omega) only [vq0, vq1, vq2, vq3, vq4, vq5, tagOf, reduceIte, reduceCtorEq, Nat.reduceEqDiff, Nat.reduceAdd, Nat.reduceSub, Nat.reduceMul, Nat.reduceLT, Nat.reduceLeDiff, Int.reduceToNat, Nat.reduceBEq, tq1, tq2, tq3]
  · simp (maxSteps := 10000000) (disch := omega) only [vq0, vq1, vq2, vq3, vq4, vq5, tagOf, reduceIte, reduceCtorEq, Nat.reduceEqDiff, Nat.reduceAdd, Nat.reduceSub, Nat.reduceMul, Nat.reduceLT, Nat.reduceLeDiff, Int.reduceToNat, Nat.reduceBEq, tq1, tq2, tq3]
  · simp (maxSteps := 10000000) (disch := omega) only [vq0, vq1, vq2, vq3, vq4, vq5, tagOf, reduceIte, reduceCtorEq, Nat.reduceEqDiff, Nat.reduceAdd, Nat.reduceSub, Nat.reduceMul, Nat.reduceLT, Nat.reduceLeDiff, Int.reduceToNat, Nat.reduceBEq, tq1, tq2, tq3]
theorem runs_len (S : Nat → Option UInt8) (n : Nat) : ∀ k i, (runsP S n k i).length ≤ k
  | 0, _ => by rw [runsP]; simp
  | k + 1, i => by
    rw [runsP]
    split
    · split
      · have := runs_len S n k (runEnd S (n - i) i + 1)
        rw [List.length_cons]
        omega
      · have := runs_len S n k (i + 1)
        omega
    · simp
theorem merge_len {a b : Dif} (hb : goodD b = true) : (mergeD a b).recs.length ≤ 1000000 := by
  have := runs_len (mergeS a b) b.to.toNat (b.to.toNat + 1) 0
  have h2 := (good_of hb).2.1
  have : (mergeD a b).recs.length ≤ b.to.toNat + 1 := this
  omega
end Go.Proofs.Ythkpbhdljbdliaa.C
