/- D6: check sums. -/
import Derived.Test.YtjhaokhgiagkaaaGreatDoorD5
open Go Go.Vi Go.Bm
namespace Go.Proofs.YtjhaokhgiagkaaaGreatDoor.C
set_option linter.unusedSimpArgs false
set_option maxRecDepth 100000
set_option maxHeartbeats 40000000
theorem crcL_bytes : ∀ (bs : List UInt8) (x : Nat), crcL (bs.map byteV) x = some ((bs.map fun b => b.toNat).foldl crcB x)
  | [], x => rfl
  | b :: bs, x => by
    have hb : Nat.ble b.toNat 255 = true := Nat.ble_eq_true_of_le (by have := b.toNat_lt; omega)
    show (Bool.rec none (forceN (halfF (halfF (Nat.xor x b.toNat))) (crcL (bs.map byteV))) (Nat.ble b.toNat 255) : Option Nat) = _
    rw [hb]
    show forceN (halfF (halfF (Nat.xor x b.toNat))) (crcL (bs.map byteV)) = _
    rw [forceN_eq, halfF_eq, halfF_eq, crcL_bytes bs]
    rfl
theorem crc_fold_lt : ∀ (bs : List UInt8) {x : Nat}, x < 4294967296 → (bs.map fun b => b.toNat).foldl crcB x < 4294967296
  | [], _, h => h
  | b :: bs, _, h => crc_fold_lt bs (crcB_lt h (Nat.le_of_lt_succ b.toNat_lt))
def crcGo (s : Nat) (bs : List UInt8) : Nat := Nat.xor 4294967295 ((bs.map fun b => b.toNat).foldl crcB (Nat.xor 4294967295 s))
theorem crcGo_lt (s : Nat) (bs : List UInt8) (h : s < 4294967296) : crcGo s bs < 4294967296 := xor_lt (by omega) (crc_fold_lt bs (xor_lt (by omega) h))
theorem crcgo_ok (h : Heap) (s b o n c : Nat) (bs : List UInt8) (hs : s < 4294967296) (hn : n < 1099511627776) (hb : b < h.next) (hr : rdN h ⟨b, o, none⟩ n = some (bs.map byteV)) :
    Ret E f_crc_Go [.int .u32 s, .slice (some ⟨b, o, none⟩) n c] h fun v h' => v = .int .u32 (crcGo s bs : Nat) ∧ Grow h h' := by
  refine ret_ext (g := crcV) (by kernel_rfl) (by kernel_rfl) (v := .int .u32 (crcGo s bs : Nat)) (h' := setF (newF h (.cells zs true none)) h.next (.cells tbl true none)) ?_ ⟨rfl, ?_⟩
  · show (if s < 4294967296 ∧ n < 1099511627776 ∧ b < h.next then
      match rowF h ⟨b, o, none⟩ n with
      | some l => match crcL l (Nat.xor 4294967295 s) with
        | some y => some (Value.int .u32 (.ofNat (Nat.xor 4294967295 y)), setF (newF h (.cells zs true none)) h.next (.cells tbl true none))
        | none => none
      | none => none
    else none) = _
    rw [if_pos ⟨hs, hn, hb⟩, rowF_eq, hr]
    simp only [crcL_bytes]
    rfl
  · have e : setF (newF h (.cells zs true none)) h.next (.cells tbl true none) = (h.new (.cells zs true none)).set h.next (.cells tbl true none) := by unfold setF; rw [newF_eq, putR_eq]; rfl
    rw [e]
    exact (Grow.new h _).set (Nat.le_refl _) _
theorem sum_ok (h : Heap) (p b o n c c2 : Nat) (w : Bool) (bs : List UInt8) (hn : n < 1099511627776) (hb : b < h.next) (hp : p < h.next) (hg : h.get p = some (.cells [.slice (some ⟨b, o, none⟩) n c] w none)) (hr : rdN h ⟨b, o, none⟩ n = some (bs.map byteV)) :
    Ret E f_crc_Sum [.slice (some ⟨p, 0, none⟩) 1 c2] h fun v h' => v = .int .u32 (crcGo 0 bs : Nat) ∧ Grow h h' := by
  refine ret_fun is_crc_Sum (by simp) ?_
  unfold g_crc_Sum
  simp (maxSteps := 10000000) (disch := omega) only [vq0, vq1, vq2, vq3, vq4, vq5, tagOf, reduceIte, reduceCtorEq, Nat.reduceEqDiff, Nat.reduceAdd, Nat.reduceSub, Nat.reduceMul, Nat.reduceLT, Nat.reduceLeDiff, Int.reduceToNat, Nat.reduceBEq, tq1, tq2, tq3, tq4, tq5]
  refine r_loop (k := 1) (fun k ρ h' => ρ 6 = .slice (some ⟨p, 0, none⟩) 1 c2 ∧ ρ 7 = .int .i64 1 ∧ Grow h h' ∧ ((k = 1 ∧ h' = h ∧ ρ 3 = .int .u32 0 ∧ ρ 8 = .int .i64 0) ∨ (k = 0 ∧ ρ 3 = .int .u32 (crcGo 0 bs : Nat) ∧ ρ 8 = .int .i64 1))) ?_ ?_
  · rintro k ρ h' ⟨r6, r7, gr, ⟨rfl, rfl, r3, r8⟩ | ⟨rfl, r3, r8⟩⟩
    · unfold g_crc_Sum_L0
      simp (maxSteps := 10000000) (disch := omega) only [vq0, vq1, vq2, vq3, vq4, vq5, tagOf, reduceIte, reduceCtorEq, Nat.reduceEqDiff, Nat.reduceAdd, Nat.reduceSub, Nat.reduceMul, Nat.reduceLT, Nat.reduceLeDiff, Int.reduceToNat, Nat.reduceBEq, tq1, tq2, tq3, tq4, tq5, r3, r6, r7, r8, hg]
      refine (crcgo_ok h' 0 b o n c bs (by omega) hn hb hr).mono ?_
      rintro v h2 ⟨rfl, g2⟩
      simp (maxSteps := 10000000) (disch := omega) only [vq0, vq1, vq2, vq3, vq4, vq5, tagOf, reduceIte, reduceCtorEq, Nat.reduceEqDiff, Nat.reduceAdd, Nat.reduceSub, Nat.reduceMul, Nat.reduceLT, Nat.reduceLeDiff, Int.reduceToNat, Nat.reduceBEq, tq1, tq2, tq3, tq4, tq5, r3, r6, r7, r8]
      exact ⟨0, by omega, g2, .inr ⟨rfl, rfl⟩⟩
    · unfold g_crc_Sum_L0
      simp (maxSteps := 10000000) (disch := omega) only [vq0, vq1, vq2, vq3, vq4, vq5, tagOf, reduceIte, reduceCtorEq, Nat.reduceEqDiff, Nat.reduceAdd, Nat.reduceSub, Nat.reduceMul, Nat.reduceLT, Nat.reduceLeDiff, Int.reduceToNat, Nat.reduceBEq, tq1, tq2, tq3, tq4, tq5, r3, r6, r7, r8]
      exact gr
  · simp (maxSteps := 10000000) (disch := omega) only [vq0, vq1, vq2, vq3, vq4, vq5, tagOf, reduceIte, reduceCtorEq, Nat.reduceEqDiff, Nat.reduceAdd, Nat.reduceSub, Nat.reduceMul, Nat.reduceLT, Nat.reduceLeDiff, Int.reduceToNat, Nat.reduceBEq, tq1, tq2, tq3, tq4, tq5]
    exact ⟨rfl, .refl _⟩
end Go.Proofs.YtjhaokhgiagkaaaGreatDoor.C
