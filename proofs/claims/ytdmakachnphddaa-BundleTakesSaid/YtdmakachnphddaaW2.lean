/- W2: the document's numbers and bytes. -/
import Derived.Test.YtdmakachnphddaaW1
open Nat (reduceEqDiff reduceAdd reduceSub reduceMul reduceLT reduceLeDiff)
open Int (reduceToNat)
open Go Go.Vi Go.Bm
namespace Go.Proofs.Ytdmakachnphddaa.C
set_option linter.unusedSimpArgs false
set_option maxRecDepth 100000
set_option maxHeartbeats 40000000
theorem u64_wrap (n : Int) : IntKind.u64.wrap n = (u64 n : Int) := by
  have h1 : IntKind.u64.wrap n = n % 18446744073709551616 := by simp [IntKind.wrap, IntKind.bits, IntKind.signed]
  rw [h1]
  unfold u64
  omega
theorem numB_take (n : Int) {i : Nat} (h : i < 8) : (numB n).take (i + 1) = (numB n).take i ++ [UInt8.ofNat (u64 n / 256 ^ i)] := by
  rw [List.take_add_one, numB_get n h]
  rfl
theorem push1 {h0 hX : Heap} {w : Value} {l : List UInt8} (o : Own h0 hX 1 Te_ w (l.map byteV)) (g : Grow h0 hX) (c : UInt8) (hl : l.length ≤ 100000000) :
    ∃ w' hY, appendV E Tc_ (some Tc_) w (.slice (some ⟨hX.next, 0, none⟩) 1 1) (hX.new (.cells [.int .u8 c.toNat] true none)) = some (w', hY) ∧ Own h0 hY 1 Te_ w' ((l ++ [c]).map byteV) ∧ Grow h0 hY := by
  obtain ⟨w', hY, q1, q2, q3, _⟩ := own_app Sa_ okSrc_bytes (h := hX.new (.cells [.int .u8 c.toNat] true none)) (o.grow (.new hX _)) (g.more _) (b2 := hX.next) (o2 := 0) (n := 1) (c2 := 1) (new := [byteV c]) (by simp (maxSteps := 10000000) (disch := omega) only [vqA, tagOf, reduceIte, reduceCtorEq, reduceEqDiff, reduceAdd, reduceSub, reduceMul, reduceLT, reduceLeDiff, reduceToNat, Nat.reduceBEq, tqA]; rfl) (by omega) rfl (by simp; omega) (by decide)
  exact ⟨w', hY, q1, by rw [List.map_append]; exact q2, q3⟩
theorem refNum_ok (n : Int) (h : Heap) : Ret E Fb_ [.int .i64 n] h (fun u h' => Own h h' 1 Te_ u ((numB n).map byteV) ∧ Grow h h') := by
  refine ret_fun I6_ (by simp) ?_
  unfold Gah_
  simp (maxSteps := 10000000) (disch := omega) only [vqA, tagOf, reduceIte, reduceCtorEq, reduceEqDiff, reduceAdd, reduceSub, reduceMul, reduceLT, reduceLeDiff, reduceToNat, Nat.reduceBEq, tqA, u64_wrap]
  refine r_loop (k := 8) (fun k ρ h' => ∃ (i : Nat) (w : Value), i + k = 8 ∧ ρ 3 = .int .u64 ((u64 n / 256 ^ i : Nat) : Int) ∧ ρ 4 = w ∧ ρ 5 = .int .i64 (i : Int) ∧ Own h h' 1 Te_ w (((numB n).take i).map byteV) ∧ Grow h h') ?_ ?_
  · rintro k ρ h' ⟨i, w, hk, r3, r4, r5, ow, g⟩
    unfold Gao_
    rcases Nat.lt_or_ge i 8 with hi | hi
    · have hx : u64 n / 256 ^ (i + 1) = u64 n / 256 ^ i / 256 := by rw [Nat.pow_succ, Nat.div_div_eq_div_mul]
      have htk := numB_take n hi
      have hu := Nat.lt_of_le_of_lt (Nat.div_le_self (u64 n) (256 ^ i)) (u64_lt n)
      generalize u64 n / 256 ^ i = q at hx htk hu r3
      have hr : arithV .rem .u64 (q : Int) 256 = some (.int .u64 ((q % 256 : Nat) : Int)) := rfl
      have hq : arithV .quo .u64 (q : Int) 256 = some (.int .u64 ((q / 256 : Nat) : Int)) := by
        show some (Value.int .u64 (IntKind.u64.wrap ((q : Int).tdiv 256))) = _
        rw [Int.tdiv_eq_ediv_of_nonneg (by omega), wru64 (by omega) (by omega)]
        rfl
      have hc : ((q % 256 : Nat) : Int) = ((UInt8.ofNat q).toNat : Int) := by rw [UInt8.toNat_ofNat']
      obtain ⟨w', hY, happ, oY, gY⟩ := push1 ow g (UInt8.ofNat q) (by rw [List.length_take, numB_len]; omega)
      rw [← hc] at happ
      simp (maxSteps := 10000000) (disch := omega) only [vqA, tagOf, reduceIte, reduceCtorEq, reduceEqDiff, reduceAdd, reduceSub, reduceMul, reduceLT, reduceLeDiff, reduceToNat, Nat.reduceBEq, tqA, r3, r4, r5, hr]
      rw [happ]
      simp (maxSteps := 10000000) (disch := omega) only [vqA, tagOf, reduceIte, reduceCtorEq, reduceEqDiff, reduceAdd, reduceSub, reduceMul, reduceLT, reduceLeDiff, reduceToNat, Nat.reduceBEq, tqA, r3, r4, r5, hq]
      exact ⟨k - 1, by omega, i + 1, w', by omega, by rw [hx], rfl, rfl, by rw [htk]; exact oY, gY⟩
    · rw [List.take_of_length_le (by rw [numB_len]; exact hi)] at ow
      simp (maxSteps := 10000000) (disch := omega) only [vqA, tagOf, reduceIte, reduceCtorEq, reduceEqDiff, reduceAdd, reduceSub, reduceMul, reduceLT, reduceLeDiff, reduceToNat, Nat.reduceBEq, tqA, r3, r4, r5]
      exact ⟨ow, g⟩
  · exact ⟨0, _, by omega, by simp (maxSteps := 10000000) (disch := omega) only [vqA, tagOf, reduceIte, reduceCtorEq, reduceEqDiff, reduceAdd, reduceSub, reduceMul, reduceLT, reduceLeDiff, reduceToNat, Nat.reduceBEq, tqA]; rw [Nat.pow_zero, Nat.div_one], by simp (maxSteps := 10000000) (disch := omega) only [vqA, tagOf, reduceIte, reduceCtorEq, reduceEqDiff, reduceAdd, reduceSub, reduceMul, reduceLT, reduceLeDiff, reduceToNat, Nat.reduceBEq, tqA], by simp (maxSteps := 10000000) (disch := omega) only [vqA, tagOf, reduceIte, reduceCtorEq, reduceEqDiff, reduceAdd, reduceSub, reduceMul, reduceLT, reduceLeDiff, reduceToNat, Nat.reduceBEq, tqA]; rfl, .nil _ _ _ _, ⟨Nat.le_refl _, fun _ _ => rfl⟩⟩
theorem refBytes_ok (d : Value) (m : List UInt8) (h : Heap) (hd : BRow h d m) (hl : m.length ≤ 90000000) : Ret E Fe_ [d] h (fun u h' => Own h h' 1 Te_ u ((bytesB m).map byteV) ∧ Grow h h') := by
  refine ret_fun Iaa_ (by simp) ?_
  unfold Gt_
  obtain ⟨a, c, rfl⟩ := hd.is
  simp (maxSteps := 10000000) (disch := omega) only [vqA, tagOf, reduceIte, reduceCtorEq, reduceEqDiff, reduceAdd, reduceSub, reduceMul, reduceLT, reduceLeDiff, reduceToNat, Nat.reduceBEq, tqA]
  refine (refNum_ok m.length h).mono ?_
  rintro u h1 ⟨o1, g1⟩
  obtain ⟨w', hY, happ, oY, gY, _⟩ := own_add Sa_ okSrc_bytes o1 g1 (hd.grow g1) (bytes_one m) (by simp only [List.length_map, numB_len]; omega) (by decide)
  simp (maxSteps := 10000000) (disch := omega) only [vqA, tagOf, reduceIte, reduceCtorEq, reduceEqDiff, reduceAdd, reduceSub, reduceMul, reduceLT, reduceLeDiff, reduceToNat, Nat.reduceBEq, tqA]
  rw [happ]
  simp (maxSteps := 10000000) (disch := omega) only [vqA, tagOf, reduceIte, reduceCtorEq, reduceEqDiff, reduceAdd, reduceSub, reduceMul, reduceLT, reduceLeDiff, reduceToNat, Nat.reduceBEq, tqA]
  rw [← List.map_append] at oY
  exact ⟨oY, gY⟩
end Go.Proofs.Ytdmakachnphddaa.C
