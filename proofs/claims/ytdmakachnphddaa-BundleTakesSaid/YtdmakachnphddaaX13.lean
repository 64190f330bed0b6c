/- X13: bytes with marks: copied, kept, written over. -/
import Derived.Test.YtdmakachnphddaaX12
open Nat (reduceEqDiff reduceAdd reduceSub reduceMul reduceLT reduceLeDiff)
open Int (reduceToNat)
open Go Go.Vi Go.Bm
namespace Go.Proofs.Ytdmakachnphddaa.C
set_option linter.unusedSimpArgs false
set_option maxRecDepth 100000
set_option maxHeartbeats 40000000
theorem cap_bytes {b o n c : Nat} {h : Heap} {cs : List Value} {w : Bool} (hg : h.get b = some (.cells cs w none)) : capR E Tc_ (.slice (some ⟨b, o, none⟩) n c) h = some (.int .i64 c) := by
  unfold capR
  rw [show E.ty Tc_ = some ((E.ty Tc_).getD dTy) from by kernel_rfl]
  simp only [Option.bind_eq_bind, Option.bind_some]
  rw [show ((E.ty Tc_).getD dTy).under = .slice Te_ from by kernel_rfl]
  simp only [hg]
theorem room_add {h : Heap} {b len cap : Nat} {x : Value} {m : List UInt8} {cs : List Value} (r : BRow h x m) (hg : h.get b = some (.cells cs true none)) (hc : len + m.length ≤ cap) (hl : cap ≤ cs.length) :
    ∃ h', appendV E Tc_ (some Tc_) (.slice (some ⟨b, 0, none⟩) len cap) x h = some (.slice (some ⟨b, 0, none⟩) (len + m.length) cap, h') ∧ h'.next = h.next ∧ h'.get b = some (.cells (splice cs len (m.map byteV)) true none) ∧ ∀ c, c ≠ b → h'.get c = h.get c := by
  have hbo := bytes_one m
  rcases Nat.eq_zero_or_pos m.length with h0 | h0
  · have hm : m = [] := List.eq_nil_of_length_eq_zero h0
    subst hm
    refine ⟨h, app_none0 Sa_ okSrc_bytes r (by simp at hc; omega), rfl, ?_, fun _ _ => rfl⟩
    rw [hg]
    unfold splice
    simp
  · rcases r with ⟨_, hm⟩ | ⟨b2, o2, n, c2, row, w, p, hb2, rfl, hc2, hl2, hg2, h1, h2⟩
    · rw [List.map_eq_nil_iff.1 hm] at h0; cases h0
    · rw [List.length_map, Nat.mul_one] at hl2
      subst hl2
      refine ⟨h.set b (.cells (splice cs len (m.map byteV)) true none), ?_, rfl, get_set_same _ _ _, fun c hc => get_set_ne hc⟩
      have hs : cellsAt (h.get b2) o2 (m.length * 1) = some (m.map byteV) := by
        rw [hg2, cellsAt_some, Nat.mul_one]
        rw [List.length_map] at h1 h2
        rw [if_pos h1, h2]
      rw [app_row Sa_ okSrc_bytes, if_neg (by omega), hs, okB_some (by simp) hbo, hg]
      unfold appK
      simp only
      rw [if_pos hc, if_neg (by omega), Nat.zero_add, Nat.mul_one, putAt_some hbo (by rw [List.length_map]; omega)]
theorem copyB_ok (x : Value) (l : List UInt8) (h : Heap) (hx : BRow h x l) (hl : l.length ≤ 1000000) : Ret E F1_ [x] h (fun u h' => Grow h h' ∧ u = .slice (some ⟨h.next, 0, none⟩) l.length (l.length + 2) ∧ h.next < h'.next ∧ h'.get h.next = some (.cells (l.map byteV ++ [.int .u8 165, .int .u8 90]) true none)) := by
  refine ret_fun IK_ (by simp) ?_
  unfold Gw_
  have g1 := Grow.new h (.cells (List.replicate (l.length + 2) (.int .u8 0)) true none)
  obtain ⟨h2, a2, n2, q2, k2⟩ := room_add (b := h.next) (len := 0) (cap := l.length + 2) (hx.grow g1) (get_new_same h (.cells (List.replicate (l.length + 2) (.int .u8 0)) true none)) (by omega) (by rw [List.length_replicate]; exact Nat.le_refl _)
  have e2 : splice (List.replicate (l.length + 2) (Value.int .u8 0)) 0 (l.map byteV) = l.map byteV ++ [.int .u8 0, .int .u8 0] := by
    unfold splice
    rw [List.take_zero, List.nil_append, List.length_map, Nat.zero_add, List.drop_replicate, show l.length + 2 - l.length = 2 by omega]
    rfl
  rw [e2] at q2
  have n2 : h2.next = h.next + 1 := n2
  have e4 : splice (l.map byteV ++ [Value.int .u8 0, .int .u8 0]) l.length ([165, 90].map byteV) = l.map byteV ++ [.int .u8 165, .int .u8 90] := by
    unfold splice
    rw [List.take_append_of_le_length (by simp), List.take_of_length_le (by simp), List.drop_of_length_le (by simp)]
    simp
    exact ⟨rfl, rfl⟩
  obtain ⟨h4, eh4⟩ : ∃ y, y = (h2.new (.cells [.int .u8 165, .int .u8 90] true none)).set h.next (.cells (l.map byteV ++ [.int .u8 165, .int .u8 90]) true none) := ⟨_, rfl⟩
  have q4 : h4.get h.next = some (.cells (l.map byteV ++ [.int .u8 165, .int .u8 90]) true none) := by rw [eh4, get_set_same]
  have hK : appK 1 1 Te_ (h2.new (.cells [.int .u8 165, .int .u8 90] true none)) h.next 0 l.length (l.length + 2) (h2.get h.next) 2 (some [.int .u8 165, .int .u8 90]) = some (.slice (some ⟨h.next, 0, none⟩) (l.length + 2) (l.length + 2), h4) := by
    rw [q2]
    unfold appK
    simp only
    rw [if_pos (Nat.le_refl _), if_neg (by decide), Nat.zero_add, Nat.mul_one, putAt_some rfl (by simp), eh4, ← e4]
    rfl
  obtain ⟨a, c, rfl⟩ := hx.is
  rw [Nat.zero_add] at a2
  have z0 : ((l.length : Int) + 2).toNat = l.length + 2 := by omega
  have zn : ((l.length : Int)).toNat = l.length := Int.toNat_natCast _
  have hbd : boundsV (l.length + 2) (l.length + 2) none (some (.int .i64 l.length)) none = some (0, l.length, l.length + 2) := by
    rw [boundsV_h (by omega) (by omega), zn]
  simp (maxSteps := 10000000) (disch := omega) only [vqA, tagOf, reduceIte, reduceCtorEq, reduceEqDiff, reduceAdd, reduceSub, reduceMul, reduceLT, reduceLeDiff, reduceToNat, Nat.reduceBEq, tqA, z0, a2]
  rw [hK]
  simp (maxSteps := 10000000) (disch := omega) only [vqA, tagOf, reduceIte, reduceCtorEq, reduceEqDiff, reduceAdd, reduceSub, reduceMul, reduceLT, reduceLeDiff, reduceToNat, Nat.reduceBEq, tqA, hbd, q4, cutK_closed]
  have gA : Grow h h2 := ⟨by omega, fun c hc => (k2 c (by omega)).trans (g1.get c hc)⟩
  refine ⟨by rw [eh4]; exact (gA.more _).set (Nat.le_refl _) _, ?_, by rw [eh4]; show h.next < h2.next + 1; omega⟩
  simp
theorem copyB_row {h : Heap} {b : Nat} {l : List UInt8} {w : Bool} {cs : List Value} (hb : b < h.next) (hg : h.get b = some (.cells (l.map byteV ++ cs) w none)) (c : Nat) (hc : l.length ≤ c) : BRow h (.slice (some ⟨b, 0, none⟩) l.length c) l := by
  have := RowV.own (z := 1) (n := l.length) (c := c) hb hc hg (by simp)
  rw [Nat.mul_one, List.take_append_of_le_length (by simp), List.take_of_length_le (by simp)] at this
  exact this
theorem kept_ok (x : Value) (l : List UInt8) (b : Nat) (h : Heap) (hx : BRow h x l) (hl : l.length ≤ 1000000) (hb : b < h.next) (hg : h.get b = some (.cells (l.map byteV ++ [.int .u8 165, .int .u8 90]) true none)) (Q : Value → Heap → Prop) :
    Ret E F8_ [.slice (some ⟨b, 0, none⟩) l.length (l.length + 2), x] h Q = Q (.bool true) h := by
  refine Ret.eq ?_ Q
  refine ret_fun IT_ (by simp) ?_
  unfold GG_
  have hc := copyB_row hb hg (l.length + 2) (by omega)
  have e : (l == l) = true := beq_self_eq_true _
  have t1 := text_bytes hx
  obtain ⟨a, c, rfl⟩ := hx.is
  have z2 : ((l.length : Int) + 2).toNat = l.length + 2 := by omega
  have hbd : boundsV l.length (l.length + 2) none (some (.int .i64 ((l.length : Int) + 2))) none = some (0, l.length + 2, l.length + 2) := by
    rw [boundsV_h (by omega) (by omega), z2]
  have hcap := fun o n c => cap_bytes (o := o) (n := n) (c := c) hg
  have c1 : (l.map byteV ++ [Value.int .u8 165, .int .u8 90])[l.length]? = some (.int .u8 165) := by rw [List.getElem?_append_right (by simp), List.length_map, Nat.sub_self]; rfl
  have c2 : (l.map byteV ++ [Value.int .u8 165, .int .u8 90])[l.length + 1]? = some (.int .u8 90) := by rw [List.getElem?_append_right (by simp), List.length_map, Nat.add_sub_cancel_left]; rfl
  have z1 : ((l.length : Int) + 1).toNat = l.length + 1 := by omega
  simp (maxSteps := 10000000) (disch := omega) only [vqA, tagOf, reduceIte, reduceCtorEq, reduceEqDiff, reduceAdd, reduceSub, reduceMul, reduceLT, reduceLeDiff, reduceToNat, Nat.reduceBEq, tqA, text_bytes hc, t1, e, hbd, hg, c1, c2, hcap, z1]
theorem xor_byte (c : UInt8) : ∃ y : UInt8, arithV .xor .u8 (c.toNat : Int) 255 = some (.int .u8 (y.toNat : Int)) := by
  refine ⟨UInt8.ofNat (BitVec.ofInt 8 (c.toNat : Int) ^^^ BitVec.ofInt 8 255).toNat, ?_⟩
  show some (Value.int .u8 (IntKind.u8.wrap ((BitVec.ofInt 8 (c.toNat : Int) ^^^ BitVec.ofInt 8 255).toNat : Int))) = _
  have := (BitVec.ofInt 8 (c.toNat : Int) ^^^ BitVec.ofInt 8 255).isLt
  generalize (BitVec.ofInt 8 (c.toNat : Int) ^^^ BitVec.ofInt 8 255).toNat = n at this
  rw [IntKind.wrap_u8, UInt8.toNat_ofNat']
  rfl
theorem over_ok (l : List UInt8) (b : Nat) (cs : List Value) (h : Heap) (hl : l.length ≤ 1000000) (hg : h.get b = some (.cells (l.map byteV ++ cs) true none)) :
    Ret E FS_ [.slice (some ⟨b, 0, none⟩) l.length (l.length + 2)] h (fun _ h' => But b b h h') := by
  refine ret_fun Iq_ (by simp) ?_
  unfold Gd_
  simp (maxSteps := 10000000) (disch := omega) only [vqA, tagOf, reduceIte, reduceCtorEq, reduceEqDiff, reduceAdd, reduceSub, reduceMul, reduceLT, reduceLeDiff, reduceToNat, Nat.reduceBEq, tqA]
  refine r_loop (k := l.length) (fun k ρ h' => ∃ (i : Nat) (m : List UInt8), i + k = l.length ∧ m.length = l.length ∧ ρ 0 = .slice (some ⟨b, 0, none⟩) l.length (l.length + 2) ∧ ρ 4 = .int .i64 l.length ∧ ρ 5 = .int .i64 (i : Int) ∧ h'.get b = some (.cells (m.map byteV ++ cs) true none) ∧ But b b h h') ?_ ?_
  · rintro k ρ h' ⟨i, m, hk, hm, r0, r4, r5, hg, db⟩
    unfold GV_
    rcases Nat.lt_or_ge i l.length with hi | hi
    · have him : i < m.length := by omega
      have hx := List.getElem?_eq_getElem him
      obtain ⟨y, hy⟩ := xor_byte m[i]
      have hc : (m.map byteV ++ cs)[i]? = some (.int .u8 (m[i].toNat : Int)) := by rw [List.getElem?_append_left (by rw [List.length_map]; exact him), List.getElem?_map, hx]; rfl
      have hs : (m.map byteV ++ cs).set i (.int .u8 (y.toNat : Int)) = (m.set i y).map byteV ++ cs := by
        rw [List.set_append_left _ _ (by rw [List.length_map]; exact him)]
        show (m.map byteV).set i (byteV y) ++ cs = _
        rw [← List.map_set]
      have hlen : i < (m.map byteV ++ cs).length := by rw [List.length_append, List.length_map]; omega
      simp (maxSteps := 10000000) (disch := omega) only [vqA, tagOf, reduceIte, reduceCtorEq, reduceEqDiff, reduceAdd, reduceSub, reduceMul, reduceLT, reduceLeDiff, reduceToNat, Nat.reduceBEq, tqA, r0, r4, r5, hg, hc, hy]
      exact ⟨k - 1, by omega, i + 1, m.set i y, by omega, by rw [List.length_set]; exact hm, rfl, by rw [hs], db.setx _⟩
    · simp (maxSteps := 10000000) (disch := omega) only [vqA, tagOf, reduceIte, reduceCtorEq, reduceEqDiff, reduceAdd, reduceSub, reduceMul, reduceLT, reduceLeDiff, reduceToNat, Nat.reduceBEq, tqA, r0, r4, r5]
      exact db
  · exact ⟨0, l, by omega, rfl, by simp (maxSteps := 10000000) (disch := omega) only [vqA, tagOf, reduceIte, reduceCtorEq, reduceEqDiff, reduceAdd, reduceSub, reduceMul, reduceLT, reduceLeDiff, reduceToNat, Nat.reduceBEq, tqA], by simp (maxSteps := 10000000) (disch := omega) only [vqA, tagOf, reduceIte, reduceCtorEq, reduceEqDiff, reduceAdd, reduceSub, reduceMul, reduceLT, reduceLeDiff, reduceToNat, Nat.reduceBEq, tqA], by simp (maxSteps := 10000000) (disch := omega) only [vqA, tagOf, reduceIte, reduceCtorEq, reduceEqDiff, reduceAdd, reduceSub, reduceMul, reduceLT, reduceLeDiff, reduceToNat, Nat.reduceBEq, tqA]; rfl, hg, .refl _ _ _⟩
end Go.Proofs.Ytdmakachnphddaa.C
