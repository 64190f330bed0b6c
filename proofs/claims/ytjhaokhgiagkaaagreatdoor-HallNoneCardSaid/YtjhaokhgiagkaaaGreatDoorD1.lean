/- D1: the disk: how long it is, what it has, its steps; a new one. D2: a disk is written. D3: what waits is made sure. -/
import Derived.Test.YtjhaokhgiagkaaaGreatDoorHc
import Derived.Test.YtjhaokhgiagkaaaGreatDoorVgJ
open Go Go.Vi
namespace Go.Proofs.YtjhaokhgiagkaaaGreatDoor.C
set_option linter.unusedSimpArgs false
set_option maxRecDepth 100000
set_option maxHeartbeats 40000000
structure Dk where
  steps : Int
  left : Int
  armed : Bool
  gone : Bool
  size : Int
  sure : Value
  wait : Value
def Dk.cells (d : Dk) : List Value := [.int .i64 d.steps, .int .i64 d.left, .bool d.armed, .bool d.gone, .int .i64 d.size, d.sure, d.wait]
def DkAt (h : Heap) (p : Nat) (d : Dk) : Prop := h.get p = some (.cells d.cells true none)
theorem len_ok (h : Heap) (p : Nat) (d : Dk) (hd : DkAt h p d) : Ret E f_p_disk_Disk_Len [.pointer (some ⟨p, 0, none⟩)] h fun v h' => v = .int .i64 d.size ∧ h' = h := by
  refine ret_fun is_p_disk_Disk_Len (by simp) ?_
  unfold g_p_disk_Disk_Len
  unfold DkAt Dk.cells at hd
  simp (maxSteps := 10000000) (disch := omega) only [vq0, vq1, vq2, vq3, vq4, vq5, tagOf, reduceIte, reduceCtorEq, Nat.reduceEqDiff, Nat.reduceAdd, Nat.reduceSub, Nat.reduceMul, Nat.reduceLT, Nat.reduceLeDiff, Int.reduceToNat, Nat.reduceBEq, tq1, tq2, tq3, tq4, tq5, hd]
theorem has_ok (h : Heap) (p : Nat) (i : Int) (d : Dk) (hd : DkAt h p d) : Ret E f_p_disk_Disk_has [.pointer (some ⟨p, 0, none⟩), .int .i64 i] h fun v h' => v = .bool (decide (0 ≤ i ∧ i < d.size)) ∧ h' = h := by
  refine ret_fun is_p_disk_Disk_has (by simp) ?_
  unfold g_p_disk_Disk_has
  unfold DkAt Dk.cells at hd
  rcases Int.lt_or_le i 0 with h1 | h1
  · rw [decide_eq_false (by omega)]
    simp (maxSteps := 10000000) (disch := omega) only [vq0, vq1, vq2, vq3, vq4, vq5, tagOf, reduceIte, reduceCtorEq, Nat.reduceEqDiff, Nat.reduceAdd, Nat.reduceSub, Nat.reduceMul, Nat.reduceLT, Nat.reduceLeDiff, Int.reduceToNat, Nat.reduceBEq, tq1, tq2, tq3, tq4, tq5, hd]
  · rcases Int.lt_or_le i d.size with h2 | h2
    · rw [decide_eq_true (by omega)]
      simp (maxSteps := 10000000) (disch := omega) only [vq0, vq1, vq2, vq3, vq4, vq5, tagOf, reduceIte, reduceCtorEq, Nat.reduceEqDiff, Nat.reduceAdd, Nat.reduceSub, Nat.reduceMul, Nat.reduceLT, Nat.reduceLeDiff, Int.reduceToNat, Nat.reduceBEq, tq1, tq2, tq3, tq4, tq5, hd]
    · rw [decide_eq_false (by omega)]
      simp (maxSteps := 10000000) (disch := omega) only [vq0, vq1, vq2, vq3, vq4, vq5, tagOf, reduceIte, reduceCtorEq, Nat.reduceEqDiff, Nat.reduceAdd, Nat.reduceSub, Nat.reduceMul, Nat.reduceLT, Nat.reduceLeDiff, Int.reduceToNat, Nat.reduceBEq, tq1, tq2, tq3, tq4, tq5, hd]
theorem area_ok (h : Heap) (p : Nat) (d : Dk) (hd : DkAt h p d) (h1 : 2 ≤ d.size) (h2 : d.size ≤ 1000000) : Ret E f_journal_area [.pointer (some ⟨p, 0, none⟩)] h fun v h' => v = .int .i64 ((d.size - 2) / 3) ∧ h' = h := by
  refine ret_fun is_journal_area (by simp) ?_
  unfold g_journal_area
  simp (maxSteps := 10000000) (disch := omega) only [vq0, vq1, vq2, vq3, vq4, vq5, tagOf, reduceIte, reduceCtorEq, Nat.reduceEqDiff, Nat.reduceAdd, Nat.reduceSub, Nat.reduceMul, Nat.reduceLT, Nat.reduceLeDiff, Int.reduceToNat, Nat.reduceBEq, tq1, tq2, tq3, tq4, tq5, (len_ok h p d hd).eq]
theorem areaAt_ok (h : Heap) (p : Nat) (g : Int) (d : Dk) (hd : DkAt h p d) (h1 : 2 ≤ d.size) (h2 : d.size ≤ 1000000) (hg : 0 ≤ g) : Ret E f_journal_areaAt [.pointer (some ⟨p, 0, none⟩), .int .i64 g] h fun v h' => v = .int .i64 (2 + g % 2 * ((d.size - 2) / 3)) ∧ h' = h := by
  refine ret_fun is_journal_areaAt (by simp) ?_
  unfold g_journal_areaAt
  have hy : 0 ≤ g % 2 * ((d.size - 2) / 3) ∧ g % 2 * ((d.size - 2) / 3) ≤ 1000000 := by
    rcases (show g % 2 = 0 ∨ g % 2 = 1 by omega) with e | e <;> rw [e] <;> omega
  simp (maxSteps := 10000000) (disch := omega) only [vq0, vq1, vq2, vq3, vq4, vq5, tagOf, reduceIte, reduceCtorEq, Nat.reduceEqDiff, Nat.reduceAdd, Nat.reduceSub, Nat.reduceMul, Nat.reduceLT, Nat.reduceLeDiff, Int.reduceToNat, Nat.reduceBEq, tq1, tq2, tq3, tq4, tq5, (area_ok h p d hd h1 h2).eq]
def Dk.step (d : Dk) : Dk := { d with steps := d.steps + 1, left := d.left - 1 }
theorem step_ok (h : Heap) (p : Nat) (d : Dk) (hd : DkAt h p d) (ha : d.armed = false) (hg : d.gone = false) (h1 : 0 ≤ d.steps) (h2 : d.steps < 4611686018427387904) (h3 : d.left ≤ 0) (h4 : -4611686018427387904 < d.left) :
    Ret E f_p_disk_power_step [.pointer (some ⟨p, 0, none⟩)] h fun v h' => v = .bool true ∧ DkAt h' p d.step ∧ h'.next = h.next ∧ ∀ c, c ≠ p → h'.get c = h.get c := by
  refine ret_fun is_p_disk_power_step (by simp) ?_
  unfold g_p_disk_power_step
  unfold DkAt Dk.cells at hd
  rw [ha, hg] at hd
  simp (maxSteps := 10000000) (disch := omega) only [vq0, vq1, vq2, vq3, vq4, vq5, tagOf, reduceIte, reduceCtorEq, Nat.reduceEqDiff, Nat.reduceAdd, Nat.reduceSub, Nat.reduceMul, Nat.reduceLT, Nat.reduceLeDiff, Int.reduceToNat, Nat.reduceBEq, tq1, tq2, tq3, tq4, tq5, hd]
  refine ⟨(get_set_same _ _ _).trans (by unfold Dk.step Dk.cells; rw [ha, hg]), fun c hc => ?_⟩
  rw [show (c == p) = false from beq_eq_false_iff_ne.2 hc, ifG_false, get_set_ne hc, get_set_ne hc]
theorem new_ok (h : Heap) (n : Int) (h1 : 1 ≤ n) (h2 : n ≤ 4096) :
    Ret E f_disk_New [.int .i64 n] h fun v h' => ∃ p m, v = .tuple #[.pointer (some ⟨p, 0, none⟩), .nilIface] ∧ Grow h h' ∧ h.next ≤ p ∧ h.next ≤ m ∧ m ≠ p ∧ p < h'.next ∧ m < h'.next ∧ DkAt h' p ⟨0, 0, false, false, n, .map (some m), .slice none 0 0⟩ ∧ h'.get m = some (.map [] 0) := by
  refine ret_fun is_disk_New (by simp) ?_
  unfold g_disk_New
  have hmk : mkmapK E t_m_int_api_Sector none = some (.map [] 0, .map) := rfl
  simp (maxSteps := 10000000) (disch := omega) only [vq0, vq1, vq2, vq3, vq4, vq5, tagOf, reduceIte, reduceCtorEq, Nat.reduceEqDiff, Nat.reduceAdd, Nat.reduceSub, Nat.reduceMul, Nat.reduceLT, Nat.reduceLeDiff, Int.reduceToNat, Nat.reduceBEq, tq1, tq2, tq3, tq4, tq5, hmk]
  refine ⟨h.next + 1, h.next, rfl, (Grow.new h _).trans (.new _ _), by omega, by omega, by omega, by omega, by omega, get_new_same _ _, ?_⟩
  rw [show (h.next == h.next + 1) = false from beq_eq_false_iff_ne.2 (by omega), ifG_false]
  exact get_new_same _ _
theorem new_bad (h : Heap) (n : Int) (h1 : n < 1 ∨ 4096 < n) :
    Ret E f_disk_New [.int .i64 n] h fun v h' => v = .tuple #[.pointer none, .iface t_api_Errno (.int .i64 1)] ∧ h' = h := by
  refine ret_fun is_disk_New (by simp) ?_
  unfold g_disk_New
  rcases h1 with h1 | h1
  · simp (maxSteps := 10000000) (disch := omega) only [vq0, vq1, vq2, vq3, vq4, vq5, tagOf, reduceIte, reduceCtorEq, Nat.reduceEqDiff, Nat.reduceAdd, Nat.reduceSub, Nat.reduceMul, Nat.reduceLT, Nat.reduceLeDiff, Int.reduceToNat, Nat.reduceBEq, tq1, tq2, tq3, tq4, tq5]
  · simp (maxSteps := 10000000) (disch := omega) only [vq0, vq1, vq2, vq3, vq4, vq5, tagOf, reduceIte, reduceCtorEq, Nat.reduceEqDiff, Nat.reduceAdd, Nat.reduceSub, Nat.reduceMul, Nat.reduceLT, Nat.reduceLeDiff, Int.reduceToNat, Nat.reduceBEq, tq1, tq2, tq3, tq4, tq5]
end Go.Proofs.YtjhaokhgiagkaaaGreatDoor.C
open Go Go.Vi
namespace Go.Proofs.YtjhaokhgiagkaaaGreatDoor.C
set_option linter.unusedSimpArgs false
set_option maxRecDepth 100000
set_option maxHeartbeats 40000000
def wrC (w : Int × List UInt8) : List Value := .int .i64 w.1 :: w.2.map byteV
theorem bytes_one (m : List UInt8) : (m.map byteV).all oneCell = true := List.all_eq_true.2 fun x hx => by
  obtain ⟨b, _, rfl⟩ := List.mem_map.1 hx
  rfl
theorem veqs_bytes : ∀ (m : List UInt8) (n : Nat), m.length + 1 < n → veqs n (m.map byteV) (m.map byteV) = true
  | [], n, h => by
    obtain ⟨k, rfl⟩ : ∃ k, n = k + 1 := ⟨n - 1, by omega⟩
    rw [List.map_nil, veqs_nil]
  | b :: m, n, h => by
    obtain ⟨k, rfl⟩ : ∃ k, n = k + 2 := ⟨n - 2, by simp only [List.length_cons] at h; omega⟩
    rw [List.map_cons, veqs_cons, veqs_bytes m (k + 1) (by simp only [List.length_cons] at h; omega), byteV, veqN_int]
    rfl
theorem okSrc_bytes : okSrc E (some t_s_uint8) = some true := by kernel_rfl
theorem okSrc_writes : okSrc E (some t_s_disk_write) = some true := by kernel_rfl
theorem write_ok (h0 h : Heap) (p : Nat) (i : Int) (bs : List UInt8) (d : Dk) (ws : List (Int × List UInt8)) (hd : DkAt h p d) (ha : d.armed = false) (hg : d.gone = false) (h1 : 0 ≤ d.steps) (h2 : d.steps < 4611686018427387904) (h3 : d.left ≤ 0) (h4 : -4611686018427387904 < d.left)
    (g : Grow h0 h) (hp : h0.next ≤ p ∧ p < h.next) (hw : Own h0 h 129 t_disk_write d.wait (ws.flatMap wrC)) (hwp : blkOf d.wait ≠ some p) (hi : 0 ≤ i ∧ i < d.size) (hs : bs.length = 128) (hn : ws.length ≤ 10000) (hl : (ws.flatMap wrC).length = 129 * ws.length) :
    Ret E f_p_disk_Disk_Write [.pointer (some ⟨p, 0, none⟩), .int .i64 i, .agg ⟨bs.map byteV⟩] h fun v h' => v = .nilIface ∧ ∃ w', DkAt h' p { d.step with wait := w' } ∧ Own h0 h' 129 t_disk_write w' ((ws ++ [(i, bs)]).flatMap wrC) ∧ (∀ b, blkOf w' = some b → h.next ≤ b) ∧
      h.next ≤ h'.next ∧ (∀ c, c < h.next → c ≠ p → blkOf d.wait ≠ some c → h'.get c = h.get c) := by
  refine ret_fun is_p_disk_Disk_Write (by simp) ?_
  unfold g_p_disk_Disk_Write
  have hs1 : (bs.map byteV).length = 128 := by rw [List.length_map]; exact hs
  have hs2 := bytes_one bs
  have hve := veqs_bytes bs 99999 (by omega)
  have hsn : ∀ ws : List (Int × List UInt8), (ws ++ [(i, bs)]).flatMap wrC = ws.flatMap wrC ++ (.int .i64 i :: bs.map byteV) := fun ws => by rw [List.flatMap_append]; simp [wrC]
  rw [hsn]
  generalize bs.map byteV = s at hs1 hs2 hve hsn ⊢
  obtain ⟨st, le, ar, go, sz, su, wt⟩ := d
  simp only at ha hg h1 h2 h3 h4 hw hwp hi
  subst ha hg
  obtain ⟨aw, nw, cw, rfl, hnw, hcw⟩ := hw.row.is
  have hd1 : DkAt (h.new (.cells s true none)) p ⟨st, le, false, false, sz, su, .slice aw nw cw⟩ := (get_new_ne (by omega)).trans hd
  have hhas := (has_ok (h.new (.cells s true none)) p i _ hd1).eq
  rw [decide_eq_true (show 0 ≤ i ∧ i < sz by omega)] at hhas
  have htk : s.take 128 = s := List.take_of_length_le (by omega)
  simp (maxSteps := 10000000) (disch := omega) only [vq0, vq1, vq2, vq3, vq4, vq5, tagOf, reduceIte, reduceCtorEq, Nat.reduceEqDiff, Nat.reduceAdd, Nat.reduceSub, Nat.reduceMul, Nat.reduceLT, Nat.reduceLeDiff, Int.reduceToNat, Nat.reduceBEq, tq1, tq2, tq3, tq4, tq5, hhas]
  refine (step_ok _ p _ hd1 rfl rfl h1 h2 h3 h4).mono ?_
  rintro v h' ⟨rfl, hd2, hn2, hk2⟩
  have hd3 : h'.get p = some (.cells [.int .i64 (st + 1), .int .i64 (le - 1), .bool false, .bool false, .int .i64 sz, su, .slice aw nw cw] true none) := hd2
  have hg5 : h'.get h.next = some (.cells s true none) := (hk2 _ (by omega)).trans (get_new_same _ _)
  have hzl : z_t_disk_write.length = 129 := rfl
  have hz1 : (z_t_disk_write.drop 1).length = 128 := rfl
  have hz2 : (z_t_disk_write.drop 1).drop 128 = [] := rfl
  simp (maxSteps := 10000000) (disch := omega) only [vq0, vq1, vq2, vq3, vq4, vq5, tagOf, reduceIte, reduceCtorEq, Nat.reduceEqDiff, Nat.reduceAdd, Nat.reduceSub, Nat.reduceMul, Nat.reduceLT, Nat.reduceLeDiff, Int.reduceToNat, Nat.reduceBEq, tq1, tq2, tq3, tq4, tq5, hd3, hg5, htk, hs1, hzl, hz1, hz2]
  have hlen : (h.new (.cells s true none)).next = h.next + 1 := rfl
  rw [hlen] at hn2
  have hold : ∀ c, c < h.next → c ≠ p → h'.get c = h.get c := fun c hc hcp => (hk2 c hcp).trans (get_new_ne (by omega))
  have g1 : Grow h0 h' := ⟨by have := g.next; omega, fun c hc => (hold c (by have := g.next; omega) (by omega)).trans (g.get c hc)⟩
  have ow1 : Own h0 h' 129 t_disk_write (.slice aw nw cw) (ws.flatMap wrC) := hw.keep (by omega) fun b hb => hold b (hw.lt hb).2 fun e => hwp (by rw [hb, e])
  have mB : (h'.new (.cells (.int .i64 i :: s) true none)).get h'.next = some (.cells (.int .i64 i :: s) true none) := get_new_same _ _
  have nB : (h'.new (.cells (.int .i64 i :: s) true none)).next = h'.next + 1 := rfl
  have pB : (h'.new (.cells (.int .i64 i :: s) true none)).get p = h'.get p := get_new_ne (by omega)
  have tB : (.int .i64 i :: s).take 129 = .int .i64 i :: s := List.take_of_length_le (by rw [List.length_cons]; omega)
  obtain ⟨w', h2, happ, ow2, g2, hn3, hbk, hkeep⟩ := own_appN sl_s_disk_write okSrc_writes (ow1.grow (.new h' (.cells (.int .i64 i :: s) true none))) (g1.trans (.new h' _)) (b2 := h'.next) (o2 := 0) (n := 1) (c2 := 1) (new := .int .i64 i :: s) (N := 2000000)
    (by rw [mB]; simp (maxSteps := 10000000) (disch := omega) only [vq0, vq1, vq2, vq3, vq4, vq5, tagOf, reduceIte, reduceCtorEq, Nat.reduceEqDiff, Nat.reduceAdd, Nat.reduceSub, Nat.reduceMul, Nat.reduceLT, Nat.reduceLeDiff, Int.reduceToNat, Nat.reduceBEq, tq1, tq2, tq3, tq4, tq5, hs1, tB]) (by omega) (by rw [List.all_cons, hs2]; rfl) (by rw [hl, List.length_cons, hs1]; omega) (by omega) (by decide)
  rw [happ]
  obtain ⟨a2, n2, c2, rfl, _⟩ := ow2.row.is
  have m5 : (h'.new (.cells (.int .i64 i :: s) true none)).get h.next = some (.cells s true none) := (get_new_ne (by omega)).trans hg5
  have p2 : h2.get p = h'.get p := (hkeep p (by omega) hwp).trans pB
  simp (maxSteps := 10000000) (disch := omega) only [vq0, vq1, vq2, vq3, vq4, vq5, tagOf, reduceIte, reduceCtorEq, Nat.reduceEqDiff, Nat.reduceAdd, Nat.reduceSub, Nat.reduceMul, Nat.reduceLT, Nat.reduceLeDiff, Int.reduceToNat, Nat.reduceBEq, tq1, tq2, tq3, tq4, tq5, hd3, p2, pB, m5, hs1, htk, hve]
  have hbp : ∀ b, blkOf (.slice a2 n2 c2) = some b → b ≠ p := fun b hb => by
    rw [hbk, nB] at hb
    have := Option.some.inj hb
    omega
  refine ⟨.slice a2 n2 c2, get_set_same _ _ _, ?_, fun b hb => (by rw [hbk, nB] at hb; have := Option.some.inj hb; omega), by omega, fun c hc hcp hcw => ?_⟩
  · exact ow2.keep (Nat.le_refl _) fun b hb => get_set_ne (hbp b hb)
  · rw [show (c == p) = false from beq_eq_false_iff_ne.2 hcp, ifG_false, hkeep c (by omega) hcw, get_new_ne (by omega)]
    exact hold c hc hcp
end Go.Proofs.YtjhaokhgiagkaaaGreatDoor.C
open Go Go.Vi
namespace Go.Proofs.YtjhaokhgiagkaaaGreatDoor.C
set_option linter.unusedSimpArgs false
set_option maxRecDepth 100000
set_option maxHeartbeats 40000000
def zsec : List UInt8 := List.replicate 128 0
def SureIs (h : Heap) (m : Nat) (f : Int → List UInt8) : Prop := ∃ es c, h.get m = some (.map es c) ∧ Nums .i64 es ∧ ∀ q, (valI .i64 es q = none ∧ f q = zsec) ∨ valI .i64 es q = some (.agg ⟨(f q).map byteV⟩)
def upd (f : Int → List UInt8) (w : Int × List UInt8) : Int → List UInt8 := fun q => if q = w.1 then w.2 else f q
theorem zS_is : (E.ty t_api_Sector).map (fun i => i.zero) = some (some (.agg ⟨zsec.map byteV⟩)) := by kernel_rfl
theorem mp_sure : IntMap E t_m_int_api_Sector t_int t_api_Sector .i64 (.agg ⟨zsec.map byteV⟩) := ⟨by kernel_rfl, by kernel_rfl, zS_is⟩
theorem sure_put {h : Heap} {m : Nat} {f : Int → List UInt8} (x : SureIs h m f) (a : Int) (s : List UInt8) :
    ∃ es c, mapPutV E t_m_int_api_Sector (.map (some m)) (.int .i64 a) (.agg ⟨s.map byteV⟩) h = some (h.set m (.map es c)) ∧ SureIs (h.set m (.map es c)) m (upd f (a, s)) := by
  obtain ⟨es, c, hg, hn, hv⟩ := x
  rcases find_val a 0 hn with ⟨h1, h2⟩ | ⟨j, v, h1, h2, h3⟩
  · refine ⟨_, _, iput_none mp_sure hg _ h1, _, _, get_set_same _ _ _, hn.snoc _ _ _, fun q => ?_⟩
    rw [val_snoc a _ c hn h2 q]
    unfold upd
    by_cases hq : q = a
    · rw [if_pos hq, if_pos hq]; exact .inr rfl
    · rw [if_neg hq, if_neg hq]; exact hv q
  · rw [Nat.zero_add] at h1
    refine ⟨_, _, iput_some mp_sure hg _ h1, _, _, get_set_same _ _ _, hn.put _, fun q => ?_⟩
    rw [h3]
    unfold upd
    by_cases hq : q = a
    · rw [if_pos hq, if_pos hq]; exact .inr rfl
    · rw [if_neg hq, if_neg hq]; exact hv q
theorem SureIs.keep {h h' : Heap} {m : Nat} {f : Int → List UInt8} (x : SureIs h m f) (e : h'.get m = h.get m) : SureIs h' m f := by
  obtain ⟨es, c, hg, r⟩ := x
  exact ⟨es, c, e.trans hg, r⟩
theorem kept_ok (h : Heap) (n : Int) : Ret E f_p_disk_Disk_Flush_1 [.int .i64 n] h fun v h' => v = .bool true ∧ h' = h := by
  refine ret_fun is_p_disk_Disk_Flush_1 (by simp) ?_
  unfold g_p_disk_Disk_Flush_1
  simp (maxSteps := 10000000) (disch := omega) only [vq0, vq1, vq2, vq3, vq4, vq5, tagOf, reduceIte, reduceCtorEq, Nat.reduceEqDiff, Nat.reduceAdd, Nat.reduceSub, Nat.reduceMul, Nat.reduceLT, Nat.reduceLeDiff, Int.reduceToNat, Nat.reduceBEq, tq1, tq2, tq3, tq4, tq5]
theorem wrC_len (w : Int × List UInt8) (h : w.2.length = 128) : (wrC w).length = 129 := by unfold wrC; rw [List.length_cons, List.length_map, h]
theorem settle_ok (h0 h : Heap) (p m : Nat) (d : Dk) (ws : List (Int × List UInt8)) (f : Int → List UInt8) (hd : DkAt h p d) (hsu : d.sure = .map (some m)) (hm : SureIs h m f) (hmp : m < h.next) (hp : p < h.next) (hpm : p ≠ m)
    (hw : Own h0 h 129 t_disk_write d.wait (ws.flatMap wrC)) (hws : ∀ w ∈ ws, w.2.length = 128) (hn : ws.length ≤ 10000) :
    Ret E f_p_disk_Disk_settle [.pointer (some ⟨p, 0, none⟩), .func (.func f_p_disk_Disk_Flush_1) #[] #[]] h fun _ h' => DkAt h' p { d with wait := .slice none 0 0 } ∧ SureIs h' m (ws.foldl upd f) ∧
      h.next ≤ h'.next ∧ (∀ c, c < h.next → c ≠ p → c ≠ m → h'.get c = h.get c) := by
  refine ret_fun is_p_disk_Disk_settle (by simp) ?_
  unfold g_p_disk_Disk_settle
  obtain ⟨st, le, ar, go, sz, su, wt⟩ := d
  simp only at hsu hw
  subst hsu
  obtain ⟨aw, nw, cw, rfl, hnw, hcw⟩ := hw.row.is
  have hfl := flat_len (xs := ws) (f := wrC) (z := 129) fun y hy => wrC_len y (hws y hy)
  have hnl : nw = ws.length := by omega
  subst hnl
  have hd3 : h.get p = some (.cells [.int .i64 st, .int .i64 le, .bool ar, .bool go, .int .i64 sz, .map (some m), .slice aw ws.length cw] true none) := hd
  simp (maxSteps := 10000000) (disch := omega) only [vq0, vq1, vq2, vq3, vq4, vq5, tagOf, reduceIte, reduceCtorEq, Nat.reduceEqDiff, Nat.reduceAdd, Nat.reduceSub, Nat.reduceMul, Nat.reduceLT, Nat.reduceLeDiff, Int.reduceToNat, Nat.reduceBEq, tq1, tq2, tq3, tq4, tq5, hd3]
  refine r_loop (k := ws.length) (fun k ρ h' => ∃ i : Nat, i + k = ws.length ∧ SureIs h' m ((ws.take i).foldl upd f) ∧ ρ 0 = .pointer (some ⟨p, 0, none⟩) ∧ ρ 1 = .func (.func f_p_disk_Disk_Flush_1) #[] #[] ∧
    ρ 9 = .slice aw ws.length cw ∧ ρ 10 = .int .i64 ws.length ∧ ρ 11 = .int .i64 (i : Int) ∧ h.next ≤ h'.next ∧ ∀ c, c < h.next → c ≠ m → h'.get c = h.get c) ?_ ?_
  · rintro k ρ h' ⟨i, hk, hsi, r0, r1, r9, r10, r11, hnx, hkp⟩
    unfold g_p_disk_Disk_settle_L0
    rcases Nat.lt_or_ge i ws.length with hi | hi
    · have hr : ws[i]? = some ws[i] := List.getElem?_eq_getElem hi
      have hwl := hws ws[i] (List.getElem_mem hi)
      have htk : ws.take (i + 1) = ws.take i ++ [ws[i]] := by rw [List.take_add_one, hr]; rfl
      have hel := flat_elem (z := 129) (fun y hy => wrC_len y (hws y hy)) hr
      rcases hw with ⟨_, e⟩ | ⟨b, n, e, hn0, _, hb0, hb1, hg⟩
      · rw [e] at hfl; simp at hfl; omega
      · cases e
        obtain ⟨es, c0, hmg, _⟩ := hm
        have hbm : b ≠ m := fun e => by rw [e, hmg] at hg; cases hg
        have hgb : h'.get b = _ := (hkp b hb1 hbm).trans hg
        have hd4 : h'.get p = _ := (hkp p hp hpm).trans hd3
        rw [wrC] at hel
        obtain ⟨hB, eB⟩ : ∃ y, y = (h'.new (.cells z_t_disk_write true none)).set h'.next (.cells (.int .i64 ws[i].1 :: ws[i].2.map byteV) true none) := ⟨_, rfl⟩
        have nB : hB.next = h'.next + 1 := by rw [eB]; rfl
        have kB : ∀ c, c < h'.next → hB.get c = h'.get c := fun c hc => by rw [eB, get_set_ne (by omega), get_new_ne (by omega)]
        have bB : hB.get h'.next = some (.cells (.int .i64 ws[i].1 :: ws[i].2.map byteV) true none) := by rw [eB]; exact get_set_same _ _ _
        obtain ⟨es2, c2, hput, hsn⟩ := sure_put (hsi.keep (kB m (by omega))) ws[i].1 ws[i].2
        have hpB : hB.get p = _ := (kB p (by omega)).trans hd4
        generalize ws[i] = w at hr hwl hel eB bB hput hsn htk
        have hs1 : (w.2.map byteV).length = 128 := by rw [List.length_map]; exact hwl
        have ht1 : (w.2.map byteV).take 128 = w.2.map byteV := List.take_of_length_le (by omega)
        have ht2 : (.int .i64 w.1 :: w.2.map byteV).take 129 = .int .i64 w.1 :: w.2.map byteV := List.take_of_length_le (by rw [List.length_cons]; omega)
        have hzl : z_t_disk_write.drop 129 = [] := rfl
        have hve := veqs_bytes w.2 99999 (by omega)
        simp (maxSteps := 10000000) (disch := omega) only [vq0, vq1, vq2, vq3, vq4, vq5, tagOf, reduceIte, reduceCtorEq, Nat.reduceEqDiff, Nat.reduceAdd, Nat.reduceSub, Nat.reduceMul, Nat.reduceLT, Nat.reduceLeDiff, Int.reduceToNat, Nat.reduceBEq, tq1, tq2, tq3, tq4, tq5, r0, r1, r9, r10, r11, hgb, hel, hs1, hzl]
        rw [← eB, (kept_ok hB _).eq]
        simp (maxSteps := 10000000) (disch := omega) only [vq0, vq1, vq2, vq3, vq4, vq5, tagOf, reduceIte, reduceCtorEq, Nat.reduceEqDiff, Nat.reduceAdd, Nat.reduceSub, Nat.reduceMul, Nat.reduceLT, Nat.reduceLeDiff, Int.reduceToNat, Nat.reduceBEq, tq1, tq2, tq3, tq4, tq5, r0, r1, r9, r10, r11, hpB, bB, hs1, ht1, ht2, hput, hve]
        refine ⟨k - 1, by omega, i + 1, by omega, ?_, rfl, by omega, fun c hc hcm => ?_⟩
        · rw [htk, List.foldl_append]
          exact hsn
        · rw [show (c == m) = false from beq_eq_false_iff_ne.2 hcm, ifG_false, kB c (by omega)]
          exact hkp c hc hcm
    · have hi2 : i = ws.length := by omega
      subst hi2
      rw [List.take_length] at hsi
      have hd4 : h'.get p = _ := (hkp p hp hpm).trans hd3
      simp (maxSteps := 10000000) (disch := omega) only [vq0, vq1, vq2, vq3, vq4, vq5, tagOf, reduceIte, reduceCtorEq, Nat.reduceEqDiff, Nat.reduceAdd, Nat.reduceSub, Nat.reduceMul, Nat.reduceLT, Nat.reduceLeDiff, Int.reduceToNat, Nat.reduceBEq, tq1, tq2, tq3, tq4, tq5, r0, r1, r9, r10, r11, hd4]
      refine ⟨get_set_same _ _ _, hsi.keep (get_set_ne (fun e => hpm e.symm)), hnx, fun c hc h1 h2 => ?_⟩
      rw [show (c == p) = false from beq_eq_false_iff_ne.2 h1, ifG_false]
      exact hkp c hc h2
  · refine ⟨0, by omega, hm, ?_⟩
    simp (maxSteps := 10000000) (disch := omega) only [vq0, vq1, vq2, vq3, vq4, vq5, tagOf, reduceIte, reduceCtorEq, Nat.reduceEqDiff, Nat.reduceAdd, Nat.reduceSub, Nat.reduceMul, Nat.reduceLT, Nat.reduceLeDiff, Int.reduceToNat, Nat.reduceBEq, tq1, tq2, tq3, tq4, tq5]
    exact ⟨rfl, Nat.le_refl _, fun _ _ _ => trivial⟩
structure Live (d : Dk) : Prop where
  armed : d.armed = false
  gone : d.gone = false
  s0 : 0 ≤ d.steps
  s1 : d.steps < 4611686018427387904
  l0 : d.left ≤ 0
  l1 : -4611686018427387904 < d.left
theorem flush_ok (h0 h : Heap) (p m : Nat) (d : Dk) (ws : List (Int × List UInt8)) (f : Int → List UInt8) (hd : DkAt h p d) (lv : Live d) (hsu : d.sure = .map (some m)) (hm : SureIs h m f) (hmp : m < h.next) (hp : p < h.next) (hpm : p ≠ m)
    (hw : Own h0 h 129 t_disk_write d.wait (ws.flatMap wrC)) (hwp : blkOf d.wait ≠ some p) (hws : ∀ w ∈ ws, w.2.length = 128) (hn : ws.length ≤ 10000) :
    Ret E f_p_disk_Disk_Flush [.pointer (some ⟨p, 0, none⟩)] h fun v h' => v = .nilIface ∧ DkAt h' p { d.step with wait := .slice none 0 0 } ∧ SureIs h' m (ws.foldl upd f) ∧
      h.next ≤ h'.next ∧ (∀ c, c < h.next → c ≠ p → c ≠ m → h'.get c = h.get c) := by
  refine ret_fun is_p_disk_Disk_Flush (by simp) ?_
  unfold g_p_disk_Disk_Flush
  simp (maxSteps := 10000000) (disch := omega) only [vq0, vq1, vq2, vq3, vq4, vq5, tagOf, reduceIte, reduceCtorEq, Nat.reduceEqDiff, Nat.reduceAdd, Nat.reduceSub, Nat.reduceMul, Nat.reduceLT, Nat.reduceLeDiff, Int.reduceToNat, Nat.reduceBEq, tq1, tq2, tq3, tq4, tq5]
  refine (step_ok _ p d hd lv.armed lv.gone lv.s0 lv.s1 lv.l0 lv.l1).mono ?_
  rintro v h1 ⟨rfl, hd1, hn1, hk1⟩
  simp (maxSteps := 10000000) (disch := omega) only [vq0, vq1, vq2, vq3, vq4, vq5, tagOf, reduceIte, reduceCtorEq, Nat.reduceEqDiff, Nat.reduceAdd, Nat.reduceSub, Nat.reduceMul, Nat.reduceLT, Nat.reduceLeDiff, Int.reduceToNat, Nat.reduceBEq, tq1, tq2, tq3, tq4, tq5]
  refine (settle_ok h0 h1 p m d.step ws f hd1 hsu (hm.keep (hk1 m fun e => hpm e.symm)) (by omega) (by omega) hpm (hw.keep (by omega) fun b hb => hk1 b fun e => hwp (by rw [hb, e])) hws hn).mono ?_
  rintro v h2 ⟨hd2, hm2, hn2, hk2⟩
  simp (maxSteps := 10000000) (disch := omega) only [vq0, vq1, vq2, vq3, vq4, vq5, tagOf, reduceIte, reduceCtorEq, Nat.reduceEqDiff, Nat.reduceAdd, Nat.reduceSub, Nat.reduceMul, Nat.reduceLT, Nat.reduceLeDiff, Int.reduceToNat, Nat.reduceBEq, tq1, tq2, tq3, tq4, tq5]
  exact ⟨hd2, hm2, by omega, fun c hc h3 h4 => (hk2 c (by omega) h3 h4).trans (hk1 c h3)⟩
end Go.Proofs.YtjhaokhgiagkaaaGreatDoor.C
