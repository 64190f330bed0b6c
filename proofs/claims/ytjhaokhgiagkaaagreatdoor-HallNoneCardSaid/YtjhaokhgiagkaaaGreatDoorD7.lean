/- D7: a box is sealed. -/
import Derived.Test.YtjhaokhgiagkaaaGreatDoorD6
open Go Go.Vi Go.Bm
namespace Go.Proofs.YtjhaokhgiagkaaaGreatDoor.C
set_option linter.unusedSimpArgs false
set_option maxRecDepth 100000
set_option maxHeartbeats 40000000
def boxH (k g n : Int) (len : Nat) : List UInt8 := [] ++ [UInt8.ofNat k.toNat] ++ numB g ++ numB n ++ [UInt8.ofNat len]
def bodyS (k g n : Int) (d : List UInt8) : List UInt8 := boxH k g n d.length ++ d ++ List.replicate (124 - (boxH k g n d.length ++ d).length) (0 : UInt8)
def le4 (sm : Nat) : List UInt8 := (List.range 4).map fun i : Nat => UInt8.ofNat (IntKind.u8.wrap ((sm : Int).fdiv (2 ^ (min (8 * (i : Int)).toNat 32)))).toNat
def sealS (k g n : Int) (d : List UInt8) : List UInt8 := le4 (crcGo 0 (bodyS k g n d)) ++ bodyS k g n d
theorem boxH_len (k g n : Int) (l : Nat) : (boxH k g n l).length = 18 := by unfold boxH; simp [numB_len]
theorem bodyS_len (k g n : Int) (d : List UInt8) (h : d.length ≤ 106) : (bodyS k g n d).length = 124 := by unfold bodyS; simp only [List.length_append, List.length_replicate, boxH_len]; omega
theorem le4_len (sm : Nat) : (le4 sm).length = 4 := by unfold le4; rw [List.length_map, List.length_range]
theorem sealS_len (k g n : Int) (d : List UInt8) (h : d.length ≤ 106) : (sealS k g n d).length = 128 := by unfold sealS; rw [List.length_append, le4_len, bodyS_len k g n d h]
theorem set_fill {l r : List UInt8} {n i : Nat} {x : UInt8} (hi : i < n) (hl : l.length = n) (hx : l[i]? = some x) : (l.take i ++ List.replicate (n - i) 0 ++ r).set i x = l.take (i + 1) ++ List.replicate (n - (i + 1)) 0 ++ r := by
  have h1 : (l.take i).length = i := by rw [List.length_take]; omega
  rw [List.take_add_one, hx, show n - i = (n - (i + 1)) + 1 by omega, List.replicate_succ, List.append_assoc, List.append_assoc, List.set_append_right _ _ (by omega), h1, Nat.sub_self]
  simp
theorem ty_sector : ∃ i e, E.ty t_api_Sector = some i ∧ i.under = .array 128 t_uint8 ∧ E.ty t_uint8 = some e ∧ e.size = 1 :=
  ⟨(E.ty t_api_Sector).getD dTy, (E.ty t_uint8).getD dTy, by kernel_rfl, by kernel_rfl, by kernel_rfl, by kernel_rfl⟩
theorem slp_sector (b : Nat) : sliceV E t_api_Sector (.pointer (some ⟨b, 0, none⟩)) (some (.int .i64 4)) none none = none := by
  obtain ⟨i, e, hi, hu, he, hs⟩ := ty_sector
  generalize E = E' at hi he ⊢
  unfold sliceV
  simp only [hi, hu, Option.bind_eq_bind, Option.bind_some]
theorem sls_sector {h : Heap} {b : Nat} {cs : List Value} (hg : h.get b = some (.cells cs true none)) :
    sliceS E t_api_Sector (.pointer (some ⟨b, 0, none⟩)) (some (.int .i64 4)) none none h = some (.slice (some ⟨b, 4, none⟩) 124 124) := by
  obtain ⟨i, e, hi, hu, he, hs⟩ := ty_sector
  generalize E = E' at hi he ⊢
  have hc : closed h b = true := by unfold closed; rw [hg]
  unfold sliceS
  simp only [hi, hu, he, Option.bind_eq_bind, Option.bind_some]
  rw [show boundsV 128 128 (some (.int .i64 4)) none none = some (4, 128, 128) from rfl]
  simp only [Option.bind_some]
  rw [if_pos ⟨by rw [hs]; decide, hc⟩, if_neg (by decide), hs]
  rfl
theorem seal_ok (h : Heap) (k g n : Int) (v : Value) (d : List UInt8) (hd : BRow h v d) (hk : 1 ≤ k ∧ k ≤ 255) (hg : 0 ≤ g ∧ g ≤ 4611686018427387904) (hn : 0 ≤ n ∧ n ≤ 2147483647) (hl : d.length ≤ 106) :
    Ret E f_box_Seal [.agg ⟨[.int .i64 k, .int .i64 g, .int .i64 n, v]⟩] h fun u h' => Grow h h' ∧ u = .tuple #[.agg ⟨(sealS k g n d).map byteV⟩, .nilIface] := by
  obtain ⟨kb, rfl⟩ : ∃ b : UInt8, k = (b.toNat : Int) := ⟨UInt8.ofNat k.toNat, by rw [UInt8.toNat_ofNat']; omega⟩
  refine ret_fun is_box_Seal (by simp) ?_
  unfold g_box_Seal
  have w1 := (within_ok (kb.toNat : Int) 1 255 · |>.eq)
  have w2 := (within_ok g 0 4611686018427387904 · |>.eq)
  have w3 := (within_ok n 0 2147483647 · |>.eq)
  rw [decide_eq_true (by omega)] at w1 w2 w3
  obtain ⟨a, c, rfl⟩ := hd.is
  simp (maxSteps := 10000000) (disch := omega) only [vq0, vq1, vq2, vq3, vq4, vq5, tagOf, reduceIte, reduceCtorEq, Nat.reduceEqDiff, Nat.reduceAdd, Nat.reduceSub, Nat.reduceMul, Nat.reduceLT, Nat.reduceLeDiff, Int.reduceToNat, Nat.reduceBEq, tq1, tq2, tq3, tq4, tq5, w1, w2, w3]
  obtain ⟨hA, eA⟩ : ∃ y, y = ((h.new (.cells [.int .i64 kb.toNat, .int .i64 g, .int .i64 n, .slice a d.length c] true none)).new (.cells z_t_api_Sector true none)).new (.cells [.slice none 0 0] true none) := ⟨_, rfl⟩
  have gA : Grow h hA := by rw [eA]; exact ((Grow.new h _).trans (.new _ _)).trans (.new _ _)
  have nA : hA.next = h.next + 3 := by rw [eA]; rfl
  have aA : hA.get h.next = some (.cells [.int .i64 kb.toNat, .int .i64 g, .int .i64 n, .slice a d.length c] true none) := by rw [eA, get_new_ne (show h.next ≠ h.next + 2 by omega), get_new_ne (show h.next ≠ h.next + 1 by omega), get_new_same]
  have zA : hA.get (h.next + 1) = some (.cells z_t_api_Sector true none) := by rw [eA, get_new_ne (show h.next + 1 ≠ h.next + 2 by omega)]; exact get_new_same _ _
  have pA : hA.get (h.next + 2) = some (.cells [.slice none 0 0] true none) := by rw [eA]; exact get_new_same _ _
  rw [← eA]
  clear eA
  have x0 : Wt h hA (h.next + 2) [] := ⟨⟨_, pA, .nil _ _ _ _, fun e => nomatch e⟩, ⟨by omega, by omega⟩, gA⟩
  have m0 : ∀ c, ¬ Mine hA (h.next + 2) c := fun c ⟨v, h1, h2⟩ => by rw [pA] at h1; cases h1; cases h2
  refine (wbyte_ok h hA (h.next + 2) [] kb x0 (by simp)).mono ?_
  rintro v1 h1 ⟨x1, f1⟩
  have a1 := (f1.keep h.next (by omega) (by omega) (m0 _)).trans aA
  simp (maxSteps := 10000000) (disch := omega) only [vq0, vq1, vq2, vq3, vq4, vq5, tagOf, reduceIte, reduceCtorEq, Nat.reduceEqDiff, Nat.reduceAdd, Nat.reduceSub, Nat.reduceMul, Nat.reduceLT, Nat.reduceLeDiff, Int.reduceToNat, Nat.reduceBEq, tq1, tq2, tq3, tq4, tq5, a1]
  refine (wnum_ok h h1 (h.next + 2) _ g x1 (by simp)).mono ?_
  rintro v2 h2 ⟨x2, f2⟩
  have f02 := f1.trans f2
  have a2 := (f02.keep h.next (by omega) (by omega) (m0 _)).trans aA
  simp (maxSteps := 10000000) (disch := omega) only [vq0, vq1, vq2, vq3, vq4, vq5, tagOf, reduceIte, reduceCtorEq, Nat.reduceEqDiff, Nat.reduceAdd, Nat.reduceSub, Nat.reduceMul, Nat.reduceLT, Nat.reduceLeDiff, Int.reduceToNat, Nat.reduceBEq, tq1, tq2, tq3, tq4, tq5, a2]
  refine (wnum_ok h h2 (h.next + 2) _ n x2 (by simp [numB_len])).mono ?_
  rintro v3 h3 ⟨x3, f3⟩
  have f03 := f02.trans f3
  have a3 := (f03.keep h.next (by omega) (by omega) (m0 _)).trans aA
  simp (maxSteps := 10000000) (disch := omega) only [vq0, vq1, vq2, vq3, vq4, vq5, tagOf, reduceIte, reduceCtorEq, Nat.reduceEqDiff, Nat.reduceAdd, Nat.reduceSub, Nat.reduceMul, Nat.reduceLT, Nat.reduceLeDiff, Int.reduceToNat, Nat.reduceBEq, tq1, tq2, tq3, tq4, tq5, a3]
  obtain ⟨lb, hlb⟩ : ∃ b : UInt8, (d.length : Int) = (b.toNat : Int) := ⟨UInt8.ofNat d.length, by rw [UInt8.toNat_ofNat']; omega⟩
  rw [hlb]
  refine (wbyte_ok h h3 (h.next + 2) _ lb x3 (by simp [numB_len])).mono ?_
  rintro v4 h4 ⟨x4, f4⟩
  have f04 := f03.trans f4
  have a4 := (f04.keep h.next (by omega) (by omega) (m0 _)).trans aA
  have z4 := (f04.keep (h.next + 1) (by omega) (by omega) (m0 _)).trans zA
  have g4 := x4.g
  have n4 := f04.next
  simp (maxSteps := 10000000) (disch := omega) only [vq0, vq1, vq2, vq3, vq4, vq5, tagOf, reduceIte, reduceCtorEq, Nat.reduceEqDiff, Nat.reduceAdd, Nat.reduceSub, Nat.reduceMul, Nat.reduceLT, Nat.reduceLeDiff, Int.reduceToNat, Nat.reduceBEq, tq1, tq2, tq3, tq4, tq5, a4, z4, slp_sector, sls_sector z4]
  have hhl : ([] ++ [kb] ++ numB g ++ numB n ++ [lb]).length = 18 := by simp [numB_len]
  have hbh : boxH (kb.toNat : Int) g n d.length = [] ++ [kb] ++ numB g ++ numB n ++ [lb] := by
    unfold boxH
    rw [show UInt8.ofNat (kb.toNat : Int).toNat = kb by simp, show UInt8.ofNat d.length = lb by rw [show d.length = lb.toNat by omega]; simp]
  rw [← hbh] at x4 hhl
  have hbd : bodyS (kb.toNat : Int) g n d = boxH (kb.toNat : Int) g n d.length ++ d ++ List.replicate (124 - (boxH (kb.toNat : Int) g n d.length ++ d).length) (0 : UInt8) := rfl
  have hse : sealS (kb.toNat : Int) g n d = le4 (crcGo 0 (bodyS (kb.toNat : Int) g n d)) ++ bodyS (kb.toNat : Int) g n d := rfl
  rw [hse, hbd]
  clear hse hbd hbh
  generalize boxH (kb.toNat : Int) g n d.length = hdr at x4 hhl ⊢
  refine (out_ok h h4 (h.next + 2) hdr x4 (by omega)).mono ?_
  rintro u h5 ⟨g5, hu, hub⟩
  have a5 := (g5.get h.next (by omega)).trans a4
  have z5 := (g5.get (h.next + 1) (by omega)).trans z4
  have n5 := g5.next
  have hd5 := hd.grow (g4.trans g5)
  obtain ⟨au, cu, rfl⟩ := hu.is
  simp (maxSteps := 10000000) (disch := omega) only [vq0, vq1, vq2, vq3, vq4, vq5, tagOf, reduceIte, reduceCtorEq, Nat.reduceEqDiff, Nat.reduceAdd, Nat.reduceSub, Nat.reduceMul, Nat.reduceLT, Nat.reduceLeDiff, Int.reduceToNat, Nat.reduceBEq, tq1, tq2, tq3, tq4, tq5, a5, z5]
  obtain ⟨hC, eC⟩ : ∃ y, y = h5.new (.cells [.slice au hdr.length cu, .slice a d.length c] true none) := ⟨_, rfl⟩
  have gC : Grow h5 hC := by rw [eC]; exact .new h5 _
  have nC : hC.next = h5.next + 1 := by rw [eC]; rfl
  have mC : hC.get h5.next = some (.cells [.slice au hdr.length cu, .slice a d.length c] true none) := by rw [eC]; exact get_new_same _ _
  rw [← eC]
  clear eC
  have hjn : joined [(.slice au hdr.length cu, hdr), (.slice a d.length c, d)] = hdr ++ d := by simp [joined]
  refine (concat_ok hC h5.next 2 true none [(.slice au hdr.length cu, hdr), (.slice a d.length c, d)] (by omega) mC (fun q hq => by
    rcases List.mem_cons.1 hq with e | hq
    · rw [e]; exact hu.grow gC
    · rw [List.mem_singleton] at hq; rw [hq]; exact hd5.grow gC) (by simp) (by rw [hjn, List.length_append]; omega) (by rw [hjn, List.length_append]; omega)).mono ?_
  rintro w h6 ⟨g6, hw, hwb⟩
  rw [hjn] at hw
  have a6 := (g6.get h.next (by omega)).trans ((gC.get h.next (by omega)).trans a5)
  have z6 := (g6.get (h.next + 1) (by omega)).trans ((gC.get (h.next + 1) (by omega)).trans z5)
  obtain ⟨aw, cw, rfl⟩ := hw.is
  have hcl : (hdr ++ d).length ≤ 124 := by rw [List.length_append]; omega
  have hcp : 0 < (hdr ++ d).length := by rw [List.length_append]; omega
  have hzl : z_t_api_Sector.length = 128 := rfl
  have hcopy := copy_row (E := E) (b := h.next + 1) (o := 4) (dlen := 124) (dcap := 124) (n := (hdr ++ d).length) sl_s_uint8 hw (by rw [Nat.mul_one, List.length_map]) (bytes_one _) z6 (by rw [hzl]; omega)
  rw [Nat.min_eq_left hcl, if_neg (by omega), List.take_of_length_le (by rw [List.length_map]; omega)] at hcopy
  have aC := (gC.get h.next (by omega)).trans a5
  have zC := (gC.get (h.next + 1) (by omega)).trans z5
  simp (maxSteps := 10000000) (disch := omega) only [vq0, vq1, vq2, vq3, vq4, vq5, tagOf, reduceIte, reduceCtorEq, Nat.reduceEqDiff, Nat.reduceAdd, Nat.reduceSub, Nat.reduceMul, Nat.reduceLT, Nat.reduceLeDiff, Int.reduceToNat, Nat.reduceBEq, tq1, tq2, tq3, tq4, tq5, a4, aC, a6, z6, hcopy, slp_sector, sls_sector z4, sls_sector zC, sls_sector z6]
  obtain ⟨h7, e7⟩ : ∃ y, y = h6.set (h.next + 1) (.cells (z_t_api_Sector.take 4 ++ (hdr ++ d).map byteV ++ z_t_api_Sector.drop (4 + (hdr ++ d).length)) true none) := ⟨_, rfl⟩
  have z7 : h7.get (h.next + 1) = some (.cells (z_t_api_Sector.take 4 ++ (hdr ++ d).map byteV ++ z_t_api_Sector.drop (4 + (hdr ++ d).length)) true none) := by rw [e7]; exact get_set_same _ _ _
  rw [← e7]
  rw [sls_sector z7]
  simp (maxSteps := 10000000) (disch := omega) only [vq0, vq1, vq2, vq3, vq4, vq5, tagOf, reduceIte, reduceCtorEq, Nat.reduceEqDiff, Nat.reduceAdd, Nat.reduceSub, Nat.reduceMul, Nat.reduceLT, Nat.reduceLeDiff, Int.reduceToNat, Nat.reduceBEq, tq1, tq2, tq3, tq4, tq5, slp_sector]
  have hzr : z_t_api_Sector = (List.replicate 128 (0 : UInt8)).map byteV := by kernel_rfl
  obtain ⟨bd, ebd⟩ : ∃ y, y = hdr ++ d ++ List.replicate (124 - (hdr ++ d).length) (0 : UInt8) := ⟨_, rfl⟩
  rw [← ebd]
  have hbl : bd.length = 124 := by rw [ebd]; simp only [List.length_append, List.length_replicate]; rw [List.length_append] at hcl; omega
  have hcs : z_t_api_Sector.take 4 ++ (hdr ++ d).map byteV ++ z_t_api_Sector.drop (4 + (hdr ++ d).length) = (List.replicate 4 (0 : UInt8)).map byteV ++ bd.map byteV := by
    rw [hzr, ← List.map_take, ← List.map_drop, List.take_replicate, List.drop_replicate, ebd, List.map_append (l₁ := hdr ++ d), List.append_assoc]
    rw [show min 4 128 = 4 from rfl, show 128 - (4 + (hdr ++ d).length) = 124 - (hdr ++ d).length by omega]
  rw [hcs] at z7
  clear hcs
  obtain ⟨h8, e8⟩ : ∃ y, y = h7.new (.cells [.slice (some ⟨h.next + 1, 4, none⟩) 124 124] true none) := ⟨_, rfl⟩
  have n7 : h7.next = h6.next := by rw [e7]; rfl
  have n6 := g6.next
  have n8 : h8.next = h7.next + 1 := by rw [e8]; rfl
  have m8 : h8.get h7.next = some (.cells [.slice (some ⟨h.next + 1, 4, none⟩) 124 124] true none) := by rw [e8]; exact get_new_same _ _
  have z8 : h8.get (h.next + 1) = _ := (by rw [e8]; exact get_new_ne (by omega) : h8.get (h.next + 1) = h7.get (h.next + 1)).trans z7
  rw [← e8]
  have hrd : rdN h8 ⟨h.next + 1, 4, none⟩ 124 = some (bd.map byteV) := by
    unfold rdN
    simp only [z8]
    rw [if_pos (by simp only [List.length_append, List.length_map, List.length_replicate]; omega), List.drop_left' (by simp), List.take_of_length_le (by rw [List.length_map]; omega)]
  refine (sum_ok h8 h7.next (h.next + 1) 4 124 124 1 true bd (by omega) (by omega) (by omega) m8 hrd).mono ?_
  rintro v9 h9 ⟨rfl, g9⟩
  have z9 := (g9.get (h.next + 1) (by omega)).trans z8
  simp (maxSteps := 10000000) (disch := omega) only [vq0, vq1, vq2, vq3, vq4, vq5, tagOf, reduceIte, reduceCtorEq, Nat.reduceEqDiff, Nat.reduceAdd, Nat.reduceSub, Nat.reduceMul, Nat.reduceLT, Nat.reduceLeDiff, Int.reduceToNat, Nat.reduceBEq, tq1, tq2, tq3, tq4, tq5]
  have hglt := crcGo_lt 0 bd (by omega)
  generalize crcGo 0 bd = sm at hglt ⊢
  refine r_loop (k := 4) (fun k ρ h' => ∃ (i : Nat) (L : List UInt8), i + k = 4 ∧ L = (le4 sm).take i ++ List.replicate (4 - i) 0 ++ bd ∧ ρ 2 = .pointer (some ⟨h.next + 1, 0, none⟩) ∧ ρ 5 = .int .u32 (sm : Nat) ∧ ρ 65 = .int .i64 (i : Int) ∧ Grow h h' ∧ h.next + 1 < h'.next ∧ h'.get (h.next + 1) = some (.cells (L.map byteV) true none)) ?_ ?_
  · rintro k ρ h' ⟨i, L, hk, eL, r2, r5, r65, gr, hlt, hz⟩
    have hL : L.length = 128 := by rw [eL]; simp only [List.length_append, List.length_take, List.length_replicate, le4_len]; omega
    unfold g_box_Seal_L0
    have hL2 : (L.map byteV).length = 128 := by rw [List.length_map]; exact hL
    rcases Nat.lt_or_ge i 4 with hi | hi
    · have har : arithV .shr .u32 (sm : Int) (8 * (i : Int)) = some (.int .u32 ((sm : Int).fdiv (2 ^ (min (8 * (i : Int)).toNat 32)))) := by
        show (if 8 * (i : Int) < 0 then none else some (Value.int .u32 ((sm : Int).fdiv (2 ^ (min (8 * (i : Int)).toNat 32))))) = _
        rw [if_neg (by omega)]
      have hbin : binV E .shr t_uint32 false (.int .u32 (sm : Int)) (.int .i64 (8 * (i : Int))) = arithV .shr .u32 (sm : Int) (8 * (i : Int)) := rfl
      simp (maxSteps := 10000000) (disch := omega) only [vq0, vq1, vq2, vq3, vq4, vq5, tagOf, reduceIte, reduceCtorEq, Nat.reduceEqDiff, Nat.reduceAdd, Nat.reduceSub, Nat.reduceMul, Nat.reduceLT, Nat.reduceLeDiff, Int.reduceToNat, Nat.reduceBEq, tq1, tq2, tq3, tq4, tq5, r2, r5, r65, hz, hbin, har, hL2]
      have hX : ∀ z : Int, byteV (UInt8.ofNat (IntKind.u8.wrap z).toNat) = .int .u8 (IntKind.u8.wrap z) := fun z => by
        rw [IntKind.wrap_u8]
        show Value.int .u8 ((UInt8.ofNat (z % 256).toNat).toNat : Int) = _
        rw [UInt8.toNat_ofNat']
        congr 1
        omega
      exact ⟨k - 1, by omega, i + 1, L.set i (UInt8.ofNat (IntKind.u8.wrap ((sm : Int).fdiv (2 ^ (min (8 * (i : Int)).toNat 32)))).toNat), by omega, by rw [eL]; exact set_fill hi (le4_len sm) (by unfold le4; rw [List.getElem?_map, List.getElem?_range hi]; rfl), rfl, gr.set (Nat.le_succ _) _, hlt, by rw [List.map_set, hX]⟩
    · have htk : (L.map byteV).take 128 = L.map byteV := List.take_of_length_le (by omega)
      have hdr0 : (L.map byteV).drop 128 = [] := List.drop_eq_nil_of_le (by omega)
      simp (maxSteps := 10000000) (disch := omega) only [vq0, vq1, vq2, vq3, vq4, vq5, tagOf, reduceIte, reduceCtorEq, Nat.reduceEqDiff, Nat.reduceAdd, Nat.reduceSub, Nat.reduceMul, Nat.reduceLT, Nat.reduceLeDiff, Int.reduceToNat, Nat.reduceBEq, tq1, tq2, tq3, tq4, tq5, r2, r5, r65, hz, htk, hdr0, hL2]
      have hi4 : i = 4 := by omega
      have hLf : L = le4 sm ++ bd := by rw [eL, hi4, List.take_of_length_le (by rw [le4_len]; exact Nat.le_refl _)]; simp
      exact ⟨gr.set (Nat.le_succ _) _, by rw [hLf, List.map_append]⟩
  · refine ⟨0, List.replicate 4 (0 : UInt8) ++ bd, rfl, by simp, ?_⟩
    simp (maxSteps := 10000000) (disch := omega) only [vq0, vq1, vq2, vq3, vq4, vq5, tagOf, reduceIte, reduceCtorEq, Nat.reduceEqDiff, Nat.reduceAdd, Nat.reduceSub, Nat.reduceMul, Nat.reduceLT, Nat.reduceLeDiff, Int.reduceToNat, Nat.reduceBEq, tq1, tq2, tq3, tq4, tq5]
    refine ⟨rfl, ?_, ?_, ?_⟩
    · have q7 : Grow h h7 := by rw [e7]; exact (((g4.trans g5).trans gC).trans g6).set (Nat.le_succ _) _
      have q8 : Grow h h8 := by rw [e8]; exact q7.trans (.new _ _)
      exact q8.trans g9
    · have := g9.next
      omega
    · rw [List.map_append]
      exact z9
end Go.Proofs.YtjhaokhgiagkaaaGreatDoor.C
