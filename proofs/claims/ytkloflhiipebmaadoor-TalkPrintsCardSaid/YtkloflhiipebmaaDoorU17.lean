/- U17: the document's answer: an operation, printed. -/
import Derived.Test.YtkloflhiipebmaaDoorU16
open Go Go.Vi Go.Tk
namespace Go.Proofs.YtkloflhiipebmaaDoor.C
set_option linter.unusedSimpArgs false
set_option maxRecDepth 100000
set_option maxHeartbeats 40000000
def tabOf (k : Int) : List UInt8 × List UInt8 := match kindOf k verbsT with
  | some v => (v.1, v.2.2)
  | none => ([], [])
def lineR (c : Int) (o : TOp) : List UInt8 := (Lib.itoa c ++ [32] ++ (tabOf o.kind).1) ++ (tabOf o.kind).2.flatMap fun a => 32 :: wordT o a
theorem kind_cases (k : Int) : ((k < 1 ∨ 22 < k) ∧ kindOf k verbsT = none) ∨ ∃ (i : Nat) (v : List UInt8 × Int × List UInt8), verbsT[i]? = some v ∧ k = (i : Int) + 1 ∧ kindOf k verbsT = some v := by
  by_cases hk : 1 ≤ k ∧ k ≤ 22
  · right
    have hi : (k - 1).toNat < 22 := by omega
    have hvi : verbsT[(k - 1).toNat]? = some verbsT[(k - 1).toNat] := List.getElem?_eq_getElem hi
    have hva := verbs_at _ _ hvi
    have hkk : k = ((k - 1).toNat : Int) + 1 := by omega
    refine ⟨(k - 1).toNat, verbsT[(k - 1).toNat], hvi, hkk, ?_⟩
    have := kind_found verbsT[(k - 1).toNat] (List.getElem_mem _)
    rw [hva, ← hkk] at this
    exact this
  · left
    refine ⟨by omega, ?_⟩
    have h : ∀ l : List (List UInt8 × Int × List UInt8), (∀ v ∈ l, 1 ≤ v.2.1 ∧ v.2.1 ≤ 22) → kindOf k l = none := by
      intro l
      induction l with
      | nil => intro _; rfl
      | cons v l ih =>
        intro h
        have := h v List.mem_cons_self
        rw [kindOf, if_neg (by omega), ih fun x hx => h x (List.mem_cons_of_mem _ hx)]
    exact h verbsT kinds_le
theorem table_ret (k : Int) (h : Heap) (Q : Value → Heap → Prop) : Ret E f_laminaref25_table [.int .i64 k] h Q = Q (.tuple ⟨[.string (strOf (tabOf k).1), .string (strOf (tabOf k).2)]⟩) h := by
  rcases kind_cases k with ⟨h1, h2⟩ | ⟨i, v, h1, rfl, h2⟩
  · unfold tabOf
    rw [h2]
    exact table_no k h1 h Q
  · unfold tabOf
    rw [h2]
    exact table_ok i v h1 h Q
theorem tab_le (k : Int) : (tabOf k).2.length ≤ 4 ∧ (tabOf k).1.length ≤ 20 ∧ (tabOf k).2.all knownB = true := by
  rcases kind_cases k with ⟨_, h2⟩ | ⟨i, v, h1, _, h2⟩
  · unfold tabOf
    rw [h2]
    exact ⟨by simp, by simp, rfl⟩
  · unfold tabOf
    rw [h2]
    have hm := List.mem_of_getElem? h1
    exact ⟨(wants_len v hm).1, (wants_len v hm).2, (wants_known v hm).1⟩
theorem lineR_is {c : Int} {o : TOp} {v : List UInt8 × Int × List UInt8} (h : kindOf o.kind verbsT = some v) : lineR c o = lineT c o v := by
  unfold lineR lineT tabOf
  rw [h, Lib.join_cons]
  have ht : ∀ l : List UInt8, l.flatMap (fun a => 32 :: wordT o a) = Lib.joinTail [32] (l.map (wordT o)) := by
    intro l
    induction l with
    | nil => rfl
    | cons a l ih =>
      rw [List.flatMap_cons, ih]
      rfl
  rw [ht]
  unfold Lib.joinTail
  simp
theorem printR_is (c : Int) (o : TOp) : (if parseT (lineR c o) = some (c, o) then some (lineR c o) else none) = printT c o := by
  unfold printT
  cases hk : kindOf o.kind verbsT with
  | some v => rw [lineR_is hk]
  | none =>
    rw [if_neg]
    intro e
    obtain ⟨v, h1, _⟩ := print_back e
    rw [hk] at h1
    cases h1
theorem flat_len (o : TOp) (ok : OpOk o) (l : List UInt8) : (l.flatMap fun a => 32 :: wordT o a).length ≤ l.length * 4002 := by
  induction l with
  | nil => exact Nat.zero_le _
  | cons a l ih =>
    have := word_len ok a
    rw [List.flatMap_cons, List.length_append, List.length_cons, List.length_cons, Nat.succ_mul]
    omega
theorem lineR_len {c : Int} {o : TOp} (hc : inR c) (ok : OpOk o) : (lineR c o).length ≤ 20000 := by
  have h1 := (itoa_len20 hc).2
  obtain ⟨h2, h3, _⟩ := tab_le o.kind
  have h4 := flat_len o ok (tabOf o.kind).2
  unfold lineR
  simp only [List.length_append, List.length_cons, List.length_nil]
  omega
theorem refLine_ok (c : Int) (o : TOp) (d : Value) (h : Heap) (hc : inR c) (ok : OpOk o) (hd : RowG h d o.data) : Ret E f_laminaref25_Line [.int .i64 c, .agg ⟨opC o d⟩] h (fun v h' => Grow h h' ∧ v = .string (strOf (lineR c o))) := by
  have hci := (itoa_len20 hc).2
  obtain ⟨hc0, hc1⟩ := hc
  obtain ⟨ht4, ht20, htk⟩ := tab_le o.kind
  have hkr0 := ok.kind.1
  have hkr1 := ok.kind.2
  have k1 := ok.image
  have k2 := ok.snap
  have k3 := ok.snap2
  have k4 := ok.parent
  have k5 := ok.data
  obtain ⟨k60, k61⟩ := ok.at_
  obtain ⟨k70, k71⟩ := ok.len
  obtain ⟨k80, k81⟩ := ok.size
  obtain ⟨k90, k91⟩ := ok.object
  have ka := (itoa_len20 ok.at_).2
  have kb := (itoa_len20 ok.len).2
  have kc := (itoa_len20 ok.size).2
  have kd := (itoa_len20 ok.object).2
  have ke := hexS_len2 o.data
  have hlr : lineR c o = (Lib.itoa c ++ [32] ++ (tabOf o.kind).1) ++ (tabOf o.kind).2.flatMap fun a => 32 :: wordT o a := rfl
  generalize lineR c o = L at hlr ⊢
  have htr := fun h Q => table_ret (Q := Q) o.kind h
  generalize (tabOf o.kind).1 = w at ht20 hlr htr
  generalize (tabOf o.kind).2 = ws at ht4 htk hlr htr
  refine ret_fun is_laminaref25_Line (by simp) ?_
  unfold g_laminaref25_Line
  have hd0 : opC o d = opC o d := rfl
  conv at hd0 => rhs; unfold opC
  have a1 : strV .add (strOf (Lib.itoa c)) (strOf [32]) = some (.string (strOf (Lib.itoa c ++ [32]))) := str_add (by simp; omega)
  have a2 : strV .add (strOf (Lib.itoa c ++ [32])) (strOf w) = some (.string (strOf (Lib.itoa c ++ [32] ++ w))) := str_add (by simp; omega)
  rw [hd0]
  simp (maxSteps := 10000000) (disch := omega) only [vq0, vq1, vq2, vq3, vq4, vq5, tagOf, reduceIte, reduceCtorEq, Nat.reduceEqDiff, Nat.reduceAdd, Nat.reduceSub, Nat.reduceMul, Nat.reduceLT, Nat.reduceLeDiff, Int.reduceToNat, Nat.reduceBEq, tq1, tq2, tq3, htr, figures_ret hc0 hc1, a1, a2]
  refine r_loop (k := ws.length) (fun k ρ h' => ∃ (i : Nat) (cur : List UInt8), i + k = ws.length ∧ cur.length ≤ 50 + 4002 * i ∧ cur ++ ((ws.drop i).flatMap fun a => 32 :: wordT o a) = L ∧ ρ 3 = .pointer (some ⟨h.next, 0, none⟩) ∧ ρ 6 = .string (strOf ws) ∧ ρ 7 = .string (strOf cur) ∧ ρ 8 = .int .i64 (i : Int) ∧
    h'.get h.next = some (.cells (opC o d) true none) ∧ Grow h h') ?_ ?_
  · rintro k ρ h' ⟨i, cur, hk, hcl, hL, r3, r6, r7, r8, m0, gr⟩
    unfold g_laminaref25_Line_L0
    have m0' := m0
    unfold opC at m0
    rcases Nat.lt_or_ge i ws.length with hi | hi
    · have ha : ws[i]? = some ws[i] := List.getElem?_eq_getElem hi
      rw [List.drop_eq_getElem_cons hi, List.flatMap_cons] at hL
      generalize ws[i] = a at ha hL
      have ia : ws[((i : Int)).toNat]? = some a := by rw [Int.toNat_natCast]; exact ha
      have hwl := word_len ok a
      have c1 : strV .add (strOf cur) (strOf [32]) = some (.string (strOf (cur ++ [32]))) := str_add (by simp; omega)
      have nxt : ∀ x, x = cur ++ [32] ++ wordT o a → x.length ≤ 50 + 4002 * (i + 1) ∧ x ++ ((ws.drop (i + 1)).flatMap fun a => 32 :: wordT o a) = L := fun x e => by
        subst e
        refine ⟨?_, ?_⟩
        · simp only [List.length_append, List.length_cons, List.length_nil]; omega
        · rw [← hL]; simp
      have fin : ∀ x, x = cur ++ [32] ++ wordT o a → ∀ s, s = strOf x → ∃ k', k' < k ∧ ∃ (i' : Nat) (cur' : List UInt8), i' + k' = ws.length ∧ cur'.length ≤ 50 + 4002 * i' ∧ cur' ++ ((ws.drop i').flatMap fun a => 32 :: wordT o a) = L ∧ Value.string s = .string (strOf cur') ∧ Value.int .i64 ((i : Int) + 1) = .int .i64 (i' : Int) ∧ h'.get h.next = some (.cells (opC o d) true none) ∧ Grow h h' := fun x e s es => by
        subst es
        obtain ⟨n1, n2⟩ := nxt x e
        exact ⟨k - 1, by omega, i + 1, x, by omega, n1, n2, rfl, rfl, m0', gr⟩
      simp (maxSteps := 10000000) (disch := omega) only [vq0, vq1, vq2, vq3, vq4, vq5, tagOf, reduceIte, reduceCtorEq, Nat.reduceEqDiff, Nat.reduceAdd, Nat.reduceSub, Nat.reduceMul, Nat.reduceLT, Nat.reduceLeDiff, Int.reduceToNat, Nat.reduceBEq, tq1, tq2, tq3, r3, r6, r7, r8, m0, ia, byteV_at, c1]
      by_cases c105 : a.toNat = 105
      · have hw : wordT o a = o.image := by unfold wordT; rw [if_pos c105]
        have c2 : strV .add (strOf (cur ++ [32])) (strOf (o.image)) = some (.string (strOf ((cur ++ [32]) ++ (o.image)))) := str_add (by simp; omega)
        have hx : cur ++ [32] ++ o.image = cur ++ [32] ++ wordT o a := by rw [hw]
        simp (maxSteps := 10000000) (disch := omega) only [vq0, vq1, vq2, vq3, vq4, vq5, tagOf, reduceIte, reduceCtorEq, Nat.reduceEqDiff, Nat.reduceAdd, Nat.reduceSub, Nat.reduceMul, Nat.reduceLT, Nat.reduceLeDiff, Int.reduceToNat, Nat.reduceBEq, tq1, tq2, tq3, r3, r6, r7, r8, m0, ia, byteV_at, c1, c2]
        exact ⟨k - 1, by omega, i + 1, _, by omega, (nxt _ hx).1, (nxt _ hx).2, rfl, rfl, rfl, gr⟩
      by_cases c118 : a.toNat = 118
      · by_cases hs : o.snap = []
        · have hw : wordT o a = o.image := by unfold wordT; rw [if_neg (show ¬ a.toNat = 105 by omega), if_pos c118]; rw [if_pos hs]
          have hsb : (o.snap == []) = true := by rw [hs]; rfl
          have c2 : strV .add (strOf (cur ++ [32])) (strOf (o.image)) = some (.string (strOf ((cur ++ [32]) ++ (o.image)))) := str_add (by simp; omega)
          have hx : cur ++ [32] ++ o.image = cur ++ [32] ++ wordT o a := by rw [hw]
          simp (maxSteps := 10000000) (disch := omega) only [vq0, vq1, vq2, vq3, vq4, vq5, tagOf, reduceIte, reduceCtorEq, Nat.reduceEqDiff, Nat.reduceAdd, Nat.reduceSub, Nat.reduceMul, Nat.reduceLT, Nat.reduceLeDiff, Int.reduceToNat, Nat.reduceBEq, tq1, tq2, tq3, r3, r6, r7, r8, m0, ia, byteV_at, c1, c2, hsb]
          exact ⟨k - 1, by omega, i + 1, _, by omega, (nxt _ hx).1, (nxt _ hx).2, rfl, rfl, rfl, gr⟩
        · have hw : wordT o a = o.image ++ 64 :: o.snap := by unfold wordT; rw [if_neg (show ¬ a.toNat = 105 by omega), if_pos c118]; rw [if_neg hs]
          have hsb : (o.snap == []) = false := by rw [beq_eq_false_iff_ne]; exact hs
          have c2 : strV .add (strOf (cur ++ [32])) (strOf (o.image)) = some (.string (strOf ((cur ++ [32]) ++ (o.image)))) := str_add (by simp; omega)
          have c3 : strV .add (strOf (cur ++ [32] ++ o.image)) (strOf ([64])) = some (.string (strOf ((cur ++ [32] ++ o.image) ++ ([64])))) := str_add (by simp; omega)
          have c4 : strV .add (strOf (cur ++ [32] ++ o.image ++ [64])) (strOf (o.snap)) = some (.string (strOf ((cur ++ [32] ++ o.image ++ [64]) ++ (o.snap)))) := str_add (by simp; omega)
          have hx : cur ++ [32] ++ o.image ++ [64] ++ o.snap = cur ++ [32] ++ wordT o a := by rw [hw]; simp
          simp (maxSteps := 10000000) (disch := omega) only [vq0, vq1, vq2, vq3, vq4, vq5, tagOf, reduceIte, reduceCtorEq, Nat.reduceEqDiff, Nat.reduceAdd, Nat.reduceSub, Nat.reduceMul, Nat.reduceLT, Nat.reduceLeDiff, Int.reduceToNat, Nat.reduceBEq, tq1, tq2, tq3, r3, r6, r7, r8, m0, ia, byteV_at, c1, c2, c3, c4, hsb]
          exact ⟨k - 1, by omega, i + 1, _, by omega, (nxt _ hx).1, (nxt _ hx).2, rfl, rfl, rfl, gr⟩
      by_cases c115 : a.toNat = 115
      · have hw : wordT o a = o.image ++ 64 :: o.snap := by unfold wordT; rw [if_neg (show ¬ a.toNat = 105 by omega), if_neg (show ¬ a.toNat = 118 by omega), if_pos c115]
        have c2 : strV .add (strOf (cur ++ [32])) (strOf (o.image)) = some (.string (strOf ((cur ++ [32]) ++ (o.image)))) := str_add (by simp; omega)
        have c3 : strV .add (strOf (cur ++ [32] ++ o.image)) (strOf ([64])) = some (.string (strOf ((cur ++ [32] ++ o.image) ++ ([64])))) := str_add (by simp; omega)
        have c4 : strV .add (strOf (cur ++ [32] ++ o.image ++ [64])) (strOf (o.snap)) = some (.string (strOf ((cur ++ [32] ++ o.image ++ [64]) ++ (o.snap)))) := str_add (by simp; omega)
        have hx : cur ++ [32] ++ o.image ++ [64] ++ o.snap = cur ++ [32] ++ wordT o a := by rw [hw]; simp
        simp (maxSteps := 10000000) (disch := omega) only [vq0, vq1, vq2, vq3, vq4, vq5, tagOf, reduceIte, reduceCtorEq, Nat.reduceEqDiff, Nat.reduceAdd, Nat.reduceSub, Nat.reduceMul, Nat.reduceLT, Nat.reduceLeDiff, Int.reduceToNat, Nat.reduceBEq, tq1, tq2, tq3, r3, r6, r7, r8, m0, ia, byteV_at, c1, c2, c3, c4]
        exact ⟨k - 1, by omega, i + 1, _, by omega, (nxt _ hx).1, (nxt _ hx).2, rfl, rfl, rfl, gr⟩
      by_cases c112 : a.toNat = 112
      · have hw : wordT o a = o.parent ++ 64 :: o.snap := by unfold wordT; rw [if_neg (show ¬ a.toNat = 105 by omega), if_neg (show ¬ a.toNat = 118 by omega), if_neg (show ¬ a.toNat = 115 by omega), if_pos c112]
        have c2 : strV .add (strOf (cur ++ [32])) (strOf (o.parent)) = some (.string (strOf ((cur ++ [32]) ++ (o.parent)))) := str_add (by simp; omega)
        have c3 : strV .add (strOf (cur ++ [32] ++ o.parent)) (strOf ([64])) = some (.string (strOf ((cur ++ [32] ++ o.parent) ++ ([64])))) := str_add (by simp; omega)
        have c4 : strV .add (strOf (cur ++ [32] ++ o.parent ++ [64])) (strOf (o.snap)) = some (.string (strOf ((cur ++ [32] ++ o.parent ++ [64]) ++ (o.snap)))) := str_add (by simp; omega)
        have hx : cur ++ [32] ++ o.parent ++ [64] ++ o.snap = cur ++ [32] ++ wordT o a := by rw [hw]; simp
        simp (maxSteps := 10000000) (disch := omega) only [vq0, vq1, vq2, vq3, vq4, vq5, tagOf, reduceIte, reduceCtorEq, Nat.reduceEqDiff, Nat.reduceAdd, Nat.reduceSub, Nat.reduceMul, Nat.reduceLT, Nat.reduceLeDiff, Int.reduceToNat, Nat.reduceBEq, tq1, tq2, tq3, r3, r6, r7, r8, m0, ia, byteV_at, c1, c2, c3, c4]
        exact ⟨k - 1, by omega, i + 1, _, by omega, (nxt _ hx).1, (nxt _ hx).2, rfl, rfl, rfl, gr⟩
      by_cases c50 : a.toNat = 50
      · by_cases hs : o.snap2 = []
        · have hw : wordT o a = [45] := by unfold wordT; rw [if_neg (show ¬ a.toNat = 105 by omega), if_neg (show ¬ a.toNat = 118 by omega), if_neg (show ¬ a.toNat = 115 by omega), if_neg (show ¬ a.toNat = 112 by omega), if_pos c50]; rw [if_pos hs]
          have hsb : (o.snap2 == []) = true := by rw [hs]; rfl
          have c2 : strV .add (strOf (cur ++ [32])) (strOf ([45])) = some (.string (strOf ((cur ++ [32]) ++ ([45])))) := str_add (by simp; omega)
          have c3 : strV .add (strOf (cur ++ [32] ++ [45])) (strOf (o.snap2)) = some (.string (strOf ((cur ++ [32] ++ [45]) ++ (o.snap2)))) := str_add (by simp; omega)
          have hx : cur ++ [32] ++ [45] ++ o.snap2 = cur ++ [32] ++ wordT o a := by rw [hw, hs]; simp
          simp (maxSteps := 10000000) (disch := omega) only [vq0, vq1, vq2, vq3, vq4, vq5, tagOf, reduceIte, reduceCtorEq, Nat.reduceEqDiff, Nat.reduceAdd, Nat.reduceSub, Nat.reduceMul, Nat.reduceLT, Nat.reduceLeDiff, Int.reduceToNat, Nat.reduceBEq, tq1, tq2, tq3, r3, r6, r7, r8, m0, ia, byteV_at, c1, c2, c3, hsb]
          exact ⟨k - 1, by omega, i + 1, _, by omega, (nxt _ hx).1, (nxt _ hx).2, rfl, rfl, rfl, gr⟩
        · have hw : wordT o a = o.snap2 := by unfold wordT; rw [if_neg (show ¬ a.toNat = 105 by omega), if_neg (show ¬ a.toNat = 118 by omega), if_neg (show ¬ a.toNat = 115 by omega), if_neg (show ¬ a.toNat = 112 by omega), if_pos c50]; rw [if_neg hs]
          have hsb : (o.snap2 == []) = false := by rw [beq_eq_false_iff_ne]; exact hs
          have c2 : strV .add (strOf (cur ++ [32])) (strOf (o.snap2)) = some (.string (strOf ((cur ++ [32]) ++ (o.snap2)))) := str_add (by simp; omega)
          have hx : cur ++ [32] ++ o.snap2 = cur ++ [32] ++ wordT o a := by rw [hw]
          simp (maxSteps := 10000000) (disch := omega) only [vq0, vq1, vq2, vq3, vq4, vq5, tagOf, reduceIte, reduceCtorEq, Nat.reduceEqDiff, Nat.reduceAdd, Nat.reduceSub, Nat.reduceMul, Nat.reduceLT, Nat.reduceLeDiff, Int.reduceToNat, Nat.reduceBEq, tq1, tq2, tq3, r3, r6, r7, r8, m0, ia, byteV_at, c1, c2, hsb]
          exact ⟨k - 1, by omega, i + 1, _, by omega, (nxt _ hx).1, (nxt _ hx).2, rfl, rfl, rfl, gr⟩
      by_cases c100 : a.toNat = 100
      · have hw : wordT o a = hexS o.data := by unfold wordT; rw [if_neg (show ¬ a.toNat = 105 by omega), if_neg (show ¬ a.toNat = 118 by omega), if_neg (show ¬ a.toNat = 115 by omega), if_neg (show ¬ a.toNat = 112 by omega), if_neg (show ¬ a.toNat = 50 by omega), if_neg (show ¬ a.toNat = 97 by omega), if_neg (show ¬ a.toNat = 108 by omega), if_neg (show ¬ a.toNat = 122 by omega), if_neg (show ¬ a.toNat = 111 by omega), if_pos c100]
        have c2 : strV .add (strOf (cur ++ [32])) (strOf (hexS o.data)) = some (.string (strOf ((cur ++ [32]) ++ (hexS o.data)))) := str_add (by simp; omega)
        have hx : cur ++ [32] ++ hexS o.data = cur ++ [32] ++ wordT o a := by rw [hw]
        have hx2 := fun Q => refHex_ret (Q := Q) (hd.grow gr) k5
        simp (maxSteps := 10000000) (disch := omega) only [vq0, vq1, vq2, vq3, vq4, vq5, tagOf, reduceIte, reduceCtorEq, Nat.reduceEqDiff, Nat.reduceAdd, Nat.reduceSub, Nat.reduceMul, Nat.reduceLT, Nat.reduceLeDiff, Int.reduceToNat, Nat.reduceBEq, tq1, tq2, tq3, r3, r6, r7, r8, m0, ia, byteV_at, c1, c2, hx2]
        exact ⟨k - 1, by omega, i + 1, _, by omega, (nxt _ hx).1, (nxt _ hx).2, rfl, rfl, rfl, gr⟩
      by_cases c109 : a.toNat = 109
      · cases hon : o.on with
        | true =>
          have hw : wordT o a = [111, 110] := by unfold wordT; rw [if_neg (show ¬ a.toNat = 105 by omega), if_neg (show ¬ a.toNat = 118 by omega), if_neg (show ¬ a.toNat = 115 by omega), if_neg (show ¬ a.toNat = 112 by omega), if_neg (show ¬ a.toNat = 50 by omega), if_neg (show ¬ a.toNat = 97 by omega), if_neg (show ¬ a.toNat = 108 by omega), if_neg (show ¬ a.toNat = 122 by omega), if_neg (show ¬ a.toNat = 111 by omega), if_neg (show ¬ a.toNat = 100 by omega)]; rw [hon]; rfl
          have c2 : strV .add (strOf (cur ++ [32])) (strOf ([111, 110])) = some (.string (strOf ((cur ++ [32]) ++ ([111, 110])))) := str_add (by simp; omega)
          have hx : cur ++ [32] ++ [111, 110] = cur ++ [32] ++ wordT o a := by rw [hw]
          simp (maxSteps := 10000000) (disch := omega) only [vq0, vq1, vq2, vq3, vq4, vq5, tagOf, reduceIte, reduceCtorEq, Nat.reduceEqDiff, Nat.reduceAdd, Nat.reduceSub, Nat.reduceMul, Nat.reduceLT, Nat.reduceLeDiff, Int.reduceToNat, Nat.reduceBEq, tq1, tq2, tq3, r3, r6, r7, r8, m0, ia, byteV_at, c1, c2, hon]
          exact ⟨k - 1, by omega, i + 1, _, by omega, (nxt _ hx).1, (nxt _ hx).2, rfl, rfl, by unfold opC; rw [hon], gr⟩
        | false =>
          have hw : wordT o a = [111, 102, 102] := by unfold wordT; rw [if_neg (show ¬ a.toNat = 105 by omega), if_neg (show ¬ a.toNat = 118 by omega), if_neg (show ¬ a.toNat = 115 by omega), if_neg (show ¬ a.toNat = 112 by omega), if_neg (show ¬ a.toNat = 50 by omega), if_neg (show ¬ a.toNat = 97 by omega), if_neg (show ¬ a.toNat = 108 by omega), if_neg (show ¬ a.toNat = 122 by omega), if_neg (show ¬ a.toNat = 111 by omega), if_neg (show ¬ a.toNat = 100 by omega)]; rw [hon]; rfl
          have c2 : strV .add (strOf (cur ++ [32])) (strOf ([111, 102, 102])) = some (.string (strOf ((cur ++ [32]) ++ ([111, 102, 102])))) := str_add (by simp; omega)
          have hx : cur ++ [32] ++ [111, 102, 102] = cur ++ [32] ++ wordT o a := by rw [hw]
          simp (maxSteps := 10000000) (disch := omega) only [vq0, vq1, vq2, vq3, vq4, vq5, tagOf, reduceIte, reduceCtorEq, Nat.reduceEqDiff, Nat.reduceAdd, Nat.reduceSub, Nat.reduceMul, Nat.reduceLT, Nat.reduceLeDiff, Int.reduceToNat, Nat.reduceBEq, tq1, tq2, tq3, r3, r6, r7, r8, m0, ia, byteV_at, c1, c2, hon]
          exact ⟨k - 1, by omega, i + 1, _, by omega, (nxt _ hx).1, (nxt _ hx).2, rfl, rfl, by unfold opC; rw [hon], gr⟩
      by_cases c97 : a.toNat = 97
      · have hw : wordT o a = Lib.itoa o.at_ := by unfold wordT; rw [if_neg (show ¬ a.toNat = 105 by omega), if_neg (show ¬ a.toNat = 118 by omega), if_neg (show ¬ a.toNat = 115 by omega), if_neg (show ¬ a.toNat = 112 by omega), if_neg (show ¬ a.toNat = 50 by omega), if_pos c97]
        have c2 : strV .add (strOf (cur ++ [32])) (strOf (Lib.itoa o.at_)) = some (.string (strOf ((cur ++ [32]) ++ (Lib.itoa o.at_)))) := str_add (by simp; omega)
        have hx : cur ++ [32] ++ Lib.itoa o.at_ = cur ++ [32] ++ wordT o a := by rw [hw]
        simp (maxSteps := 10000000) (disch := omega) only [vq0, vq1, vq2, vq3, vq4, vq5, tagOf, reduceIte, reduceCtorEq, Nat.reduceEqDiff, Nat.reduceAdd, Nat.reduceSub, Nat.reduceMul, Nat.reduceLT, Nat.reduceLeDiff, Int.reduceToNat, Nat.reduceBEq, tq1, tq2, tq3, r3, r6, r7, r8, m0, ia, byteV_at, c1, c2, figures_ret k60 k61]
        exact ⟨k - 1, by omega, i + 1, _, by omega, (nxt _ hx).1, (nxt _ hx).2, rfl, rfl, rfl, gr⟩
      by_cases c108 : a.toNat = 108
      · have hw : wordT o a = Lib.itoa o.len := by unfold wordT; rw [if_neg (show ¬ a.toNat = 105 by omega), if_neg (show ¬ a.toNat = 118 by omega), if_neg (show ¬ a.toNat = 115 by omega), if_neg (show ¬ a.toNat = 112 by omega), if_neg (show ¬ a.toNat = 50 by omega), if_neg (show ¬ a.toNat = 97 by omega), if_pos c108]
        have c2 : strV .add (strOf (cur ++ [32])) (strOf (Lib.itoa o.len)) = some (.string (strOf ((cur ++ [32]) ++ (Lib.itoa o.len)))) := str_add (by simp; omega)
        have hx : cur ++ [32] ++ Lib.itoa o.len = cur ++ [32] ++ wordT o a := by rw [hw]
        simp (maxSteps := 10000000) (disch := omega) only [vq0, vq1, vq2, vq3, vq4, vq5, tagOf, reduceIte, reduceCtorEq, Nat.reduceEqDiff, Nat.reduceAdd, Nat.reduceSub, Nat.reduceMul, Nat.reduceLT, Nat.reduceLeDiff, Int.reduceToNat, Nat.reduceBEq, tq1, tq2, tq3, r3, r6, r7, r8, m0, ia, byteV_at, c1, c2, figures_ret k70 k71]
        exact ⟨k - 1, by omega, i + 1, _, by omega, (nxt _ hx).1, (nxt _ hx).2, rfl, rfl, rfl, gr⟩
      by_cases c122 : a.toNat = 122
      · have hw : wordT o a = Lib.itoa o.size := by unfold wordT; rw [if_neg (show ¬ a.toNat = 105 by omega), if_neg (show ¬ a.toNat = 118 by omega), if_neg (show ¬ a.toNat = 115 by omega), if_neg (show ¬ a.toNat = 112 by omega), if_neg (show ¬ a.toNat = 50 by omega), if_neg (show ¬ a.toNat = 97 by omega), if_neg (show ¬ a.toNat = 108 by omega), if_pos c122]
        have c2 : strV .add (strOf (cur ++ [32])) (strOf (Lib.itoa o.size)) = some (.string (strOf ((cur ++ [32]) ++ (Lib.itoa o.size)))) := str_add (by simp; omega)
        have hx : cur ++ [32] ++ Lib.itoa o.size = cur ++ [32] ++ wordT o a := by rw [hw]
        simp (maxSteps := 10000000) (disch := omega) only [vq0, vq1, vq2, vq3, vq4, vq5, tagOf, reduceIte, reduceCtorEq, Nat.reduceEqDiff, Nat.reduceAdd, Nat.reduceSub, Nat.reduceMul, Nat.reduceLT, Nat.reduceLeDiff, Int.reduceToNat, Nat.reduceBEq, tq1, tq2, tq3, r3, r6, r7, r8, m0, ia, byteV_at, c1, c2, figures_ret k80 k81]
        exact ⟨k - 1, by omega, i + 1, _, by omega, (nxt _ hx).1, (nxt _ hx).2, rfl, rfl, rfl, gr⟩
      by_cases c111 : a.toNat = 111
      · have hw : wordT o a = Lib.itoa o.object := by unfold wordT; rw [if_neg (show ¬ a.toNat = 105 by omega), if_neg (show ¬ a.toNat = 118 by omega), if_neg (show ¬ a.toNat = 115 by omega), if_neg (show ¬ a.toNat = 112 by omega), if_neg (show ¬ a.toNat = 50 by omega), if_neg (show ¬ a.toNat = 97 by omega), if_neg (show ¬ a.toNat = 108 by omega), if_neg (show ¬ a.toNat = 122 by omega), if_pos c111]
        have c2 : strV .add (strOf (cur ++ [32])) (strOf (Lib.itoa o.object)) = some (.string (strOf ((cur ++ [32]) ++ (Lib.itoa o.object)))) := str_add (by simp; omega)
        have hx : cur ++ [32] ++ Lib.itoa o.object = cur ++ [32] ++ wordT o a := by rw [hw]
        simp (maxSteps := 10000000) (disch := omega) only [vq0, vq1, vq2, vq3, vq4, vq5, tagOf, reduceIte, reduceCtorEq, Nat.reduceEqDiff, Nat.reduceAdd, Nat.reduceSub, Nat.reduceMul, Nat.reduceLT, Nat.reduceLeDiff, Int.reduceToNat, Nat.reduceBEq, tq1, tq2, tq3, r3, r6, r7, r8, m0, ia, byteV_at, c1, c2, figures_ret k90 k91]
        exact ⟨k - 1, by omega, i + 1, _, by omega, (nxt _ hx).1, (nxt _ hx).2, rfl, rfl, rfl, gr⟩
      exfalso
      have hka := List.all_eq_true.1 htk a (List.mem_of_getElem? ha)
      unfold knownB at hka
      simp at hka
      omega
    · rw [List.drop_of_length_le hi, List.flatMap_nil, List.append_nil] at hL
      simp (maxSteps := 10000000) (disch := omega) only [vq0, vq1, vq2, vq3, vq4, vq5, tagOf, reduceIte, reduceCtorEq, Nat.reduceEqDiff, Nat.reduceAdd, Nat.reduceSub, Nat.reduceMul, Nat.reduceLT, Nat.reduceLeDiff, Int.reduceToNat, Nat.reduceBEq, tq1, tq2, tq3, r3, r6, r7, r8]
      exact ⟨gr, by rw [hL]⟩
  · refine ⟨0, Lib.itoa c ++ [32] ++ w, by omega, by simp; omega, hlr.symm, ?_⟩
    simp (maxSteps := 10000000) (disch := omega) only [vq0, vq1, vq2, vq3, vq4, vq5, tagOf, reduceIte, reduceCtorEq, Nat.reduceEqDiff, Nat.reduceAdd, Nat.reduceSub, Nat.reduceMul, Nat.reduceLT, Nat.reduceLeDiff, Int.reduceToNat, Nat.reduceBEq, tq1, tq2, tq3]
    exact ⟨rfl, by rw [hd0], Grow.new _ _⟩
end Go.Proofs.YtkloflhiipebmaaDoor.C
