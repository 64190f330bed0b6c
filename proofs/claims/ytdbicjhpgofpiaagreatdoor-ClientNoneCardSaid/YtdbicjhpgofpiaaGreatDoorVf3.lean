/- Vf3: one operation of the fast interpreter is one of the slow one's. -/
import Derived.Test.YtdbicjhpgofpiaaGreatDoorVf2
namespace Go.Vi
section
variable (E : Env) (call : CallV)
theorem fieldAddrF_eq (s : TypeId) (x : Value) (f : Nat) : fieldAddrF E s x f = fieldAddrV E s x f := by
  unfold fieldAddrF fieldAt fieldAddrV
  cases E.ty s with
  | none => rfl
  | some i =>
    simp only [Option.bind_eq_bind, Option.bind_some]
    cases i.under <;> try (cases x <;> rfl)
    rename_i fs
    cases x <;> try (simp only []; split <;> rfl)
    rename_i a
    cases a with
    | none => simp only []; split <;> rfl
    | some a =>
      simp only [addrK]
      cases hf : fs[f]? with
      | none => simp
      | some fl =>
        simp only [Option.bind_some]
        cases E.ty fl.type with
        | none => simp
        | some e =>
          simp only [Option.bind_some]
          by_cases h0 : e.size = 0
          · simp [h0]
          · simp [h0]
theorem indexK_eq (a : Addr) (len : Nat) (n : Int) (sz : Nat) : indexK a len n sz = if 0 ≤ n ∧ n < len ∧ sz ≠ 0 then some (.pointer (some (a.add (n.toNat * sz)))) else none := by
  cases n with
  | negSucc m => rw [if_neg (by intro h; have := h.1; simp [Int.negSucc_eq] at this; omega)]; rfl
  | ofNat m =>
    show Bool.rec (motive := fun _ => Option Value) none (Bool.rec (motive := fun _ => Option Value) (some (.pointer (some (a.add (Nat.mul m sz))))) none (Nat.beq sz 0)) (Nat.ble (Nat.succ m) len) = _
    rw [ble_dec, beq_dec]
    by_cases h1 : m + 1 ≤ len
    · rw [decide_eq_true h1]
      by_cases h2 : sz = 0
      · rw [decide_eq_true h2, if_neg (fun h => h.2.2 h2)]
      · rw [decide_eq_false h2, if_pos ⟨by simp, by simp; omega, h2⟩]; rfl
    · rw [decide_eq_false h1, if_neg (fun h => h1 (by have := h.2.1; simp at this; omega))]
theorem indexAddrF_eq (t : TypeId) (x ix : Value) : indexAddrF E t x ix = indexAddrV E t x ix := by
  unfold indexAddrF elemOf arrOf
  cases ht : E.ty t with
  | none => rfl
  | some i =>
    simp only [Option.bind_eq_bind, Option.bind_some]
    cases hu : i.under <;> try rfl
    · rename_i elem
      simp only
      cases he : E.ty elem with
      | none => rfl
      | some e =>
        simp only [Option.map_some]
        unfold indexAddrV
        simp only [ht, Option.bind_eq_bind, Option.bind_some, hu]
        cases x <;> cases ix <;> simp only [intOf, Option.bind_some, Option.bind_none] <;> try rfl
        rename_i a l c k n
        cases a with
        | none => rfl
        | some a => simp only [he, Option.bind_some, indexK_eq]
    · rename_i len elem
      simp only
      cases he : E.ty elem with
      | none => rfl
      | some e =>
        simp only [Option.map_some]
        unfold indexAddrV arrK
        simp only [ht, Option.bind_eq_bind, Option.bind_some, hu]
        cases x <;> try (cases ix <;> rfl)
        rename_i a
        cases a <;> cases ix <;> try rfl
        rename_i a k n
        simp only [intOf, he, Option.bind_some, indexK_eq]
theorem take_one (l : List Value) (i : Nat) : (l.drop i).take 1 = match l[i]? with | some v => [v] | none => [] := by
  cases h : l[i]? with
  | none => rw [List.drop_eq_nil_of_le (List.getElem?_eq_none_iff.1 h)]; rfl
  | some v =>
    obtain ⟨hlt, rfl⟩ := List.getElem?_eq_some_iff.1 h
    rw [List.drop_eq_getElem_cons hlt]; rfl
theorem cellF_eq (h : Heap) (a : Addr) : (cellF h a).map (fun v => [v]) = rdN h a 1 := by
  unfold cellF rdN
  cases a.spot with
  | some s => cases h.get a.block <;> rfl
  | none =>
    simp only [getR_eq]
    cases h.get a.block with
    | none => rfl
    | some b =>
      cases b with
      | cells cs wr o =>
        simp only [nthR_eq, take_one]
        by_cases hl : a.off + 1 ≤ cs.length
        · rw [if_pos hl, List.getElem?_eq_getElem (by omega)]; rfl
        · rw [if_neg hl, List.getElem?_eq_none (by omega)]; rfl
      | _ => rfl
theorem loadF_eq (t : TypeId) (p : Value) (h : Heap) : loadF E t p h = loadV E t p h := by
  unfold loadF loadK
  split
  · rename_i hk
    obtain ⟨i, hi, he⟩ := Option.map_eq_some_iff.1 hk
    simp only [Prod.mk.injEq] at he
    unfold loadV
    simp only [hi, Option.bind_eq_bind, Option.bind_some]
    split
    · rename_i a
      unfold ptrOf
      have hc := cellF_eq h a
      rw [he.1]
      cases hsp : a.spot with
      | some s =>
        have : cellF h a = none := by unfold cellF; rw [hsp]
        rw [this]
        simp [hsp]
      | none =>
        simp only [hsp, Option.isNone_none, if_true, Option.bind_some, ← hc]
        cases hv : cellF h a with
        | none => rfl
        | some v =>
          simp only [Option.map_some, Option.bind_some, he.2, Bool.false_eq_true, if_false, ofCells]
          split
          · rfl
          · rfl
    · rename_i hne
      unfold ptrOf
      cases p <;> try rfl
      rename_i a
      cases a with
      | none => rfl
      | some a => exact absurd rfl (hne a)
  · exact loadBig_eq _ _ _
theorem splice_one (cs : List Value) (i : Nat) (v : Value) (h : i + 1 ≤ cs.length) : splice cs i [v] = cs.set i v := by
  unfold splice
  rw [List.set_eq_take_append_cons_drop, if_pos (by omega)]
  simp
theorem storeCell_eq (h : Heap) (a : Addr) (v : Value) : storeCell h a v = wrN h a [v] := by
  unfold storeCell wrN
  cases a.spot with
  | some s => cases h.get a.block <;> rfl
  | none =>
    simp only [getR_eq]
    cases h.get a.block with
    | none => rfl
    | some b =>
      cases b with
      | cells cs wr o =>
        cases wr with
        | false => rfl
        | true =>
          simp only [nthR_eq, List.length_cons, List.length_nil, Nat.zero_add]
          by_cases hl : a.off + 1 ≤ cs.length
          · rw [if_pos hl, List.getElem?_eq_getElem (by omega), splice_one _ _ _ hl, setR_eq]
            simp only [setR_heap]
          · rw [if_neg hl, List.getElem?_eq_none (by omega)]
      | _ => rfl
theorem cells_one {v : Value} (h : oneCell v = true) : cellsOf v = [v] := by cases v <;> first | rfl | cases h
theorem storeF_eq (t : TypeId) (p v : Value) (h : Heap) : storeF E t p v h = storeV E t p v h := by
  unfold storeF loadK
  split
  · rename_i b hk
    obtain ⟨i, hi, he⟩ := Option.map_eq_some_iff.1 hk
    simp only [Prod.mk.injEq] at he
    split
    · rename_i ho
      unfold storeV
      simp only [hi, Option.bind_eq_bind, Option.bind_some, cells_one ho, he.1]
      split
      · rename_i a
        unfold ptrOf
        rw [storeCell_eq]
        cases hsp : a.spot with
        | some s =>
          simp only [hsp, Option.isNone_some, Bool.false_eq_true, if_false, Option.bind_none]
          unfold wrN; rw [hsp]
        | none => simp [ho, hsp]
      · rename_i hne
        unfold ptrOf
        cases p <;> try rfl
        rename_i a
        cases a with
        | none => rfl
        | some a => exact absurd rfl (hne a)
    · exact storeBig_eq _ _ _ _
  · exact storeBig_eq _ _ _ _

def opF (ev : Operand → Value) (h : Heap) (x : SOp) : Prop := opTab x.op E call ev h x = stepE E call ev h x.o
theorem stepF_eq (ev : Operand → Value) (h : Heap) (x : SOp) : stepF E call ev h x = stepE E call ev h x.o := by
  obtain ⟨d, op, ty, g⟩ := x
  unfold stepF
  cases op
  case move a => rfl
  case assign a => rfl
  case pick c a b =>
    show atH h (pickF (ev c) (ev a) (ev b)) = _
    unfold stepE pureV readV newV heavyV SOp.o atH pickF
    simp only
    cases ev c <;> try rfl
    rename_i t; cases t <;> rfl
  case alloc t =>
    show (match allocK E t with | some p => some (Mk.ptr.val h.next, newF h (.cells p.1 true p.2)) | none => none) = _
    unfold stepE pureV readV newV heavyV SOp.o allocK
    simp only [newF_eq]
    cases E.ty t with
    | none => rfl
    | some i =>
      simp only [Option.bind_eq_bind, Option.bind_some]
      cases i.zero <;> rfl
  case box t a =>
    show some (Mk.ptr.val h.next, newF h (.cells (cellsOf (ev a)) true none)) = _
    rw [newF_eq]; rfl
  case build t ps =>
    show atH h (buildV E t (partsV ev ps)) = _
    unfold stepE pureV readV newV heavyV SOp.o atH
    simp only
    cases buildV E t (partsV ev ps) <;> rfl
  case buildSlice t n ps =>
    show newK h (newV E ev _) = _
    unfold stepE pureV readV heavyV newK
    simp only [SOp.o]
    cases newV E ev _ <;> rfl
  case insert => rfl
  case load t a =>
    show atH h (loadF E t (ev a) h) = _
    rw [loadF_eq]
    unfold stepE pureV readV newV heavyV SOp.o atH
    simp only
    cases loadV E t (ev a) h <;> rfl
  case store t a b =>
    show heapK undef (storeF E t (ev a) (ev b) h) = _
    rw [storeF_eq]
    unfold stepE pureV readV newV heavyV SOp.o heapK
    simp only
    cases storeV E t (ev a) (ev b) h <;> rfl
  case nilCheck a =>
    show atH h (pureV E ev _) = _
    unfold stepE readV newV heavyV atH
    simp only [SOp.o]
    cases pureV E ev _ <;> rfl
  case binOp op t a b u =>
    show atH h (binX E op t a b (ev a) (ev b)) = _
    rw [binX_eq]
    unfold stepE pureV readV newV heavyV SOp.o atH
    simp only
    cases binV E op t (isConstO a || isConstO b) (ev a) (ev b) <;> rfl
  case unOp op t a =>
    show atH h (unV op (ev a)) = _
    unfold stepE pureV readV newV heavyV SOp.o atH
    simp only
    cases unV op (ev a) <;> rfl
  case convert s d2 a =>
    show (match convK E s d2 with | some k => atH h (convX k (ev a)) | none => stepE E call ev h (SOp.mk d (.convert s d2 a) ty g).o) = _
    unfold convK
    by_cases hsd : s = d2
    · rw [if_pos hsd]
    · rw [if_neg hsd]
      cases hs : E.ty s with
      | none => rfl
      | some i =>
        cases hd : E.ty d2 with
        | none => rfl
        | some j =>
          simp only [Option.bind_eq_bind, Option.bind_some]
          split
          · rename_i k hk
            split at hk
            · rename_i k1 k2 h1 h2
              cases hk
              unfold stepE pureV readV newV heavyV SOp.o atH convX convV
              simp only [if_neg hsd, hs, hd, Option.bind_eq_bind, Option.bind_some, h1, h2]
              cases ev a <;> simp only [wrF_eq]
            · cases hk
          · rfl
  case makeInterface t a =>
    show (match ifaceK E t with | some _ => some (Value.iface t (ev a), h) | none => none) = _
    unfold stepE pureV readV newV heavyV SOp.o ifaceK
    simp only
    cases E.ty t with
    | none => rfl
    | some i =>
      simp only [Option.bind_eq_bind, Option.bind_some]
      cases isIface i.under <;> rfl
  case makeFunc f l c =>
    show atH h (pureV E ev _) = _
    unfold stepE readV newV heavyV atH
    simp only [SOp.o]
    cases pureV E ev _ <;> rfl
  case makeMap t r =>
    show newK h (newV E ev _) = _
    unfold stepE pureV readV heavyV newK
    simp only [SOp.o]
    cases newV E ev _ <;> rfl
  case makeSlice t l c =>
    show newK h (newV E ev _) = _
    unfold stepE pureV readV heavyV newK
    simp only [SOp.o]
    cases newV E ev _ <;> rfl
  case slice t a lo hi mx =>
    show orK (atH h (sliceV E t (ev a) (lo.map ev) (hi.map ev) (mx.map ev))) (atH h (sliceS E t (ev a) (lo.map ev) (hi.map ev) (mx.map ev) h)) = _
    unfold stepE pureV readV newV heavyV SOp.o atH orK
    simp only
    cases sliceV E t (ev a) (lo.map ev) (hi.map ev) (mx.map ev) <;> simp only
    cases sliceS E t (ev a) (lo.map ev) (hi.map ev) (mx.map ev) h <;> rfl
  case fieldAddr s a f =>
    show atH h (fieldAddrF E s (ev a) f) = _
    rw [fieldAddrF_eq]
    unfold stepE pureV readV newV heavyV SOp.o atH
    simp only
    cases fieldAddrV E s (ev a) f <;> rfl
  case field s a f =>
    show atH h (fieldV E s (ev a) f) = _
    unfold stepE pureV readV newV heavyV SOp.o atH
    simp only
    cases fieldV E s (ev a) f <;> rfl
  case indexAddr s a i =>
    show atH h (indexAddrF E s (ev a) (ev i)) = _
    rw [indexAddrF_eq]
    unfold stepE pureV readV newV heavyV SOp.o atH
    simp only
    cases indexAddrV E s (ev a) (ev i) <;> rfl
  case index s a i =>
    show atH h (indexV E s (ev a) (ev i)) = _
    unfold stepE pureV readV newV heavyV SOp.o atH
    simp only
    cases indexV E s (ev a) (ev i) <;> rfl
  case lookup t a i ok =>
    show atH h (lookupV E t (ev a) (ev i) ok h) = _
    unfold stepE pureV readV newV heavyV SOp.o atH
    simp only
    cases lookupV E t (ev a) (ev i) ok h <;> rfl
  case mapUpdate => rfl
  case mapEntry => rfl
  case entryStore => rfl
  case range => rfl
  case next => rfl
  case typeAssert a u v ok =>
    show atH h (pureV E ev _) = _
    unfold stepE readV newV heavyV atH
    simp only [SOp.o]
    cases pureV E ev _ <;> rfl
  case extract a i =>
    show atH h (extrK (ev a) i) = _
    unfold stepE pureV readV newV heavyV SOp.o atH extrK
    simp only
    cases ev a <;> simp only
    rename_i vs
    cases vs[i]? <;> rfl
  case call c =>
    obtain ⟨callee, args, ats⟩ := c
    cases callee with
    | value f =>
      show callU (ev f) E call ev h _ args = _
      unfold callU
      split
      · rename_i gi first captured hv
        unfold stepE pureV readV newV heavyV SOp.o callW
        simp only [hv, Array.toList_map, List.append_assoc]
        cases E.row gi <;> rfl
      · rfl
    | invoke r m => rfl
    | builtin b =>
      cases b <;> try rfl
      · show fAppend ⟨.builtin .append, args, ats⟩ E call ev h _ = _
        unfold fAppend
        simp only
        split
        · rename_i s a t u ha ht
          have e0 : args[0]? = some s := by rw [← Array.getElem?_toList, ha]; rfl
          have e1 : args[1]? = some a := by rw [← Array.getElem?_toList, ha]; rfl
          have e2 : ats[0]? = some t := by rw [← Array.getElem?_toList, ht]; rfl
          have e3 : ats[1]? = some u := by rw [← Array.getElem?_toList, ht]; rfl
          unfold stepE pureV readV newV heavyV SOp.o
          simp only [e0, e1, e2, e3, appendF_eq]
        · rfl
      · show fLen ⟨.builtin .len, args, ats⟩ E call ev h _ = _
        unfold fLen
        simp only
        split
        · rename_i a ar t tr ha ht
          split
          · rename_i z hz
            unfold elemOf at hz
            cases hty : E.ty t with
            | none => rw [hty] at hz; simp at hz
            | some i =>
              rw [hty] at hz
              simp only [Option.bind_eq_bind, Option.bind_some] at hz
              cases hu : i.under <;> rw [hu] at hz <;> simp only [reduceCtorEq] at hz
              have e1 : args[0]? = some a := by rw [← Array.getElem?_toList, ha]; rfl
              have e2 : ats[0]? = some t := by rw [← Array.getElem?_toList, ht]; rfl
              unfold stepE pureV readV newV heavyV SOp.o atH lenK
              simp only [e1, e2, hty, Option.bind_eq_bind, Option.bind_some, hu]
              cases ev a <;> rfl
          · rfl
        · rfl
  all_goals rfl
end
end Go.Vi
