/- Crc: what lamina's crc.Go computes, as the interpreter runs it. -/
import Derived.Test.YtenhhbammadpbaaGreatDoorVgF
import Derived.Test.YtenhhbammadpbaaGreatDoorVgD
import Derived.Test.YtenhhbammadpbaaGreatDoorFit
import Derived.KernelRfl
set_option linter.unusedVariables false
open Go Go.Vi
namespace Go.Proofs.YtenhhbammadpbaaGreatDoor.C
noncomputable def Ed : Env := envD Tryz.prog 338 [371,410,411,454]
theorem okd {K : Known} : EnvOk K Tryz.prog Ed := envD_ok fit (by kernel_rfl) (fn := Tryz.f338) (by kernel_rfl) (by kernel_rfl) (by kernel_rfl) (by kernel_rfl) (by kernel_rfl)
noncomputable def E0 : Env := Ed
theorem ok0 {K : Known} : EnvOk K Tryz.prog E0 := okd
def tblN : List Nat := [0, 274646895, 549293790, 820201905, 1098587580, 1361435347, 1640403810, 1905808397, 2197175160, 2460548119, 2722870694, 2987750089, 3280807620, 3553878443, 3811616794, 4084100981]
def tbl : List Value := tblN.map fun (n : Nat) => .int .u32 (.ofNat n)
theorem table_run : (match (callF E0 300).fn 416 [] h0 with | some (.agg l, _) => veqs 100 l.toList tbl | _ => false) = true := by kernel_rfl
theorem table_eq : ∃ h1, callV E0 300 416 [] h0 = some (.agg ⟨tbl⟩, h1) := by
  have h := table_run
  split at h
  · rename_i l h1 hr
    have := veqs_eq _ _ _ h
    refine ⟨h1, ?_⟩
    rw [(call_le E0 300).fn _ _ _ _ hr]
    have e : l = ⟨tbl⟩ := by apply Array.ext'; exact this
    rw [e]
  · cases h
noncomputable def E1 : Env := E0.tell 416 (memo (.agg ⟨tbl⟩))
theorem ok1 {K : Known} : EnvOk K Tryz.prog E1 := by
  obtain ⟨h1, hr⟩ := table_eq
  exact tell_ok ok0 (memo_ok ok0 hr (by kernel_rfl))
def dTy : Ty := { under := .bool, agg := false, size := 0, bytes := 0, zero := none, eqg := false, held := false, cmp := false, places := none }
noncomputable def i29 : Ty := (E1.ty 38).getD dTy
noncomputable def i5 : Ty := (E1.ty 5).getD dTy
noncomputable def i234 : Ty := (E1.ty 466).getD dTy
noncomputable def i263 : Ty := (E1.ty 521).getD dTy
theorem e29 : E1.ty 38 = some i29 := by kernel_rfl
theorem e5 : E1.ty 5 = some i5 := by kernel_rfl
theorem e234 : E1.ty 466 = some i234 := by kernel_rfl
theorem e263 : E1.ty 521 = some i263 := by kernel_rfl
theorem u29 : i29.under = .slice 5 := by kernel_rfl
theorem u5 : i5.under = .int .u8 := by kernel_rfl
theorem u234 : i234.under = .int .u32 := by kernel_rfl
theorem u263 : i263.under = .array 16 466 := by kernel_rfl
theorem s5 : i5.size = 1 := by kernel_rfl
theorem s234 : i234.size = 1 := by kernel_rfl
theorem s263 : i263.size = 16 := by kernel_rfl
theorem a5 : i5.agg = false := by kernel_rfl
theorem a234 : i234.agg = false := by kernel_rfl
def zs : List Value := List.replicate 16 (.int .u32 0)
theorem z263 : i263.zero.map cellsOf = some zs := by kernel_rfl
variable {call : CallV}
theorem idx29 (a : Addr) (len cap i : Nat) (hi : i < len) : indexAddrV E1 38 (.slice (some a) len cap) (.int .i64 (.ofNat i)) = some (.pointer (some (a.add i))) := by
  unfold indexAddrV
  simp only [e29, Option.bind_eq_bind, Option.bind_some, intOf, u29, e5, s5]
  rw [if_pos ⟨by simp, by simp; exact hi, by simp⟩]
  simp
theorem idx263 (B j : Nat) (k : IntKind) (hj : j < 16) : indexAddrV E1 521 (.pointer (some ⟨B, 0, none⟩)) (.int k (.ofNat j)) = some (.pointer (some ⟨B, j, none⟩)) := by
  unfold indexAddrV
  simp only [e263, Option.bind_eq_bind, Option.bind_some, intOf, u263, e234, s234]
  rw [if_pos ⟨by simp, by simp; omega, by simp⟩]
  have : (Int.ofNat j).toNat * 1 = j := by simp
  rw [this, add_cell, Nat.zero_add]
theorem rd_one {h : Heap} {a : Addr} {len : Nat} {l : List Value} (hr : rdN h a len = some l) {i : Nat} (hi : i < len) : ∃ v, l[i]? = some v ∧ a.spot = none ∧ rdN h (a.add i) 1 = some [v] := by
  unfold rdN at hr
  split at hr
  · rename_i cs wr o hsp hg
    split at hr
    · rename_i hle
      cases hr
      obtain ⟨blk, off, spot⟩ := a
      simp only at hsp hg hle
      subst hsp
      have hlt : off + i < cs.length := by omega
      refine ⟨cs[off + i], ?_, rfl, ?_⟩
      · rw [List.getElem?_take, if_pos hi, List.getElem?_drop, List.getElem?_eq_getElem hlt]
      · rw [add_cell]
        unfold rdN
        simp only [hg]
        rw [if_pos (by omega), take_one, List.getElem?_eq_getElem hlt]
    · cases hr
  · cases hr
theorem load5 {h : Heap} {a : Addr} {len : Nat} {l : List Value} (hr : rdN h a len = some l) {i : Nat} (hi : i < len) : loadV E1 5 (.pointer (some (a.add i))) h = l[i]? := by
  obtain ⟨v, h1, h2, h3⟩ := rd_one hr hi
  obtain ⟨blk, off, spot⟩ := a
  simp only at h2
  subst h2
  unfold loadV ptrOf
  rw [add_cell] at h3 ⊢
  simp only [e5, Option.bind_eq_bind, Option.bind_some, Option.isNone_none, if_true, s5, h3, a5, Bool.false_eq_true, if_false, ofCells, h1]
theorem load234 {h : Heap} {B j : Nat} {cs : List Value} {wr : Bool} {o : Option (Nat × Nat)} (hg : h.get B = some (.cells cs wr o)) {v : Value} (hv : cs[j]? = some v) : loadV E1 466 (.pointer (some ⟨B, j, none⟩)) h = some v := by
  obtain ⟨hlt, rfl⟩ := List.getElem?_eq_some_iff.1 hv
  unfold loadV ptrOf rdN
  simp only [e234, Option.bind_eq_bind, Option.bind_some, Option.isNone_none, if_true, s234, hg, a234, Bool.false_eq_true, if_false]
  rw [if_pos (by omega), take_one, List.getElem?_eq_getElem hlt]
  rfl
theorem conv5 (n : Int) : convV E1 5 466 (.int .u8 n) = some (.int .u32 (IntKind.u32.wrap n)) := by
  unfold convV
  simp only [e5, e234, Option.bind_eq_bind, Option.bind_some, u5, u234]
theorem sk_conv (d : Option Tmp) (ty : TypeId) (x : Operand) (t : Tmps) (h : Heap) (n : Int) (hx : evV t x = .int .u8 n) : stepV E1 call (SOp.o ⟨d, .convert 5 466 x, ty, none⟩) (t, h) = some (.int .u32 (IntKind.u32.wrap n), h) := by
  unfold stepV pureV SOp.o
  simp only [hx, conv5]
  rfl
theorem sk_len (d : Option Tmp) (ty : TypeId) (x : Operand) (t : Tmps) (h : Heap) (a : Addr) (len cap : Nat) (hx : evV t x = .slice (some a) len cap) :
    stepV E1 call (SOp.o ⟨d, .call ⟨.builtin .len, #[x], #[38]⟩, ty, none⟩) (t, h) = some (.int .i64 (.ofNat len), h) := by
  unfold stepV pureV SOp.o
  simp [hx, e29, u29]
theorem xorN {x y : Nat} (hx : x < 4294967296) (hy : y < 4294967296) : arithV .xor .u32 (.ofNat x) (.ofNat y) = some (.int .u32 (.ofNat (x ^^^ y))) := by
  rw [← arithF_eq]
  show Bool.rec (motive := fun _ => Option Value) _ (some (.int .u32 (.ofNat (Nat.xor x y)))) (Bool.rec (motive := fun _ => Bool) false (Nat.ble y 4294967295) (Nat.ble x 4294967295)) = _
  rw [ble_dec, ble_dec, decide_eq_true (by omega), decide_eq_true (by omega)]
  rfl
theorem andN {x y : Nat} (hx : x < 4294967296) (hy : y < 4294967296) : arithV .and .u32 (.ofNat x) (.ofNat y) = some (.int .u32 (.ofNat (x &&& y))) := by
  rw [← arithF_eq]
  show Bool.rec (motive := fun _ => Option Value) _ (some (.int .u32 (.ofNat (Nat.land x y)))) (Bool.rec (motive := fun _ => Bool) false (Nat.ble y 4294967295) (Nat.ble x 4294967295)) = _
  rw [ble_dec, ble_dec, decide_eq_true (by omega), decide_eq_true (by omega)]
  rfl
theorem shrN {x : Nat} (hx : x < 4294967296) : arithV .shr .u32 (.ofNat x) (.ofNat 4) = some (.int .u32 (.ofNat (x >>> 4))) := by
  rw [← arithF_eq]
  show Bool.rec (motive := fun _ => Option Value) _ (some (.int .u32 (.ofNat (Nat.shiftRight x 4)))) (Bool.rec (motive := fun _ => Bool) false (Nat.ble 4 8) (Nat.ble x 4294967295)) = _
  rw [ble_dec, ble_dec, decide_eq_true (by omega), decide_eq_true (by omega)]
  rfl
def gIn : SCode := .list [⟨some 24, (.move (.tmp 6)), 466, none⟩,
        ⟨some 25, (.binOp .shr 466 (.tmp 24) (.const (.int .u64 4)) 198), 466, none⟩,
        ⟨some 26, (.move (.tmp 6)), 466, none⟩,
        ⟨some 27, (.binOp .and 466 (.tmp 26) (.const (.int .u32 15)) 466), 466, none⟩,
        ⟨some 28, (.indexAddr 521 (.tmp 5) (.tmp 27)), 0, none⟩,
        ⟨some 29, (.load 466 (.tmp 28)), 466, none⟩,
        ⟨some 30, (.binOp .xor 466 (.tmp 25) (.tmp 29) 466), 466, none⟩,
        ⟨some 6, (.assign (.tmp 30)), 466, none⟩]
def gInner : SCode := .seq (.list [⟨some 23, (.binOp .lss 3 (.tmp 22) (.const (.int .i64 2)) 3), 4, none⟩])
       (.seq (.cond (.tmp 23) (.skip) (.exit 2))
       (.seq (.block 3 gIn)
       (.list [⟨some 31, (.binOp .add 3 (.tmp 22) (.const (.int .i64 1)) 3), 3, none⟩,
       ⟨some 22, (.move (.tmp 31)), 3, none⟩])))
def gByte : SCode := .seq (.list [⟨some 16, (.indexAddr 38 (.tmp 12) (.tmp 14)), 0, none⟩,
     ⟨some 17, (.load 5 (.tmp 16)), 5, none⟩,
     ⟨some 8, (.assign (.tmp 17)), 5, none⟩])
     (.seq (.list [⟨some 18, (.move (.tmp 6)), 466, none⟩,
     ⟨some 19, (.move (.tmp 8)), 5, none⟩,
     ⟨some 20, (.convert 5 466 (.tmp 19)), 466, none⟩,
     ⟨some 21, (.binOp .xor 466 (.tmp 18) (.tmp 20) 466), 466, none⟩,
     ⟨some 6, (.assign (.tmp 21)), 466, none⟩])
     (.seq (.list [⟨some 22, (.move (.const (.int .i64 0))), 3, none⟩])
     (.block 2 (.loop gInner))))
def gOuter : SCode := .seq (.list [⟨some 15, (.binOp .lss 3 (.tmp 14) (.tmp 13) 3), 0, none⟩])
    (.seq (.cond (.tmp 15) (.skip) (.exit 0))
    (.seq (.block 1 gByte)
    (.list [⟨some 32, (.binOp .add 3 (.tmp 14) (.const (.int .i64 1)) 3), 3, none⟩,
    ⟨some 14, (.move (.tmp 32)), 3, none⟩])))
def gAll : SCode := .seq (.list [⟨some 4, (.assign (.const (.int .u32 0))), 466, none⟩])
  (.seq (.list [⟨some 9, (.call ⟨.value (.func 416), #[], #[]⟩), 521, none⟩,
  ⟨some 5, (.alloc 521), 0, none⟩,
  ⟨none, (.store 521 (.tmp 5) (.tmp 9)), 0, none⟩])
  (.seq (.list [⟨some 10, (.move (.tmp 0)), 466, none⟩,
  ⟨some 11, (.unOp .xor 466 (.tmp 10)), 466, none⟩,
  ⟨some 6, (.assign (.tmp 11)), 466, none⟩])
  (.seq (.seq (.list [⟨some 12, (.move (.tmp 1)), 38, none⟩,
  ⟨some 13, (.call ⟨.builtin .len, #[(.tmp 12)], #[38]⟩), 3, none⟩,
  ⟨some 14, (.move (.const (.int .i64 0))), 3, none⟩])
  (.block 0 (.loop gOuter)))
  (.seq (.list [⟨some 33, (.move (.tmp 6)), 466, none⟩,
  ⟨some 34, (.unOp .xor 466 (.tmp 33)), 466, none⟩,
  ⟨some 4, (.assign (.tmp 34)), 466, none⟩])
  (.ret)))))
noncomputable def fn191 : Fun := (E1.fn 408).getD ⟨Tryz.f408, .skip, fun _ => none⟩
theorem e191 : E1.fn 408 = some fn191 := by kernel_rfl
theorem g191 : slimC fn191.body = gAll := by kernel_rfl
theorem n191 : fn191.fn.ntmps = 35 := by kernel_rfl
theorem r191 : fn191.fn.results.toList = [.tmp 4] := by kernel_rfl
def half (x : Nat) : Nat := (x >>> 4) ^^^ tblN.getD (x &&& 15) 0
theorem tbl_lt (j : Nat) : tblN.getD j 0 < 4294967296 := by
  rcases Nat.lt_or_ge j 16 with h | h
  · have : ∀ j : Fin 16, tblN.getD j.val 0 < 4294967296 := by decide
    exact this ⟨j, h⟩
  · rw [List.getD_eq_getElem?_getD, List.getElem?_eq_none (by simpa [tblN] using h)]; decide
theorem and15 (x : Nat) : x &&& 15 < 16 := Nat.lt_of_le_of_lt Nat.and_le_right (by decide)
theorem shr_lt {x : Nat} (hx : x < 4294967296) : x >>> 4 < 4294967296 := by rw [Nat.shiftRight_eq_div_pow]; omega
theorem xor_lt {x y : Nat} (hx : x < 4294967296) (hy : y < 4294967296) : x ^^^ y < 4294967296 := Nat.xor_lt_two_pow (n := 32) hx hy
theorem half_lt {x : Nat} (hx : x < 4294967296) : half x < 4294967296 := xor_lt (shr_lt hx) (tbl_lt _)
theorem bin_shr (ty : TypeId) (c : Bool) {x : Nat} (hx : x < 4294967296) : binV E1 .shr ty c (.int .u32 (.ofNat x)) (.int .u64 4) = some (.int .u32 (.ofNat (x >>> 4))) := by
  unfold binV
  simp only [show (IntKind.u32 = IntKind.u64) = False from by simp, if_false]
  exact shrN hx
theorem and_15 {x : Nat} (hx : x < 4294967296) : arithV .and .u32 (.ofNat x) 15 = some (.int .u32 (.ofNat (x &&& 15))) := andN hx (by decide)
theorem tbl_at {j : Nat} (hj : j < 16) : tbl[j]? = some (.int .u32 (.ofNat (tblN.getD j 0))) := by
  unfold tbl
  rw [List.getElem?_map, List.getD_eq_getElem?_getD]
  have : j < tblN.length := hj
  rw [List.getElem?_eq_getElem this]
  rfl
set_option maxRecDepth 100000
theorem in_ok {pl : Nat → Option Plan} {fuel x B : Nat} {h : Heap} (hx : x < 4294967296) (hB : h.get B = some (.cells tbl true none)) (t0 t1 t2 t3 t4 t7 t8 t9 t10 t11 t12 t13 t14 t15 t16 t17 t18 t19 t20 t21 t22 t23 t24 t25 t26 t27 t28 t29 t30 t31 t32 t33 t34 : Value) :
    codeT E1 call pl fuel gIn ([t0, t1, t2, t3, t4, Value.pointer (some ⟨B, 0, none⟩), Value.int .u32 (.ofNat (x)), t7, t8, t9, t10, t11, t12, t13, t14, t15, t16, t17, t18, t19, t20, t21, t22, t23, t24, t25, t26, t27, t28, t29, t30, t31, t32, t33, t34], h) = some (.normal, ([t0, t1, t2, t3, t4, Value.pointer (some ⟨B, 0, none⟩), Value.int .u32 (.ofNat (half x)), t7, t8, t9, t10, t11, t12, t13, t14, t15, t16, t17, t18, t19, t20, t21, t22, t23, Value.int .u32 (.ofNat (x)), Value.int .u32 (.ofNat (x >>> 4)), Value.int .u32 (.ofNat (x)), Value.int .u32 (.ofNat (x &&& 15)), Value.pointer (some ⟨B, x &&& 15, none⟩), Value.int .u32 (.ofNat (tblN.getD (x &&& 15) 0)), Value.int .u32 (.ofNat (half x)), t31, t32, t33, t34], h)) := by
  have hl := load234 hB (tbl_at (and15 x))
  have h2 := xorN (shr_lt hx) (tbl_lt (x &&& 15))
  unfold gIn
  simp only [ck_list, endK_some, sk_nil, sk_cons', stK_some, atH_some, sk_move, sk_assign, sk_bin, bin_int, sk_load, sk_indexAddr, ev_tmp, ev_int, put_some, List.getD_cons_zero, List.getD_cons_succ, List.set_cons_zero, List.set_cons_succ, bin_shr _ _ hx, and_15 hx, idx263 B _ _ (and15 x), hl, h2]
  rfl
theorem w1 : IntKind.i64.wrap ((0 : Int) + 1) = 1 := by decide
theorem w2 : IntKind.i64.wrap ((1 : Int) + 1) = 2 := by decide
theorem inner_ok {pl : Nat → Option Plan} {fuel x B : Nat} {h : Heap} (hx : x < 4294967296) (hB : h.get B = some (.cells tbl true none)) (t0 t1 t2 t3 t4 t7 t8 t9 t10 t11 t12 t13 t14 t15 t16 t17 t18 t19 t20 t21 t23 t24 t25 t26 t27 t28 t29 t30 t31 t32 t33 t34 : Value) :
    ∃ j23 j24 j25 j26 j27 j28 j29 j30 j31 : Value, codeT E1 call pl (fuel + 3) (.block 2 (.loop gInner)) ([t0, t1, t2, t3, t4, Value.pointer (some ⟨B, 0, none⟩), Value.int .u32 (.ofNat (x)), t7, t8, t9, t10, t11, t12, t13, t14, t15, t16, t17, t18, t19, t20, t21, Value.int .i64 (0), t23, t24, t25, t26, t27, t28, t29, t30, t31, t32, t33, t34], h) = some (.normal, ([t0, t1, t2, t3, t4, Value.pointer (some ⟨B, 0, none⟩), Value.int .u32 (.ofNat (half (half x))), t7, t8, t9, t10, t11, t12, t13, t14, t15, t16, t17, t18, t19, t20, t21, Value.int .i64 (2), j23, j24, j25, j26, j27, j28, j29, j30, j31, t32, t33, t34], h)) := by
  have c0 : decide ((0 : Int) < 2) = true := by decide
  have c1 : decide ((1 : Int) < 2) = true := by decide
  have c2 : decide ((2 : Int) < 2) = false := by decide
  refine ⟨.bool false, Value.int .u32 (.ofNat (half x)), Value.int .u32 (.ofNat (half x >>> 4)), Value.int .u32 (.ofNat (half x)), Value.int .u32 (.ofNat (half x &&& 15)), .pointer (some ⟨B, half x &&& 15, none⟩), Value.int .u32 (.ofNat (tblN.getD (half x &&& 15) 0)), Value.int .u32 (.ofNat (half (half x))), .int .i64 2, ?_⟩
  rw [ck_block, ck_loop]
  unfold gInner
  simp only [iterV, ck_skip, ck_list, ck_seq, ck_cond, ck_block, ck_exit, seqK_normal, seqK_exit, condK_true, condK_false, blockK_normal, blockK_exit, endK_some, sk_nil, sk_cons', stK_some, atH_some, sk_move, sk_bin, bin_int, ev_tmp, ev_int, put_some, List.getD_cons_zero, List.getD_cons_succ, List.set_cons_zero, List.set_cons_succ, ar_lss, ar_add, c0, c1, c2, w1, w2, in_ok hx hB, in_ok (half_lt hx) hB, if_true]
theorem wi {i : Nat} (hi : i < 1099511627776) : IntKind.i64.wrap (Int.ofNat i + 1) = Int.ofNat (i + 1) := by
  have : Int.ofNat i + 1 = Int.ofNat (i + 1) := rfl
  rw [this]; exact wrap_pos .i64 _ (by show i + 1 ≤ 9223372036854775807; omega)
theorem outer_ok {pl : Nat → Option Plan} {fuel x B i len cap : Nat} {a : Addr} {h : Heap} {c : Nat} (hc0 : c ≤ 255) (hx : x < 4294967296) (hB : h.get B = some (.cells tbl true none)) (hi : i < len) (hb : len < 1099511627776)
    (hl : loadV E1 5 (.pointer (some (a.add i))) h = some (.int .u8 (.ofNat c))) (t0 t1 t2 t3 t4 t7 t8 t9 t10 t11 t15 t16 t17 t18 t19 t20 t21 t22 t23 t24 t25 t26 t27 t28 t29 t30 t31 t32 t33 t34 : Value) :
    ∃ j8 j15 j16 j17 j18 j19 j20 j21 j22 j23 j24 j25 j26 j27 j28 j29 j30 j31 j32 : Value, codeT E1 call pl (fuel + 3) gOuter ([t0, t1, t2, t3, t4, Value.pointer (some ⟨B, 0, none⟩), Value.int .u32 (.ofNat (x)), t7, t8, t9, t10, t11, Value.slice (some a) len cap, Value.int .i64 (.ofNat len), Value.int .i64 (.ofNat i), t15, t16, t17, t18, t19, t20, t21, t22, t23, t24, t25, t26, t27, t28, t29, t30, t31, t32, t33, t34], h) = some (.normal, ([t0, t1, t2, t3, t4, Value.pointer (some ⟨B, 0, none⟩), Value.int .u32 (.ofNat (half (half (x ^^^ c)))), t7, j8, t9, t10, t11, Value.slice (some a) len cap, Value.int .i64 (.ofNat len), Value.int .i64 (.ofNat (i + 1)), j15, j16, j17, j18, j19, j20, j21, j22, j23, j24, j25, j26, j27, j28, j29, j30, j31, j32, t33, t34], h)) := by
  have c0 : decide (Int.ofNat i < Int.ofNat len) = true := decide_eq_true (by simpa using hi)
  have hc : c < 4294967296 := by omega
  have hcw : IntKind.u32.wrap (Int.ofNat c) = Int.ofNat c := wrap_pos .u32 _ (by show c ≤ 4294967295; omega)
  have hxx := xorN hx hc
  have hwi := wi (i := i) (by omega)
  have hcv : ∀ (d : Option Tmp) (ty : TypeId) (t : Tmps) (h : Heap), evV t (.tmp 19) = .int .u8 (.ofNat c) → stepV E1 call (SOp.o ⟨d, .convert 5 466 (.tmp 19), ty, none⟩) (t, h) = some (.int .u32 (.ofNat c), h) := fun d ty t h hv => by
    rw [sk_conv d ty _ t h _ hv, hcw]
  unfold gOuter gByte
  have key : ∀ (t0 t1 t2 t3 t4 t7 t8 t9 t10 t11 t15 t16 t17 t18 t19 t20 t21 t23 t24 t25 t26 t27 t28 t29 t30 t31 t32 t33 t34 : Value), ∃ j23 j24 j25 j26 j27 j28 j29 j30 j31 : Value, codeT E1 call pl (fuel + 3) (.block 2 (.loop gInner)) ([t0, t1, t2, t3, t4, Value.pointer (some ⟨B, 0, none⟩), Value.int .u32 (.ofNat (x ^^^ c)), t7, t8, t9, t10, t11, Value.slice (some a) len cap, Value.int .i64 (.ofNat len), Value.int .i64 (.ofNat i), t15, t16, t17, t18, t19, t20, t21, Value.int .i64 (0), t23, t24, t25, t26, t27, t28, t29, t30, t31, t32, t33, t34], h) = some (.normal, ([t0, t1, t2, t3, t4, Value.pointer (some ⟨B, 0, none⟩), Value.int .u32 (.ofNat (half (half (x ^^^ c)))), t7, t8, t9, t10, t11, Value.slice (some a) len cap, Value.int .i64 (.ofNat len), Value.int .i64 (.ofNat i), t15, t16, t17, t18, t19, t20, t21, Value.int .i64 (2), j23, j24, j25, j26, j27, j28, j29, j30, j31, t32, t33, t34], h)) :=
    fun t0 t1 t2 t3 t4 t7 t8 t9 t10 t11 t15 t16 t17 t18 t19 t20 t21 t23 t24 t25 t26 t27 t28 t29 t30 t31 t32 t33 t34 => inner_ok (xor_lt hx hc) hB t0 t1 t2 t3 t4 t7 t8 t9 t10 t11 _ _ _ t15 t16 t17 t18 t19 t20 t21 t23 t24 t25 t26 t27 t28 t29 t30 t31 t32 t33 t34
  obtain ⟨j23, j24, j25, j26, j27, j28, j29, j30, j31, hk⟩ := key t0 t1 t2 t3 t4 t7 (.int .u8 (.ofNat c)) t9 t10 t11 (.bool true) (.pointer (some (a.add i))) (.int .u8 (.ofNat c)) (.int .u32 (.ofNat x)) (.int .u8 (.ofNat c)) (.int .u32 (.ofNat c)) (.int .u32 (.ofNat (x ^^^ c))) t23 t24 t25 t26 t27 t28 t29 t30 t31 t32 t33 t34
  refine ⟨(.int .u8 (.ofNat c)), (.bool true), (.pointer (some (a.add i))), (.int .u8 (.ofNat c)), (.int .u32 (.ofNat x)), (.int .u8 (.ofNat c)), (.int .u32 (.ofNat c)), (.int .u32 (.ofNat (x ^^^ c))), (.int .i64 2), j23, j24, j25, j26, j27, j28, j29, j30, j31, (.int .i64 (.ofNat (i + 1))), ?_⟩
  simp only [ck_skip, ck_list, ck_seq, ck_cond, ck_block, seqK_normal, condK_true, blockK_normal, endK_some, sk_nil, sk_cons', stK_some, atH_some, sk_move, sk_assign, sk_bin, bin_int, sk_load, sk_indexAddr, ev_tmp, ev_int, put_some, List.getD_cons_zero, List.getD_cons_succ, List.set_cons_zero, List.set_cons_succ, ar_lss, ar_add, c0, idx29 a len cap i hi, hl, hcv, hxx, hk, hwi]
def crcB (x c : Nat) : Nat := half (half (x ^^^ c))
theorem crcB_lt {x c : Nat} (hx : x < 4294967296) (hc : c ≤ 255) : crcB x c < 4294967296 := half_lt (half_lt (xor_lt hx (by omega)))
theorem loop_ok {pl : Nat → Option Plan} {g B len cap : Nat} {a : Addr} {h : Heap} {bs : List Nat} (hB : h.get B = some (.cells tbl true none)) (hb : len < 1099511627776) (hlen : bs.length = len) (h255 : ∀ c ∈ bs, c ≤ 255)
    (hl : ∀ i c, bs[i]? = some c → loadV E1 5 (.pointer (some (a.add i))) h = some (.int .u8 (.ofNat c))) : ∀ (k i x K : Nat) (t0 t1 t2 t3 t4 t7 t8 t9 t10 t11 t15 t16 t17 t18 t19 t20 t21 t22 t23 t24 t25 t26 t27 t28 t29 t30 t31 t32 t33 t34 : Value), i + k = len → x < 4294967296 → k < K →
    ∃ j8 j15 j16 j17 j18 j19 j20 j21 j22 j23 j24 j25 j26 j27 j28 j29 j30 j31 j32 : Value, iterV (codeT E1 call pl (g + 3) gOuter) K ([t0, t1, t2, t3, t4, Value.pointer (some ⟨B, 0, none⟩), Value.int .u32 (.ofNat (x)), t7, t8, t9, t10, t11, Value.slice (some a) len cap, Value.int .i64 (.ofNat len), Value.int .i64 (.ofNat (i)), t15, t16, t17, t18, t19, t20, t21, t22, t23, t24, t25, t26, t27, t28, t29, t30, t31, t32, t33, t34], h) = some (.exit 0, ([t0, t1, t2, t3, t4, Value.pointer (some ⟨B, 0, none⟩), Value.int .u32 (.ofNat ((bs.drop i).foldl crcB x)), t7, j8, t9, t10, t11, Value.slice (some a) len cap, Value.int .i64 (.ofNat len), Value.int .i64 (.ofNat (len)), j15, j16, j17, j18, j19, j20, j21, j22, j23, j24, j25, j26, j27, j28, j29, j30, j31, j32, t33, t34], h)) := by
  intro k
  induction k with
  | zero =>
    intro i x K t0 t1 t2 t3 t4 t7 t8 t9 t10 t11 t15 t16 t17 t18 t19 t20 t21 t22 t23 t24 t25 t26 t27 t28 t29 t30 t31 t32 t33 t34 hi hx hK
    obtain ⟨K, rfl⟩ : ∃ q, K = q + 1 := ⟨K - 1, by omega⟩
    have hi : len = i := by omega
    subst hi
    have c0 : decide (Int.ofNat len < Int.ofNat len) = false := decide_eq_false (by simp)
    refine ⟨t8, .bool false, t16, t17, t18, t19, t20, t21, t22, t23, t24, t25, t26, t27, t28, t29, t30, t31, t32, ?_⟩
    have hd : bs.drop len = [] := List.drop_eq_nil_of_le (by omega)
    rw [hd]
    unfold iterV
    have hs : codeT E1 call pl (g + 3) gOuter ([t0, t1, t2, t3, t4, Value.pointer (some ⟨B, 0, none⟩), Value.int .u32 (.ofNat (x)), t7, t8, t9, t10, t11, Value.slice (some a) len cap, Value.int .i64 (.ofNat len), Value.int .i64 (.ofNat (len)), t15, t16, t17, t18, t19, t20, t21, t22, t23, t24, t25, t26, t27, t28, t29, t30, t31, t32, t33, t34], h) = some (.exit 0, ([t0, t1, t2, t3, t4, Value.pointer (some ⟨B, 0, none⟩), Value.int .u32 (.ofNat (x)), t7, t8, t9, t10, t11, Value.slice (some a) len cap, Value.int .i64 (.ofNat len), Value.int .i64 (.ofNat (len)), Value.bool false, t16, t17, t18, t19, t20, t21, t22, t23, t24, t25, t26, t27, t28, t29, t30, t31, t32, t33, t34], h)) := by
      unfold gOuter
      simp only [ck_list, ck_seq, ck_cond, ck_exit, seqK_normal, seqK_exit, condK_false, endK_some, sk_nil, sk_cons', stK_some, atH_some, sk_bin, bin_int, ev_tmp, put_some, List.getD_cons_zero, List.getD_cons_succ, List.set_cons_zero, List.set_cons_succ, ar_lss, c0]
    rw [hs]
    rfl
  | succ k ih =>
    intro i x K t0 t1 t2 t3 t4 t7 t8 t9 t10 t11 t15 t16 t17 t18 t19 t20 t21 t22 t23 t24 t25 t26 t27 t28 t29 t30 t31 t32 t33 t34 hi hx hK
    obtain ⟨K, rfl⟩ : ∃ q, K = q + 1 := ⟨K - 1, by omega⟩
    have hlt : i < bs.length := by omega
    have hget : bs[i]? = some bs[i] := List.getElem?_eq_getElem hlt
    have hc : bs[i] ≤ 255 := h255 _ (List.getElem_mem hlt)
    obtain ⟨j8, j15, j16, j17, j18, j19, j20, j21, j22, j23, j24, j25, j26, j27, j28, j29, j30, j31, j32, ho⟩ := outer_ok (call := call) (pl := pl) (fuel := g) (len := len) (cap := cap) hc hx hB (by omega) hb (hl i _ hget) t0 t1 t2 t3 t4 t7 t8 t9 t10 t11 t15 t16 t17 t18 t19 t20 t21 t22 t23 t24 t25 t26 t27 t28 t29 t30 t31 t32 t33 t34
    obtain ⟨k8, k15, k16, k17, k18, k19, k20, k21, k22, k23, k24, k25, k26, k27, k28, k29, k30, k31, k32, hr⟩ := ih (i + 1) (crcB x bs[i]) K t0 t1 t2 t3 t4 t7 j8 t9 t10 t11 j15 j16 j17 j18 j19 j20 j21 j22 j23 j24 j25 j26 j27 j28 j29 j30 j31 j32 t33 t34 (by omega) (crcB_lt hx hc) (by omega)
    refine ⟨k8, k15, k16, k17, k18, k19, k20, k21, k22, k23, k24, k25, k26, k27, k28, k29, k30, k31, k32, ?_⟩
    unfold iterV
    rw [ho]
    have hd : bs.drop i = bs[i] :: bs.drop (i + 1) := List.drop_eq_getElem_cons hlt
    rw [hd]
    exact hr
theorem ck_un (d : Option Tmp) (ty : TypeId) (t : Tmps) (h : Heap) (x : Operand) {n : Nat} (hn : n < 4294967296) (hx : evV t x = .int .u32 (.ofNat n)) :
    stepV E1 call (SOp.o ⟨d, .unOp .xor 466 x, ty, none⟩) (t, h) = some (.int .u32 (.ofNat (4294967295 ^^^ n)), h) := by
  rw [sk_un, hx]
  have : unV .xor (.int .u32 (.ofNat n)) = arithV .xor .u32 (.ofNat 4294967295) (.ofNat n) := rfl
  rw [this, xorN (by decide) hn]; rfl
theorem alloc263 (d : Option Tmp) (ty : TypeId) (t : Tmps) (h : Heap) : stepV E1 call (SOp.o ⟨d, .alloc 521, ty, none⟩) (t, h) = some (.pointer (some ⟨h.next, 0, none⟩), h.new (.cells zs true none)) := by
  rw [sk_alloc]
  obtain ⟨z, hz, hzs⟩ := Option.map_eq_some_iff.1 z263
  unfold newV SOp.o
  simp only [e263, Option.bind_eq_bind, Option.bind_some, hz, hzs]
  rfl
def h2 (h : Heap) : Heap := (h.new (.cells zs true none)).set h.next (.cells tbl true none)
theorem store263 (h : Heap) : storeV E1 521 (.pointer (some ⟨h.next, 0, none⟩)) (.agg ⟨tbl⟩) (h.new (.cells zs true none)) = some (h2 h) := by
  unfold storeV ptrOf wrN h2
  simp only [e263, Option.bind_eq_bind, Option.bind_some, Option.isNone_none, if_true, s263, get_new, cellsOf]
  rfl
theorem h2_get (h : Heap) (b : Nat) : (h2 h).get b = if b = h.next then some (.cells tbl true none) else h.get b := by
  unfold h2
  rw [get_set, get_new]
  by_cases hb : b = h.next
  · rw [if_pos hb, if_pos hb]
  · rw [if_neg hb, if_neg hb, if_neg hb]
theorem memo_row (h : Heap) (m : Nat) : callR E1 (callV E1 (m + 1)) 416 [] h = some (.agg ⟨tbl⟩, h) := by
  have hr : E1.row 416 = none := rfl
  unfold callR
  rw [hr]
  simp only [callV_fn]
  have he : E1.ext 416 = some (memo (.agg ⟨tbl⟩)) := rfl
  rw [he]
  rfl
def crcN (s : Nat) (bs : List Nat) : Nat := 4294967295 ^^^ bs.foldl crcB (4294967295 ^^^ s)
theorem go_ok {s len cap m : Nat} {a : Addr} {h : Heap} {l : List Value} {bs : List Nat} (hs : s < 4294967296) (hb : len < 1099511627776) (hlen : bs.length = len) (h255 : ∀ c ∈ bs, c ≤ 255)
    (hr : rdN h a len = some l) (hbs : ∀ (i c : Nat), bs[i]? = some c → l[i]? = some (Value.int .u8 (.ofNat c))) (hlt : a.block < h.next) :
    callV E1 (m + len + 5) 408 [.int .u32 (.ofNat s), .slice (some a) len cap] h = some (.int .u32 (.ofNat (crcN s bs)), h2 h) := by
  have hB : (h2 h).get h.next = some (.cells tbl true none) := by rw [h2_get, if_pos rfl]
  have hr2 : rdN (h2 h) a len = some l := by
    unfold rdN at hr ⊢
    rw [h2_get, if_neg (by omega)]
    exact hr
  have hl : ∀ i c, bs[i]? = some c → loadV E1 5 (.pointer (some (a.add i))) (h2 h) = some (.int .u8 (.ofNat c)) := fun i c hc => by
    have hi : i < len := by have := (List.getElem?_eq_some_iff.1 hc).1; omega
    rw [load5 hr2 hi, hbs i c hc]
  have hx0 : 4294967295 ^^^ s < 4294967296 := xor_lt (by decide) hs
  obtain ⟨j8, j15, j16, j17, j18, j19, j20, j21, j22, j23, j24, j25, j26, j27, j28, j29, j30, j31, j32, hlp⟩ := loop_ok (call := callV E1 (m + len + 4)) (pl := fn191.plan) (g := m + len + 1) (a := a) (cap := cap) hB hb hlen h255 hl len 0 (4294967295 ^^^ s) (m + len + 4)
    (.int .u32 (.ofNat s)) (.slice (some a) len cap) undef undef (.int .u32 0) undef undef (.agg ⟨tbl⟩) (.int .u32 (.ofNat s)) (.int .u32 (.ofNat (4294967295 ^^^ s))) undef undef undef undef undef undef undef undef undef undef undef undef undef undef undef undef undef undef undef undef (by omega) hx0 (by omega)
  have hfold : ∀ (l : List Nat) (x : Nat), x < 4294967296 → (∀ c ∈ l, c ≤ 255) → l.foldl crcB x < 4294967296 := by
    intro l
    induction l with
    | nil => intro x hx _; exact hx
    | cons c l ih => intro x hx hc; exact ih _ (crcB_lt hx (hc c List.mem_cons_self)) (fun d hd => hc d (List.mem_cons_of_mem _ hd))
  have hfl := hfold bs _ hx0 h255
  have hun1 := fun (d : Option Tmp) (ty : TypeId) (t : Tmps) (h : Heap) (hx : evV t (.tmp 10) = .int .u32 (.ofNat s)) => ck_un (call := callV E1 (m + len + 4)) d ty t h (.tmp 10) hs hx
  have hun2 := fun (d : Option Tmp) (ty : TypeId) (t : Tmps) (h : Heap) (hx : evV t (.tmp 33) = .int .u32 (.ofNat (bs.foldl crcB (4294967295 ^^^ s)))) => ck_un (call := callV E1 (m + len + 4)) d ty t h (.tmp 33) hfl hx
  have hln := fun (d : Option Tmp) (ty : TypeId) (t : Tmps) (h : Heap) (hx : evV t (.tmp 12) = .slice (some a) len cap) => sk_len (call := callV E1 (m + len + 4)) d ty (.tmp 12) t h a len cap hx
  have hst := store263 h
  have hmr := fun h => memo_row h (m + len + 3)
  rw [List.drop_zero, show m + len + 1 + 3 = m + len + 4 from rfl] at hlp
  simp only at hlp
  rw [show Int.ofNat 0 = (0 : Int) from rfl] at hlp
  have hlp0 : iterV (codeT E1 (callV E1 (m + len + 4)) fn191.plan (m + len + 4) gOuter) (m + len + 4) _ = _ := hlp
  refine (call_slim (E := E1) (n := m + len + 4) (f := 408) (fn := fn191) [.int .u32 (.ofNat s), .slice (some a) len cap] h rfl e191 (g := gAll) g191 (s := ([Value.int .u32 (.ofNat s), Value.slice (some a) len cap, undef, undef, Value.int .u32 (.ofNat (crcN s bs)), Value.pointer (some ⟨h.next, 0, none⟩), Value.int .u32 (.ofNat (bs.foldl crcB (4294967295 ^^^ s))), undef, j8, Value.agg ⟨tbl⟩, Value.int .u32 (.ofNat s), Value.int .u32 (.ofNat (4294967295 ^^^ s)), Value.slice (some a) len cap, Value.int .i64 (.ofNat len), Value.int .i64 (.ofNat (len)), j15, j16, j17, j18, j19, j20, j21, j22, j23, j24, j25, j26, j27, j28, j29, j30, j31, j32, Value.int .u32 (.ofNat (bs.foldl crcB (4294967295 ^^^ s))), Value.int .u32 (.ofNat (crcN s bs))], h2 h)) (x := .ret) (l := [.int .u32 (.ofNat (crcN s bs))]) ?hc (.inr rfl) ?hr).trans ?fin
  case hc =>
    rw [n191]
    simp only [List.length_cons, List.length_nil, List.cons_append, List.nil_append, Nat.reduceAdd, Nat.reduceSub, List.replicate]
    unfold gAll
    simp only [ck_list, ck_seq, ck_block, ck_ret, seqK_normal, blockK_exit, endK_some, sk_nil, sk_cons', stK_some, sk_move, sk_assign, ev_tmp, ev_int, put_some, List.getD_cons_zero, List.getD_cons_succ, List.set_cons_zero, List.set_cons_succ, sk_call, hmr, List.map_toArray, List.map_nil, alloc263, sk_store, hst, heapK_some, put_none, hun1, hun2, hln, ck_loop, hlp0, if_true]
    rfl
  case hr => rw [r191]; rfl
  case fin => rfl
def tAt (j : Nat) : Nat := Nat.land (Nat.shiftRight 12749536319551302420830055290731983042906869231766370170184255228463894984119587222357463453493748006886229547019502462691509165827871124329361635492757504 (Nat.mul 32 j)) 4294967295
theorem tAt_eq {j : Nat} (hj : j < 16) : tAt j = tblN.getD j 0 := by
  have : ∀ j : Fin 16, tAt j.val = tblN.getD j.val 0 := by decide
  exact this ⟨j, hj⟩
def halfF (x : Nat) : Nat := Nat.xor (Nat.shiftRight x 4) (tAt (Nat.land x 15))
theorem halfF_eq (x : Nat) : halfF x = half x := by
  unfold halfF half
  rw [show Nat.land x 15 = x &&& 15 from rfl, tAt_eq (and15 x)]
  rfl
noncomputable def forceN {α : Type} (x : Nat) (k : Nat → α) : α := Nat.rec (k 0) (fun m _ => k (Nat.succ m)) x
theorem forceN_eq {α : Type} (x : Nat) (k : Nat → α) : forceN x k = k x := by cases x <;> rfl
noncomputable def byteK (v : Value) (k : Nat → Option Nat) : Option Nat :=
  match v with
  | .int .u8 (.ofNat c) => Bool.rec none (k c) (Nat.ble c 255)
  | _ => none
noncomputable def crcL (l : List Value) : Nat → Option Nat :=
  List.rec (fun x => some x) (fun v _ ih x => byteK v fun c => forceN (halfF (halfF (Nat.xor x c))) ih) l
theorem crcL_inv : ∀ (l : List Value) (x y : Nat), crcL l x = some y → ∃ bs : List Nat, bs.length = l.length ∧ (∀ c ∈ bs, c ≤ 255) ∧ (∀ (i c : Nat), bs[i]? = some c → l[i]? = some (Value.int .u8 (.ofNat c))) ∧ y = bs.foldl crcB x := by
  intro l
  induction l with
  | nil => intro x y h; exact ⟨[], rfl, fun _ h => absurd h (by simp), fun i c h => by simp at h, by have h : some x = some y := h; cases h; rfl⟩
  | cons v l ih =>
    intro x y h
    have h : byteK v (fun c => forceN (halfF (halfF (Nat.xor x c))) (crcL l)) = some y := h
    unfold byteK at h
    split at h
    · rename_i c _
      cases hc : Nat.ble c 255 with
      | false => rw [hc] at h; cases h
      | true =>
        rw [hc] at h
        have h : forceN (halfF (halfF (Nat.xor x c))) (crcL l) = some y := h
        rw [forceN_eq, halfF_eq, halfF_eq] at h
        obtain ⟨bs, h1, h2, h3, h4⟩ := ih _ _ h
        refine ⟨c :: bs, by simp [h1], fun d hd => ?_, fun i d hd => ?_, h4⟩
        · rcases List.mem_cons.1 hd with rfl | hd
          · exact Nat.le_of_ble_eq_true hc
          · exact h2 d hd
        · cases i with
          | zero => simp at hd; subst hd; rfl
          | succ i => simpa using h3 i d (by simpa using hd)
    · cases h
noncomputable def rowF (h : Heap) (a : Addr) (len : Nat) : Option (List Value) :=
  match a.spot with
  | none => match getR a.block h.tr with
    | some (.cells cs _ _) => if a.off + len ≤ cs.length then some ((dropR a.off cs).take len) else none
    | _ => none
  | some _ => none
theorem dropR_eq : ∀ (i : Nat) (l : List Value), dropR i l = l.drop i := by
  intro i
  induction i with
  | zero => intro l; rfl
  | succ i ih => intro l; cases l with
    | nil => rfl
    | cons v r => exact ih r
theorem rowF_eq (h : Heap) (a : Addr) (len : Nat) : rowF h a len = rdN h a len := by
  unfold rowF rdN
  cases a.spot with
  | some s => cases h.get a.block <;> rfl
  | none =>
    simp only [getR_eq]
    cases h.get a.block with
    | none => rfl
    | some b => cases b <;> first | rfl | (simp only [dropR_eq])
noncomputable def setF (h : Heap) (b : Nat) (o : Blk) : Heap := { next := h.next, tr := putR (some o) b h.tr }
noncomputable def crcV (args : List Value) (h : Heap) : Option (Value × Heap) :=
  match args with
  | [.int .u32 (.ofNat s), .slice (some a) len _] =>
    if s < 4294967296 ∧ len < 1099511627776 ∧ a.block < h.next then
      match rowF h a len with
      | some l => match crcL l (Nat.xor 4294967295 s) with
        | some y => some (.int .u32 (.ofNat (Nat.xor 4294967295 y)), setF (newF h (.cells zs true none)) h.next (.cells tbl true none))
        | none => none
      | none => none
    else none
  | _ => none
theorem crcV_ok : ∀ args h r, crcV args h = some r → ∃ n, callV E1 n 408 args h = some r := by
  intro args h r hr
  unfold crcV at hr
  split at hr
  · rename_i s a len cap
    split at hr
    · rename_i hc
      split at hr
      · rename_i l hl
        split at hr
        · rename_i y hy
          cases hr
          obtain ⟨bs, h1, h2', h3, h4⟩ := crcL_inv _ _ _ hy
          rw [rowF_eq] at hl
          have hlen : l.length = len := by
            unfold rdN at hl
            split at hl
            · split at hl
              · cases hl; simp only [List.length_take, List.length_drop]; omega
              · cases hl
            · cases hl
          refine ⟨0 + len + 5, ?_⟩
          rw [go_ok (m := 0) hc.1 hc.2.1 (by omega) h2' hl h3 hc.2.2]
          subst h4
          unfold setF h2
          rw [setR_heap, newF_eq]
          rfl
        · cases hr
      · cases hr
    · cases hr
  · cases hr
noncomputable def E2 : Env := E1.tell 408 crcV
theorem ok2 {K : Known} : EnvOk K Tryz.prog E2 := tell_ok ok1 (ext_of ok1 crcV_ok)
def gOvT : SCode := .list [⟨some 14, (.move (.tmp 0)), 466, none⟩,
      ⟨some 15, (.binOp .quo 466 (.tmp 14) (.const (.int .u32 2)) 466), 466, none⟩,
      ⟨some 16, (.binOp .xor 466 (.tmp 15) (.const (.int .u32 2197175160)) 466), 466, none⟩,
      ⟨some 0, (.assign (.tmp 16)), 466, none⟩]
def gOvF : SCode := .list [⟨some 17, (.move (.tmp 0)), 466, none⟩,
      ⟨some 18, (.binOp .quo 466 (.tmp 17) (.const (.int .u32 2)) 466), 466, none⟩,
      ⟨some 0, (.assign (.tmp 18)), 466, none⟩]
def gOvB : SCode := .seq (.seq (.list [⟨some 6, (.move (.tmp 5)), 3, none⟩,
    ⟨some 7, (.move (.tmp 1)), 3, none⟩,
    ⟨some 8, (.binOp .lss 3 (.tmp 6) (.tmp 7) 3), 4, none⟩])
    (.cond (.tmp 8) (.skip) (.exit 0)))
    (.seq (.block 1 (.seq (.list [⟨some 11, (.move (.tmp 0)), 466, none⟩,
     ⟨some 12, (.binOp .rem 466 (.tmp 11) (.const (.int .u32 2)) 466), 466, none⟩,
     ⟨some 13, (.binOp .eql 466 (.tmp 12) (.const (.int .u32 1)) 466), 4, none⟩])
     (.cond (.tmp 13) gOvT gOvF)))
    (.list [⟨some 9, (.move (.tmp 5)), 3, none⟩,
    ⟨some 10, (.binOp .add 3 (.tmp 9) (.const (.int .i64 1)) 3), 3, none⟩,
    ⟨some 5, (.assign (.tmp 10)), 3, none⟩]))
def gOv : SCode := .seq (.list [⟨some 4, (.assign (.const (.int .u32 0))), 466, none⟩])
  (.seq (.seq (.list [⟨some 5, (.assign (.const (.int .i64 0))), 3, none⟩])
  (.block 0 (.loop gOvB)))
  (.seq (.list [⟨some 19, (.move (.tmp 0)), 466, none⟩,
  ⟨some 4, (.assign (.tmp 19)), 466, none⟩])
  (.ret)))
noncomputable def fnOv : Fun := (E2.fn 409).getD ⟨Tryz.f409, .skip, fun _ => none⟩
theorem eOv : E2.fn 409 = some fnOv := by kernel_rfl
theorem gOv_is : slimC fnOv.body = gOv := by kernel_rfl
theorem nOv : fnOv.fn.ntmps = 20 := by kernel_rfl
theorem rOv : fnOv.fn.results.toList = [.tmp 4] := by kernel_rfl
noncomputable def ovS (x : Nat) : Nat := Bool.rec (Nat.div x 2) (Nat.xor (Nat.div x 2) 2197175160) (Nat.beq (Nat.mod x 2) 1)
noncomputable def ovN (n : Nat) : Nat → Nat := Nat.rec (fun x => x) (fun _ ih x => ih (ovS x)) n
theorem ovS_lt {x : Nat} (hx : x < 4294967296) : ovS x < 4294967296 := by
  have h2 : x / 2 < 4294967296 := by omega
  show Bool.rec (motive := fun _ => Nat) (x / 2) ((x / 2) ^^^ 2197175160) (Nat.beq (x % 2) 1) < 4294967296
  cases Nat.beq (x % 2) 1 with
  | false => exact h2
  | true => exact xor_lt h2 (by decide)
theorem quoN {x : Nat} (hx : x < 4294967296) : arithV .quo .u32 (.ofNat x) 2 = some (.int .u32 (.ofNat (x / 2))) := by
  have h1 : (Int.ofNat x).tdiv 2 = Int.ofNat (x / 2) := rfl
  have h2 : IntKind.u32.wrap (Int.ofNat (x / 2)) = Int.ofNat (x / 2) := wrap_pos .u32 _ (by show x / 2 ≤ 4294967295; omega)
  unfold arithV
  simp only [h1, h2]
  rfl
theorem remN (x : Nat) : arithV .rem .u32 (.ofNat x) 2 = some (.int .u32 (.ofNat (x % 2))) := by
  have h1 : (Int.ofNat x).tmod 2 = Int.ofNat (x % 2) := rfl
  unfold arithV
  simp only [h1]
  rfl
theorem eql1 (x : Nat) : arithV .eql .u32 (.ofNat x) 1 = some (.bool (Nat.beq x 1)) := by
  rw [ar_eql]
  congr 2
  show (Int.ofNat x == Int.ofNat 1) = Nat.beq x 1
  by_cases h : x = 1
  · subst h; rfl
  · have h1 : ¬ Int.ofNat x = Int.ofNat 1 := fun q => h (Int.ofNat.inj q)
    have h2 : Nat.beq x 1 = false := by
      cases hb : Nat.beq x 1 with
      | false => rfl
      | true => exact absurd (Nat.eq_of_beq_eq_true hb) h
    rw [beq_eq_false_iff_ne.2 h1, h2]
theorem ov_body {pl : Nat → Option Plan} {fuel x n i : Nat} {h : Heap} (hx : x < 4294967296) (hi : i < n) (hn : n < 1099511627776) (t2 t3 t4 t6 t7 t8 t9 t10 t11 t12 t13 t14 t15 t16 t17 t18 t19 : Value) :
    ∃ j14 j15 j16 j17 j18 : Value, codeT E2 call pl fuel gOvB ([Value.int .u32 (.ofNat x), Value.int .i64 (.ofNat n), t2, t3, t4, Value.int .i64 (.ofNat i), t6, t7, t8, t9, t10, t11, t12, t13, t14, t15, t16, t17, t18, t19], h) =
      some (.normal, ([Value.int .u32 (.ofNat (ovS x)), Value.int .i64 (.ofNat n), t2, t3, t4, Value.int .i64 (.ofNat (i + 1)), Value.int .i64 (.ofNat i), Value.int .i64 (.ofNat n), Value.bool true, Value.int .i64 (.ofNat i), Value.int .i64 (.ofNat (i + 1)), Value.int .u32 (.ofNat x), Value.int .u32 (.ofNat (x % 2)), Value.bool (Nat.beq (x % 2) 1), j14, j15, j16, j17, j18, t19], h)) := by
  have c0 : decide (Int.ofNat i < Int.ofNat n) = true := decide_eq_true (by simpa using hi)
  have hwi := wi (i := i) (by omega)
  have hq := quoN hx
  have hr := remN x
  have he := eql1 (x % 2)
  have h2 : x / 2 < 4294967296 := by omega
  have hxr : arithV .xor .u32 (.ofNat (x / 2)) 2197175160 = some (.int .u32 (.ofNat (x / 2 ^^^ 2197175160))) := xorN h2 (by decide)
  cases hb : Nat.beq (x % 2) 1 with
  | true =>
    have hs : ovS x = x / 2 ^^^ 2197175160 := by
      show Bool.rec (motive := fun _ => Nat) (x / 2) ((x / 2) ^^^ 2197175160) (Nat.beq (x % 2) 1) = _
      rw [hb]
    rw [hs]
    rw [hb] at he
    refine ⟨Value.int .u32 (.ofNat x), Value.int .u32 (.ofNat (x / 2)), Value.int .u32 (.ofNat (x / 2 ^^^ 2197175160)), t17, t18, ?_⟩
    unfold gOvB gOvT
    simp only [ck_skip, ck_list, ck_seq, ck_cond, ck_block, seqK_normal, condK_true, blockK_normal, endK_some, sk_nil, sk_cons', stK_some, atH_some, sk_move, sk_assign, sk_bin, bin_int, ev_tmp, ev_int, put_some, List.getD_cons_zero, List.getD_cons_succ, List.set_cons_zero, List.set_cons_succ, ar_lss, ar_add, c0, hwi, hq, hr, he, hxr]
  | false =>
    have hs : ovS x = x / 2 := by
      show Bool.rec (motive := fun _ => Nat) (x / 2) ((x / 2) ^^^ 2197175160) (Nat.beq (x % 2) 1) = _
      rw [hb]
    rw [hs]
    rw [hb] at he
    refine ⟨t14, t15, t16, Value.int .u32 (.ofNat x), Value.int .u32 (.ofNat (x / 2)), ?_⟩
    unfold gOvB gOvF
    simp only [ck_skip, ck_list, ck_seq, ck_cond, ck_block, seqK_normal, condK_true, condK_false, blockK_normal, endK_some, sk_nil, sk_cons', stK_some, atH_some, sk_move, sk_assign, sk_bin, bin_int, ev_tmp, ev_int, put_some, List.getD_cons_zero, List.getD_cons_succ, List.set_cons_zero, List.set_cons_succ, ar_lss, ar_add, c0, hwi, hq, hr, he]
theorem ov_loop {pl : Nat → Option Plan} {fuel n : Nat} {h : Heap} (hn : n < 1099511627776) : ∀ (k i x K : Nat) (t2 t3 t4 t6 t7 t8 t9 t10 t11 t12 t13 t14 t15 t16 t17 t18 t19 : Value), i + k = n → x < 4294967296 → k < K →
    ∃ j6 j7 j8 j9 j10 j11 j12 j13 j14 j15 j16 j17 j18 : Value, iterV (codeT E2 call pl fuel gOvB) K ([Value.int .u32 (.ofNat x), Value.int .i64 (.ofNat n), t2, t3, t4, Value.int .i64 (.ofNat i), t6, t7, t8, t9, t10, t11, t12, t13, t14, t15, t16, t17, t18, t19], h) =
      some (.exit 0, ([Value.int .u32 (.ofNat (ovN k x)), Value.int .i64 (.ofNat n), t2, t3, t4, Value.int .i64 (.ofNat n), j6, j7, j8, j9, j10, j11, j12, j13, j14, j15, j16, j17, j18, t19], h)) := by
  intro k
  induction k with
  | zero =>
    intro i x K t2 t3 t4 t6 t7 t8 t9 t10 t11 t12 t13 t14 t15 t16 t17 t18 t19 hi hx hK
    obtain ⟨K, rfl⟩ : ∃ q, K = q + 1 := ⟨K - 1, by omega⟩
    have hi : n = i := by omega
    subst hi
    have c0 : decide (Int.ofNat n < Int.ofNat n) = false := decide_eq_false (by simp)
    refine ⟨Value.int .i64 (.ofNat n), Value.int .i64 (.ofNat n), .bool false, t9, t10, t11, t12, t13, t14, t15, t16, t17, t18, ?_⟩
    have hs : codeT E2 call pl fuel gOvB ([Value.int .u32 (.ofNat x), Value.int .i64 (.ofNat n), t2, t3, t4, Value.int .i64 (.ofNat n), t6, t7, t8, t9, t10, t11, t12, t13, t14, t15, t16, t17, t18, t19], h) =
        some (.exit 0, ([Value.int .u32 (.ofNat x), Value.int .i64 (.ofNat n), t2, t3, t4, Value.int .i64 (.ofNat n), Value.int .i64 (.ofNat n), Value.int .i64 (.ofNat n), .bool false, t9, t10, t11, t12, t13, t14, t15, t16, t17, t18, t19], h)) := by
      unfold gOvB
      simp only [ck_list, ck_seq, ck_cond, ck_exit, seqK_normal, seqK_exit, condK_false, endK_some, sk_nil, sk_cons', stK_some, atH_some, sk_move, sk_bin, bin_int, ev_tmp, put_some, List.getD_cons_zero, List.getD_cons_succ, List.set_cons_zero, List.set_cons_succ, ar_lss, c0]
    unfold iterV
    rw [hs]
    rfl
  | succ k ih =>
    intro i x K t2 t3 t4 t6 t7 t8 t9 t10 t11 t12 t13 t14 t15 t16 t17 t18 t19 hi hx hK
    obtain ⟨K, rfl⟩ : ∃ q, K = q + 1 := ⟨K - 1, by omega⟩
    obtain ⟨j14, j15, j16, j17, j18, hb⟩ := ov_body (call := call) (pl := pl) (fuel := fuel) (h := h) hx (show i < n by omega) hn t2 t3 t4 t6 t7 t8 t9 t10 t11 t12 t13 t14 t15 t16 t17 t18 t19
    obtain ⟨k6, k7, k8, k9, k10, k11, k12, k13, k14, k15, k16, k17, k18, hr⟩ := ih (i + 1) (ovS x) K t2 t3 t4 (Value.int .i64 (.ofNat i)) (Value.int .i64 (.ofNat n)) (Value.bool true) (Value.int .i64 (.ofNat i)) (Value.int .i64 (.ofNat (i + 1))) (Value.int .u32 (.ofNat x)) (Value.int .u32 (.ofNat (x % 2))) (Value.bool (Nat.beq (x % 2) 1)) j14 j15 j16 j17 j18 t19 (by omega) (ovS_lt hx) (by omega)
    refine ⟨k6, k7, k8, k9, k10, k11, k12, k13, k14, k15, k16, k17, k18, ?_⟩
    unfold iterV
    rw [hb]
    exact hr
theorem over_eq {x n : Nat} {h : Heap} (hx : x < 4294967296) (hn : n < 1099511627776) : callV E2 (n + 5) 409 [.int .u32 (.ofNat x), .int .i64 (.ofNat n)] h = some (.int .u32 (.ofNat (ovN n x)), h) := by
  obtain ⟨j6, j7, j8, j9, j10, j11, j12, j13, j14, j15, j16, j17, j18, hlp⟩ := ov_loop (call := callV E2 (n + 4)) (pl := fnOv.plan) (fuel := n + 4) (h := h) hn n 0 x (n + 4) undef undef (.int .u32 0) undef undef undef undef undef undef undef undef undef undef undef undef undef undef (by omega) hx (by omega)
  rw [show Int.ofNat 0 = (0 : Int) from rfl] at hlp
  refine (call_slim (E := E2) (n := n + 4) (f := 409) (fn := fnOv) [.int .u32 (.ofNat x), .int .i64 (.ofNat n)] h rfl eOv (g := gOv) gOv_is (s := ([Value.int .u32 (.ofNat (ovN n x)), Value.int .i64 (.ofNat n), undef, undef, Value.int .u32 (.ofNat (ovN n x)), Value.int .i64 (.ofNat n), j6, j7, j8, j9, j10, j11, j12, j13, j14, j15, j16, j17, j18, Value.int .u32 (.ofNat (ovN n x))], h)) (x := .ret) (l := [.int .u32 (.ofNat (ovN n x))]) ?hc (.inr rfl) ?hr).trans ?fin
  case hc =>
    rw [nOv]
    simp only [List.length_cons, List.length_nil, List.cons_append, List.nil_append, Nat.reduceAdd, Nat.reduceSub, List.replicate]
    unfold gOv
    simp only [ck_list, ck_seq, ck_block, ck_ret, seqK_normal, blockK_exit, endK_some, sk_nil, sk_cons', stK_some, sk_move, sk_assign, ev_tmp, ev_int, put_some, List.getD_cons_zero, List.getD_cons_succ, List.set_cons_zero, List.set_cons_succ, ck_loop, hlp, if_true]
  case hr => rw [rOv]; rfl
  case fin => rfl
noncomputable def overV (args : List Value) (h : Heap) : Option (Value × Heap) :=
  match args with
  | [.int .u32 (.ofNat x), .int .i64 (.ofNat n)] => Bool.rec none (Bool.rec none (forceN (ovN n x) fun y => some (.int .u32 (.ofNat y), h)) (Nat.ble n 64)) (Nat.ble x 4294967295)
  | _ => none
theorem overV_ok : ∀ args h r, overV args h = some r → ∃ n, callV E2 n 409 args h = some r := by
  intro args h r hr
  unfold overV at hr
  split at hr
  · rename_i x n
    cases h1 : Nat.ble x 4294967295 with
    | false => rw [h1] at hr; cases hr
    | true =>
      cases h2 : Nat.ble n 64 with
      | false => rw [h1, h2] at hr; cases hr
      | true =>
        rw [h1, h2] at hr
        have hr : forceN (ovN n x) (fun y => some (Value.int .u32 (.ofNat y), h)) = some r := hr
        rw [forceN_eq] at hr
        cases hr
        have h1 := Nat.le_of_ble_eq_true h1
        have h2 := Nat.le_of_ble_eq_true h2
        exact ⟨n + 5, over_eq (by omega) (by omega)⟩
  · cases hr
noncomputable def E2o : Env := E2.tell 409 overV
theorem ok2o {K : Known} : EnvOk K Tryz.prog E2o := tell_ok ok2 (ext_of ok2 overV_ok)
end Go.Proofs.YtenhhbammadpbaaGreatDoor.C
