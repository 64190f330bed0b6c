/- Nm0: what the document's answer makes of numbers: figures, and a name of two of them: by the interpreter's equations, for any environment. -/
import Derived.Test.YtkloflhiipebmaaDoorVgE
import Derived.Test.YtkloflhiipebmaaDoorVgD
import Derived.Lib.ItoaNum
import Derived.Laws.BitsLemmas
import Derived.Laws.Bits64
open Go Go.Vi
namespace Go.Nm
def c10 : ByteArray := ⟨⟨[48, 49, 50, 51, 52, 53, 54, 55, 56, 57]⟩⟩
theorem ev_str (t : Tmps) (s : ByteArray) : evV t (.const (.string s)) = .string s := rfl
theorem bin_str {E : Env} (op : BinOp) (t : TypeId) (c : Bool) (a b : ByteArray) : binV E op t c (.string a) (.string b) = strV op a b := by
  unfold binV
  rfl
theorem un_neg {k : IntKind} (n : Int) : unV .neg (.int k n) = some (.int k (k.wrap (0 - n))) := rfl
theorem size_strOf (l : List UInt8) : (strOf l).size = l.length := rfl
theorem strL_of (l : List UInt8) : strL (strOf l) = l := rfl
theorem add_str {a b : List UInt8} (h : a.length + b.length ≤ 1000) : strV .add (strOf a) (strOf b) = some (.string (strOf (a ++ b))) := by
  unfold strV
  simp only
  rw [if_pos (by rw [size_strOf, size_strOf]; omega), strL_of, strL_of]
theorem decDigits_len : ∀ (k u : Nat), u < 10 ^ (k + 1) → (Lib.decDigits u).length ≤ k + 1 := by
  intro k
  induction k with
  | zero =>
    intro u hu
    rw [Lib.decDigits, dif_pos (by omega)]
    simp
  | succ k ih =>
    intro u hu
    rw [Lib.decDigits]
    split
    · simp
    · rw [List.length_append]
      have := ih (u / 10) (by rw [Nat.pow_succ] at hu; omega)
      simp only [List.length_cons, List.length_nil]
      omega
theorem lt20 {u : Nat} (h : u < 18446744073709551616) : u < 10 ^ (19 + 1) := by
  have : (10 : Nat) ^ (19 + 1) = 100000000000000000000 := by decide
  omega
theorem slice_dig {E : Env} {S : TypeId} {i : Ty} (hS : E.ty S = some i) (hu : i.under = .string) {u : Nat} (h : u < 10) :
    sliceV E S (.string c10) (some (.int .u64 (.ofNat u))) (some (.int .u64 (.ofNat (u + 1)))) none = some (.string (strOf [UInt8.ofNat (48 + u)])) := by
  unfold sliceV
  simp only [hS, hu, Option.bind_eq_bind, Option.bind_some]
  match u, h with
  | 0, _ | 1, _ | 2, _ | 3, _ | 4, _ | 5, _ | 6, _ | 7, _ | 8, _ | 9, _ => rfl
/-- the slim code of 'unsigned'. -/
def gU (F S U B : Nat) : SCode := .seq (.list [⟨some 2, (.assign (.const (.string (strOf [])))), S, none⟩])
  (.seq (.seq (.list [⟨some 3, (.move (.tmp 0)), U, none⟩,
  ⟨some 4, (.binOp .lss U (.tmp 3) (.const (.int .u64 10)) U), B, none⟩])
  (.cond (.tmp 4) (.seq (.list [⟨some 5, (.move (.tmp 0)), U, none⟩,
   ⟨some 6, (.move (.tmp 0)), U, none⟩,
   ⟨some 7, (.binOp .add U (.tmp 6) (.const (.int .u64 1)) U), U, none⟩,
   ⟨some 8, (.slice S (.const (.string c10)) (some (.tmp 5)) (some (.tmp 7)) none), S, none⟩,
   ⟨some 2, (.assign (.tmp 8)), S, none⟩])
   (.ret)) (.skip)))
  (.seq (.list [⟨some 9, (.move (.tmp 0)), U, none⟩,
  ⟨some 10, (.binOp .quo U (.tmp 9) (.const (.int .u64 10)) U), U, none⟩,
  ⟨some 11, (.call ⟨.value (.func F), #[(.tmp 10)], #[U]⟩), S, none⟩,
  ⟨some 12, (.move (.tmp 0)), U, none⟩,
  ⟨some 13, (.binOp .rem U (.tmp 12) (.const (.int .u64 10)) U), U, none⟩,
  ⟨some 14, (.call ⟨.value (.func F), #[(.tmp 13)], #[U]⟩), S, none⟩,
  ⟨some 15, (.binOp .add S (.tmp 11) (.tmp 14) S), S, none⟩,
  ⟨some 2, (.assign (.tmp 15)), S, none⟩])
  (.ret)))
section
variable {E : Env} {F S U B : Nat} {fn : Fun} {i : Ty}
theorem lss_u {u : Nat} (h : u < 10) : arithV .lss .u64 (.ofNat u) 10 = some (.bool true) := by
  have : decide ((Int.ofNat u) < 10) = true := decide_eq_true (by show (u : Int) < 10; omega)
  rw [ar_lss, this]
theorem lss_u' {u : Nat} (h : ¬ u < 10) : arithV .lss .u64 (.ofNat u) 10 = some (.bool false) := by
  have : decide ((Int.ofNat u) < 10) = false := decide_eq_false (by show ¬ (u : Int) < 10; omega)
  rw [ar_lss, this]
theorem add_u {u : Nat} (h : u + 1 < 18446744073709551616) : arithV .add .u64 (.ofNat u) 1 = some (.int .u64 (.ofNat (u + 1))) := by
  have h1 : (Int.ofNat u + 1) = Int.ofNat (u + 1) := rfl
  unfold arithV
  simp only [h1, wrap_pos .u64 (u + 1) (by show u + 1 ≤ 18446744073709551615; omega)]
theorem quo_u {u : Nat} (h : u < 18446744073709551616) : arithV .quo .u64 (.ofNat u) 10 = some (.int .u64 (.ofNat (u / 10))) := by
  have h1 : (Int.ofNat u).tdiv 10 = Int.ofNat (u / 10) := rfl
  unfold arithV
  simp only [h1, wrap_pos .u64 (u / 10) (by show u / 10 ≤ 18446744073709551615; omega)]
  rfl
theorem rem_u (u : Nat) : arithV .rem .u64 (.ofNat u) 10 = some (.int .u64 (.ofNat (u % 10))) := by
  have h1 : (Int.ofNat u).tmod 10 = Int.ofNat (u % 10) := rfl
  unfold arithV
  simp only [h1]
  rfl
theorem call_map (t : Tmps) (k : Nat) : (#[Operand.tmp k].map (evV t)).toList = [t.getD k undef] := by simp [evV]
theorem callR_no {call : CallV} {F : Nat} (hr : E.row F = none) (args : List Value) (h : Heap) : callR E call F args h = call.fn F args h := by unfold callR; rw [hr]
theorem unsigned_eq (hx : E.ext F = none) (hr : E.row F = none) (hf : E.fn F = some fn) (hg : slimC fn.body = gU F S U B) (hn : fn.fn.ntmps = 16) (hres : fn.fn.results.toList = [.tmp 2]) (hS : E.ty S = some i) (hu : i.under = .string) :
    ∀ (k u : Nat), u < 10 ^ (k + 1) → u < 18446744073709551616 → ∀ (n : Nat) (h : Heap), callV E (n + k + 1) F [.int .u64 (.ofNat u)] h = some (.string (strOf (Lib.decDigits u)), h) := by
  have small : ∀ (u : Nat), u < 10 → ∀ (n : Nat) (h : Heap), callV E (n + 1) F [.int .u64 (.ofNat u)] h = some (.string (strOf (Lib.decDigits u)), h) := by
    intro u h10 n h
    have hd : Lib.decDigits u = [UInt8.ofNat (48 + u)] := by rw [Lib.decDigits, dif_pos h10]
    rw [hd]
    refine call_slim (E := E) (n := n) (f := F) (fn := fn) [.int .u64 (.ofNat u)] h hx hf hg (s := ([Value.int .u64 (.ofNat u), undef, .string (strOf [UInt8.ofNat (48 + u)]), .int .u64 (.ofNat u), .bool true, .int .u64 (.ofNat u), .int .u64 (.ofNat u), .int .u64 (.ofNat (u + 1)),
      .string (strOf [UInt8.ofNat (48 + u)]), undef, undef, undef, undef, undef, undef, undef], h)) (x := .ret) (l := [.string (strOf [UInt8.ofNat (48 + u)])]) ?_ (.inr rfl) ?_
    · rw [hn]
      simp only [List.length_cons, List.length_nil, List.cons_append, List.nil_append, Nat.reduceAdd, Nat.reduceSub, List.replicate]
      unfold gU
      simp only [ck_list, ck_seq, ck_cond, ck_ret, seqK_normal, seqK_ret, condK_true, endK_some, sk_nil, sk_cons', stK_some, sk_move, sk_assign, sk_bin, sk_slice, ev_tmp, ev_int, ev_str, bin_int, lss_u h10, add_u (show u + 1 < 18446744073709551616 by omega), atH_some, put_some,
        List.getD_cons_zero, List.getD_cons_succ, List.set_cons_zero, List.set_cons_succ, Option.map_some, Option.map_none, slice_dig hS hu h10, orK]
    · rw [hres]; rfl
  intro k
  induction k with
  | zero => intro u h1 _ n h; exact small u (by simpa using h1) n h
  | succ k ih =>
    intro u h1 h2 n h
    by_cases h10 : u < 10
    · exact small u h10 (n + (k + 1)) h
    · have hd : Lib.decDigits u = Lib.decDigits (u / 10) ++ Lib.decDigits (u % 10) := by
        rw [Lib.decDigits, dif_neg h10]
        congr 1
        rw [Lib.decDigits, dif_pos (by omega)]
      have l1 := decDigits_len 19 (u / 10) (lt20 (by omega))
      have l2 := decDigits_len 19 (u % 10) (lt20 (by omega))
      have c1 := ih (u / 10) (by rw [Nat.pow_succ] at h1; omega) (by omega) n h
      have c2 := ih (u % 10) (by have : 10 ^ 1 ≤ 10 ^ (k + 1) := Nat.pow_le_pow_right (by omega) (by omega); omega) (by omega) n h
      rw [hd]
      refine call_slim (E := E) (n := n + k + 1) (f := F) (fn := fn) [.int .u64 (.ofNat u)] h hx hf hg (s := ([Value.int .u64 (.ofNat u), undef, .string (strOf (Lib.decDigits (u / 10) ++ Lib.decDigits (u % 10))), .int .u64 (.ofNat u), .bool false, undef, undef, undef,
        undef, .int .u64 (.ofNat u), .int .u64 (.ofNat (u / 10)), .string (strOf (Lib.decDigits (u / 10))), .int .u64 (.ofNat u), .int .u64 (.ofNat (u % 10)), .string (strOf (Lib.decDigits (u % 10))), .string (strOf (Lib.decDigits (u / 10) ++ Lib.decDigits (u % 10)))], h)) (x := .ret)
        (l := [.string (strOf (Lib.decDigits (u / 10) ++ Lib.decDigits (u % 10)))]) ?_ (.inr rfl) ?_
      · rw [hn]
        simp only [List.length_cons, List.length_nil, List.cons_append, List.nil_append, Nat.reduceAdd, Nat.reduceSub, List.replicate]
        unfold gU
        simp only [ck_list, ck_seq, ck_cond, ck_ret, ck_skip, seqK_normal, condK_false, endK_some, sk_nil, sk_cons', stK_some, sk_move, sk_assign, sk_bin, sk_call, callR_no hr, call_map, ev_tmp, ev_int, ev_str, bin_int, bin_str, lss_u' h10, quo_u h2, rem_u, c1, c2,
          add_str (show (Lib.decDigits (u / 10)).length + (Lib.decDigits (u % 10)).length ≤ 1000 by omega), atH_some, put_some, List.getD_cons_zero, List.getD_cons_succ, List.set_cons_zero, List.set_cons_succ]
      · rw [hres]; rfl
/-! ## figures, Name -/
def convR (E : Env) (call : CallV) (s d : TypeId) (v : Value) (h : Heap) : Option (Value × Heap) := stepV E call (SOp.o ⟨none, .convert s d (.tmp 0), 0, none⟩) ([v], h)
theorem sk_conv (call : CallV) (d : Option Tmp) (ty s d2 : TypeId) (x : Operand) (t : Tmps) (h : Heap) : stepV E call (SOp.o ⟨d, .convert s d2 x, ty, none⟩) (t, h) = convR E call s d2 (evV t x) h := rfl
theorem conv_iu {call : CallV} {I U : TypeId} {a b : Ty} {k : IntKind} (hne : I ≠ U) (hI : E.ty I = some a) (hIu : a.under = .int k) (hU : E.ty U = some b) (hUu : b.under = .int .u64) (k' : IntKind) (n : Int) (h : Heap) :
    convR E call I U (.int k' n) h = some (.int .u64 (IntKind.u64.wrap n), h) := by
  unfold convR stepV pureV SOp.o
  have hv : convV E I U (evV [Value.int k' n] (.tmp 0)) = some (.int .u64 (IntKind.u64.wrap n)) := by
    show convV E I U (.int k' n) = _
    unfold convV
    simp only [hI, hU, hIu, hUu, Option.bind_eq_bind, Option.bind_some]
  simp only [if_neg hne, hv]
def gFig (F S I U B : Nat) : SCode := .seq (.list [⟨some 2, (.assign (.const (.string (strOf [])))), S, none⟩])
  (.seq (.seq (.list [⟨some 4, (.move (.tmp 0)), I, none⟩,
  ⟨some 5, (.binOp .lss I (.tmp 4) (.const (.int .i64 0)) I), B, none⟩])
  (.cond (.tmp 5) (.seq (.list [⟨some 6, (.move (.tmp 0)), I, none⟩,
   ⟨some 7, (.binOp .add I (.tmp 6) (.const (.int .i64 1)) I), I, none⟩,
   ⟨some 8, (.unOp .neg I (.tmp 7)), I, none⟩,
   ⟨some 9, (.convert I U (.tmp 8)), U, none⟩,
   ⟨some 10, (.binOp .add U (.tmp 9) (.const (.int .u64 1)) U), U, none⟩,
   ⟨some 3, (.assign (.tmp 10)), U, none⟩])
   (.seq (.list [⟨some 11, (.move (.tmp 3)), U, none⟩,
   ⟨some 12, (.call ⟨.value (.func F), #[(.tmp 11)], #[U]⟩), S, none⟩,
   ⟨some 13, (.binOp .add S (.const (.string (strOf [45]))) (.tmp 12) S), S, none⟩,
   ⟨some 2, (.assign (.tmp 13)), S, none⟩])
   (.ret))) (.skip)))
  (.seq (.list [⟨some 14, (.move (.tmp 0)), I, none⟩,
  ⟨some 15, (.convert I U (.tmp 14)), U, none⟩,
  ⟨some 16, (.call ⟨.value (.func F), #[(.tmp 15)], #[U]⟩), S, none⟩,
  ⟨some 2, (.assign (.tmp 16)), S, none⟩])
  (.ret)))
theorem figures_eq {G I : Nat} {fg : Fun} {a b : Ty} {k0 : IntKind} (hc : ∀ (u : Nat), u < 18446744073709551616 → ∀ (n : Nat) (h : Heap), callV E (n + 20) F [.int .u64 (.ofNat u)] h = some (.string (strOf (Lib.decDigits u)), h)) (hr : E.row F = none)
    (hx : E.ext G = none) (hf : E.fn G = some fg) (hg : slimC fg.body = gFig F S I U B) (hn : fg.fn.ntmps = 17) (hres : fg.fn.results.toList = [.tmp 2]) (hne : I ≠ U) (hI : E.ty I = some a) (hIu : a.under = .int k0) (hU : E.ty U = some b) (hUu : b.under = .int .u64)
    (z : Int) (h0 : -9223372036854775808 ≤ z) (h1 : z ≤ 9223372036854775807) (n : Nat) (h : Heap) : callV E (n + 21) G [.int .i64 z] h = some (.string (strOf (Lib.itoa z)), h) := by
  by_cases hz : z < 0
  · obtain ⟨m, rfl⟩ : ∃ m : Nat, z = Int.negSucc m := by cases z with | ofNat m => exact absurd hz (by simp) | negSucc m => exact ⟨m, rfl⟩
    have hm : m < 9223372036854775808 := by omega
    have hit : Lib.itoa (Int.negSucc m) = [45] ++ Lib.decDigits (m + 1) := by
      unfold Lib.itoa
      rw [if_pos hz]
      rfl
    have e0 : arithV .lss .i64 (Int.negSucc m) 0 = some (.bool true) := by rw [ar_lss, decide_eq_true hz]
    have e1 : arithV .add .i64 (Int.negSucc m) 1 = some (.int .i64 (Int.negSucc m + 1)) := by
      unfold arithV
      have : IntKind.i64.wrap (Int.negSucc m + 1) = Int.negSucc m + 1 := by rw [IntKind.wrap_i64]; omega
      simp only [this]
    have e2 : IntKind.i64.wrap (0 - (Int.negSucc m + 1)) = Int.ofNat m := by
      show _ = (m : Int)
      rw [IntKind.wrap_i64]; omega
    have e3 : IntKind.u64.wrap (Int.ofNat m) = Int.ofNat m := wrap_pos .u64 m (by show m ≤ 18446744073709551615; omega)
    have l1 := decDigits_len 19 (m + 1) (lt20 (by omega))
    have c1 := hc (m + 1) (by omega) n h
    rw [hit]
    refine call_slim (E := E) (n := n + 20) (f := G) (fn := fg) [.int .i64 (Int.negSucc m)] h hx hf hg (s := ([Value.int .i64 (Int.negSucc m), undef, .string (strOf ([45] ++ Lib.decDigits (m + 1))), .int .u64 (.ofNat (m + 1)), .int .i64 (Int.negSucc m), .bool true, .int .i64 (Int.negSucc m),
      .int .i64 (Int.negSucc m + 1), .int .i64 (.ofNat m), .int .u64 (.ofNat m), .int .u64 (.ofNat (m + 1)), .int .u64 (.ofNat (m + 1)), .string (strOf (Lib.decDigits (m + 1))), .string (strOf ([45] ++ Lib.decDigits (m + 1))), undef, undef, undef], h)) (x := .ret)
      (l := [.string (strOf ([45] ++ Lib.decDigits (m + 1)))]) ?_ (.inr rfl) ?_
    · rw [hn]
      simp only [List.length_cons, List.length_nil, List.cons_append, List.nil_append, Nat.reduceAdd, Nat.reduceSub, List.replicate]
      unfold gFig
      simp only [ck_list, ck_seq, ck_cond, ck_ret, seqK_normal, seqK_ret, condK_true, endK_some, sk_nil, sk_cons', stK_some, sk_move, sk_assign, sk_bin, sk_un, un_neg, sk_conv, conv_iu hne hI hIu hU hUu, sk_call, callR_no hr, call_map, ev_tmp, ev_int, ev_str, bin_int, bin_str, e0, e1, e2, e3,
        add_u (show m + 1 < 18446744073709551616 by omega), c1, add_str (show ([45] : List UInt8).length + (Lib.decDigits (m + 1)).length ≤ 1000 by simp only [List.length_cons, List.length_nil]; omega), atH_some, put_some, List.getD_cons_zero, List.getD_cons_succ, List.set_cons_zero, List.set_cons_succ,
        List.cons_append, List.nil_append]
    · rw [hres]; rfl
  · obtain ⟨m, rfl⟩ : ∃ m : Nat, z = Int.ofNat m := by cases z with | ofNat m => exact ⟨m, rfl⟩ | negSucc m => exact absurd (Int.negSucc_lt_zero m) hz
    have h1' : (m : Int) ≤ 9223372036854775807 := h1
    have hm : m < 9223372036854775808 := by omega
    have hit : Lib.itoa (Int.ofNat m) = Lib.decDigits m := by
      unfold Lib.itoa
      rw [if_neg hz]
      rfl
    have e0 : arithV .lss .i64 (Int.ofNat m) 0 = some (.bool false) := by rw [ar_lss, decide_eq_false hz]
    have e3 : IntKind.u64.wrap (Int.ofNat m) = Int.ofNat m := wrap_pos .u64 m (by show m ≤ 18446744073709551615; omega)
    have c1 := hc m (by omega) n h
    rw [hit]
    refine call_slim (E := E) (n := n + 20) (f := G) (fn := fg) [.int .i64 (Int.ofNat m)] h hx hf hg (s := ([Value.int .i64 (Int.ofNat m), undef, .string (strOf (Lib.decDigits m)), undef, .int .i64 (Int.ofNat m), .bool false, undef, undef, undef, undef, undef, undef, undef, undef,
      .int .i64 (Int.ofNat m), .int .u64 (.ofNat m), .string (strOf (Lib.decDigits m))], h)) (x := .ret) (l := [.string (strOf (Lib.decDigits m))]) ?_ (.inr rfl) ?_
    · rw [hn]
      simp only [List.length_cons, List.length_nil, List.cons_append, List.nil_append, Nat.reduceAdd, Nat.reduceSub, List.replicate]
      unfold gFig
      simp only [ck_list, ck_seq, ck_cond, ck_ret, ck_skip, seqK_normal, condK_false, endK_some, sk_nil, sk_cons', stK_some, sk_move, sk_assign, sk_bin, sk_conv, conv_iu hne hI hIu hU hUu, sk_call, callR_no hr, call_map, ev_tmp, ev_int, ev_str, bin_int, e0, e3,
        c1, atH_some, put_some, List.getD_cons_zero, List.getD_cons_succ, List.set_cons_zero, List.set_cons_succ]
    · rw [hres]; rfl
/-- the name that two numbers have. -/
def nameOf (a b : Int) : List UInt8 := [100, 46] ++ Lib.itoa a ++ [46] ++ Lib.itoa b
theorem itoa_len {z : Int} (h0 : -9223372036854775808 ≤ z) (h1 : z ≤ 9223372036854775807) : (Lib.itoa z).length ≤ 21 := by
  unfold Lib.itoa
  split
  · have := decDigits_len 19 z.natAbs (lt20 (by omega))
    simp only [List.length_cons]; omega
  · have := decDigits_len 19 z.toNat (lt20 (by omega))
    omega
def gName (G S I : Nat) : SCode := .seq (.list [⟨some 4, (.assign (.const (.string (strOf [])))), S, none⟩])
  (.seq (.list [⟨some 5, (.move (.tmp 0)), I, none⟩,
  ⟨some 6, (.call ⟨.value (.func G), #[(.tmp 5)], #[I]⟩), S, none⟩,
  ⟨some 7, (.binOp .add S (.const (.string (strOf [100, 46]))) (.tmp 6) S), S, none⟩,
  ⟨some 8, (.binOp .add S (.tmp 7) (.const (.string (strOf [46]))) S), S, none⟩,
  ⟨some 9, (.move (.tmp 1)), I, none⟩,
  ⟨some 10, (.call ⟨.value (.func G), #[(.tmp 9)], #[I]⟩), S, none⟩,
  ⟨some 11, (.binOp .add S (.tmp 8) (.tmp 10) S), S, none⟩,
  ⟨some 4, (.assign (.tmp 11)), S, none⟩])
  (.ret))
theorem name_eq {G N I : Nat} {fN : Fun} (hc : ∀ (z : Int), -9223372036854775808 ≤ z → z ≤ 9223372036854775807 → ∀ (n : Nat) (h : Heap), callV E (n + 21) G [.int .i64 z] h = some (.string (strOf (Lib.itoa z)), h)) (hr : E.row G = none)
    (hx : E.ext N = none) (hf : E.fn N = some fN) (hg : slimC fN.body = gName G S I) (hn : fN.fn.ntmps = 12) (hres : fN.fn.results.toList = [.tmp 4])
    (y z : Int) (h0 : -9223372036854775808 ≤ y) (h1 : y ≤ 9223372036854775807) (h2 : -9223372036854775808 ≤ z) (h3 : z ≤ 9223372036854775807) (n : Nat) (h : Heap) : callV E (n + 22) N [.int .i64 y, .int .i64 z] h = some (.string (strOf (nameOf y z)), h) := by
  have l1 := itoa_len h0 h1
  have l2 := itoa_len h2 h3
  have c1 := hc y h0 h1 n h
  have c2 := hc z h2 h3 n h
  unfold nameOf
  refine call_slim (E := E) (n := n + 21) (f := N) (fn := fN) [.int .i64 y, .int .i64 z] h hx hf hg (s := ([Value.int .i64 y, .int .i64 z, undef, undef, .string (strOf ([100, 46] ++ Lib.itoa y ++ [46] ++ Lib.itoa z)), .int .i64 y, .string (strOf (Lib.itoa y)), .string (strOf ([100, 46] ++ Lib.itoa y)),
    .string (strOf ([100, 46] ++ Lib.itoa y ++ [46])), .int .i64 z, .string (strOf (Lib.itoa z)), .string (strOf ([100, 46] ++ Lib.itoa y ++ [46] ++ Lib.itoa z))], h)) (x := .ret) (l := [.string (strOf ([100, 46] ++ Lib.itoa y ++ [46] ++ Lib.itoa z))]) ?_ (.inr rfl) ?_
  · rw [hn]
    have a1 := add_str (a := [100, 46]) (b := Lib.itoa y) (by simp only [List.length_cons, List.length_nil]; omega)
    have a2 := add_str (a := [100, 46] ++ Lib.itoa y) (b := [46]) (by simp only [List.length_append, List.length_cons, List.length_nil]; omega)
    have a3 := add_str (a := [100, 46] ++ Lib.itoa y ++ [46]) (b := Lib.itoa z) (by simp only [List.length_append, List.length_cons, List.length_nil]; omega)
    generalize [100, 46] ++ Lib.itoa y ++ [46] ++ Lib.itoa z = w3 at a3 ⊢
    generalize [100, 46] ++ Lib.itoa y ++ [46] = w2 at a2 a3 ⊢
    generalize [100, 46] ++ Lib.itoa y = w1 at a1 a2 ⊢
    simp only [List.length_cons, List.length_nil, List.cons_append, List.nil_append, Nat.reduceAdd, Nat.reduceSub, List.replicate]
    unfold gName
    simp only [ck_list, ck_seq, ck_ret, seqK_normal, endK_some, sk_nil, sk_cons', stK_some, sk_move, sk_assign, sk_bin, sk_call, callR_no hr, call_map, ev_tmp, ev_str, bin_str, c1, c2, a1, a2, a3, atH_some, put_some, List.getD_cons_zero, List.getD_cons_succ, List.set_cons_zero, List.set_cons_succ]
  · rw [hres]; rfl
end
end Go.Nm
