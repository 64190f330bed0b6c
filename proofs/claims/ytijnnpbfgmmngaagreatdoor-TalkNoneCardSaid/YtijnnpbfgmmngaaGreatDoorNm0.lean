/- Nm0: what the document's answer makes of numbers: figures, and a name of two of them: by the interpreter's equations, for any environment. -/
import Derived.Test.YtijnnpbfgmmngaaGreatDoorVgE
import Derived.Test.YtijnnpbfgmmngaaGreatDoorVgD
import Derived.Lib.ItoaNum
import Derived.Laws.BitsLemmas
import Derived.Laws.Bits64
open Go Go.Vi
namespace Go.Nm
def c10 : ByteArray := ⟨⟨[48, 49, 50, 51, 52, 53, 54, 55, 56, 57]⟩⟩
theorem ev_str (t : Tmps) (s : ByteArray) : evV t (.const (.string s)) = .string s := rfl
theorem bin_str {E : Env} (op : BinOp) (t : TypeId) (c : Bool) (a b : ByteArray) : binV E op t c (.string a) (.string b) = strV op a b := by
  unfold binV
  rfl
theorem un_neg {k : IntKind} (n : Int) : unV .neg (.int k n) = some (.int k (k.wrap (0 - n))) := rfl
theorem size_strOf (l : List UInt8) : (strOf l).size = l.length := rfl
theorem strL_of (l : List UInt8) : strL (strOf l) = l := rfl
theorem add_str {a b : List UInt8} (h : a.length + b.length ≤ 1000) : strV .add (strOf a) (strOf b) = some (.string (strOf (a ++ b))) := by
  unfold strV
  simp only
  rw [if_pos (by rw [size_strOf, size_strOf]; omega), strL_of, strL_of]
theorem decDigits_len : ∀ (k u : Nat), u < 10 ^ (k + 1) → (Lib.decDigits u).length ≤ k + 1 := by
  intro k
  induction k with
  | zero =>
    intro u hu
    rw [Lib.decDigits, dif_pos (by omega)]
    simp
  | succ k ih =>
    intro u hu
    rw [Lib.decDigits]
    split
    · simp
    · rw [List.length_append]
      have := ih (u / 10) (by rw [Nat.pow_succ] at hu; omega)
      simp only [List.length_cons, List.length_nil]
      omega
theorem lt20 {u : Nat} (h : u < 18446744073709551616) : u < 10 ^ (19 + 1) := by
  have : (10 : Nat) ^ (19 + 1) = 100000000000000000000 := by decide
  omega
theorem slice_dig {E : Env} {S : TypeId} {i : Ty} (hS : E.ty S = some i) (hu : i.under = .string) {u : Nat} (h : u < 10) :
    sliceV E S (.string c10) (some (.int .u64 (.ofNat u))) (some (.int .u64 (.ofNat (u + 1)))) none = some (.string (strOf [UInt8.ofNat (48 + u)])) := by
  unfold sliceV
  simp only [hS, hu, Option.bind_eq_bind, Option.bind_some]
  match u, h with
  | 0, _ | 1, _ | 2, _ | 3, _ | 4, _ | 5, _ | 6, _ | 7, _ | 8, _ | 9, _ => rfl
def gU (F S U B : Nat) : SCode := .seq (.list [⟨some 2, (.assign (.const (.string (strOf [])))), S, none⟩])
  (.seq (.seq (.list [⟨some 3, (.move (.tmp 0)), U, none⟩,
  ⟨some 4, (.binOp .lss U (.tmp 3) (.const (.int .u64 10)) U), B, none⟩])
  (.cond (.tmp 4) (.seq (.list [⟨some 5, (.move (.tmp 0)), U, none⟩,
   ⟨some 6, (.move (.tmp 0)), U, none⟩,
   ⟨some 7, (.binOp .add U (.tmp 6) (.const (.int .u64 1)) U), U, none⟩,
   ⟨some 8, (.slice S (.const (.string c10)) (some (.tmp 5)) (some (.tmp 7)) none), S, none⟩,
   ⟨some 2, (.assign (.tmp 8)), S, none⟩])
   (.ret)) (.skip)))
  (.seq (.list [⟨some 9, (.move (.tmp 0)), U, none⟩,
  ⟨some 10, (.binOp .quo U (.tmp 9) (.const (.int .u64 10)) U), U, none⟩,
  ⟨some 11, (.call ⟨.value (.func F), #[(.tmp 10)], #[U]⟩), S, none⟩,
  ⟨some 12, (.move (.tmp 0)), U, none⟩,
  ⟨some 13, (.binOp .rem U (.tmp 12) (.const (.int .u64 10)) U), U, none⟩,
  ⟨some 14, (.call ⟨.value (.func F), #[(.tmp 13)], #[U]⟩), S, none⟩,
  ⟨some 15, (.binOp .add S (.tmp 11) (.tmp 14) S), S, none⟩,
  ⟨some 2, (.assign (.tmp 15)), S, none⟩])
  (.ret)))
section
variable {E : Env} {F S U B : Nat} {fn : Fun} {i : Ty}
theorem lss_u {u : Nat} (h : u < 10) : arithV .lss .u64 (.ofNat u) 10 = some (.bool true) := by
  have : decide ((Int.ofNat u) < 10) = true := decide_eq_true (by show (u : Int) < 10; omega)
  rw [ar_lss, this]
theorem lss_u' {u : Nat} (h : ¬ u < 10) : arithV .lss .u64 (.ofNat u) 10 = some (.bool false) := by
  have : decide ((Int.ofNat u) < 10) = false := decide_eq_false (by show ¬ (u : Int) < 10; omega)
  rw [ar_lss, this]
theorem add_u {u : Nat} (h : u + 1 < 18446744073709551616) : arithV .add .u64 (.ofNat u) 1 = some (.int .u64 (.ofNat (u + 1))) := by
  have h1 : (Int.ofNat u + 1) = Int.ofNat (u + 1) := rfl
  unfold arithV
  simp only [h1, wrap_pos .u64 (u + 1) (by show u + 1 ≤ 18446744073709551615; omega)]
theorem quo_u {u : Nat} (h : u < 18446744073709551616) : arithV .quo .u64 (.ofNat u) 10 = some (.int .u64 (.ofNat (u / 10))) := by
  have h1 : (Int.ofNat u).tdiv 10 = Int.ofNat (u / 10) := rfl
  unfold arithV
  simp only [h1, wrap_pos .u64 (u / 10) (by show u / 10 ≤ 18446744073709551615; omega)]
  rfl
theorem rem_u (u : Nat) : arithV .rem .u64 (.ofNat u) 10 = some (.int .u64 (.ofNat (u % 10))) := by
  have h1 : (Int.ofNat u).tmod 10 = Int.ofNat (u % 10) := rfl
  unfold arithV
  simp only [h1]
  rfl
theorem call_map (t : Tmps) (k : Nat) : (#[Operand.tmp k].map (evV t)).toList = [t.getD k undef] := by simp [evV]
theorem callR_no {call : CallV} {F : Nat} (hr : E.row F = none) (args : List Value) (h : Heap) : callR E call F args h = call.fn F args h := by unfold callR; rw [hr]
theorem unsigned_eq (hx : E.ext F = none) (hr : E.row F = none) (hf : E.fn F = some fn) (hg : slimC fn.body = gU F S U B) (hn : fn.fn.ntmps = 16) (hres : fn.fn.results.toList = [.tmp 2]) (hS : E.ty S = some i) (hu : i.under = .string) :
    ∀ (k u : Nat), u < 10 ^ (k + 1) → u < 18446744073709551616 → ∀ (n : Nat) (h : Heap), callV E (n + k + 1) F [.int .u64 (.ofNat u)] h = some (.string (strOf (Lib.decDigits u)), h) := by
  have small : ∀ (u : Nat), u < 10 → ∀ (n : Nat) (h : Heap), callV E (n + 1) F [.int .u64 (.ofNat u)] h = some (.string (strOf (Lib.decDigits u)), h) := by
    intro u h10 n h
    have hd : Lib.decDigits u = [UInt8.ofNat (48 + u)] := by rw [Lib.decDigits, dif_pos h10]
    rw [hd]
    refine call_slim (E := E) (n := n) (f := F) (fn := fn) [.int .u64 (.ofNat u)] h hx hf hg (s := ([Value.int .u64 (.ofNat u), undef, .string (strOf [UInt8.ofNat (48 + u)]), .int .u64 (.ofNat u), .bool true, .int .u64 (.ofNat u), .int .u64 (.ofNat u), .int .u64 (.ofNat (u + 1)),
      .string (strOf [UInt8.ofNat (48 + u)]), undef, undef, undef, undef, undef, undef, undef], h)) (x := .ret) (l := [.string (strOf [UInt8.ofNat (48 + u)])]) ?_ (.inr rfl) ?_
    · rw [hn]
      simp only [List.length_cons, List.length_nil, List.cons_append, List.nil_append, Nat.reduceAdd, Nat.reduceSub, List.replicate]
      unfold gU
      simp only [ck_list, ck_seq, ck_cond, ck_ret, seqK_normal, seqK_ret, condK_true, endK_some, sk_nil, sk_cons', stK_some, sk_move, sk_assign, sk_bin, sk_slice, ev_tmp, ev_int, ev_str, bin_int, lss_u h10, add_u (show u + 1 < 18446744073709551616 by omega), atH_some, put_some,
        List.getD_cons_zero, List.getD_cons_succ, List.set_cons_zero, List.set_cons_succ, Option.map_some, Option.map_none, slice_dig hS hu h10, orK]
    · rw [hres]; rfl
  intro k
  induction k with
  | zero => intro u h1 _ n h; exact small u (by simpa using h1) n h
  | succ k ih =>
    intro u h1 h2 n h
    by_cases h10 : u < 10
    · exact small u h10 (n + (k + 1)) h
    · have hd : Lib.decDigits u = Lib.decDigits (u / 10) ++ Lib.decDigits (u % 10) := by
        rw [Lib.decDigits, dif_neg h10]
        congr 1
        rw [Lib.decDigits, dif_pos (by omega)]
      have l1 := decDigits_len 19 (u / 10) (lt20 (by omega))
      have l2 := decDigits_len 19 (u % 10) (lt20 (by omega))
      have c1 := ih (u / 10) (by rw [Nat.pow_succ] at h1; omega) (by omega) n h
      have c2 := ih (u % 10) (by have : 10 ^ 1 ≤ 10 ^ (k + 1) := Nat.pow_le_pow_right (by omega) (by omega); omega) (by omega) n h
      rw [hd]
      refine call_slim (E := E) (n := n + k + 1) (f := F) (fn := fn) [.int .u64 (.ofNat u)] h hx hf hg (s := ([Value.int .u64 (.ofNat u), undef, .string (strOf (Lib.decDigits (u / 10) ++ Lib.decDigits (u % 10))), .int .u64 (.ofNat u), .bool false, undef, undef, undef,
        undef, .int .u64 (.ofNat u), .int .u64 (.ofNat (u / 10)), .string (strOf (Lib.decDigits (u / 10))), .int .u64 (.ofNat u), .int .u64 (.ofNat (u % 10)), .string (strOf (Lib.decDigits (u % 10))), .string (strOf (Lib.decDigits (u / 10) ++ Lib.decDigits (u % 10)))], h)) (x := .ret)
        (l := [.string (strOf (Lib.decDigits (u / 10) ++ Lib.decDigits (u % 10)))]) ?_ (.inr rfl) ?_
      · rw [hn]
        simp only [List.length_cons, List.length_nil, List.cons_append, List.nil_append, Nat.reduceAdd, Nat.reduceSub, List.replicate]
        unfold gU
        simp only [ck_list, ck_seq, ck_cond, ck_ret, ck_skip, seqK_normal, condK_false, endK_some, sk_nil, sk_cons', stK_some, sk_move, sk_assign, sk_bin, sk_call, callR_no hr, call_map, ev_tmp, ev_int, ev_str, bin_int, bin_str, lss_u' h10, quo_u h2, rem_u, c1, c2,
          add_str (show (Lib.decDigits (u / 10)).length + (Lib.decDigits (u % 10)).length ≤ 1000 by omega), atH_some, put_some, List.getD_cons_zero, List.getD_cons_succ, List.set_cons_zero, List.set_cons_succ]
      · rw [hres]; rfl
def convR (E : Env) (call : CallV) (s d : TypeId) (v : Value) (h : Heap) : Option (Value × Heap) := stepV E call (SOp.o ⟨none, .convert s d (.tmp 0), 0, none⟩) ([v], h)
theorem sk_conv (call : CallV) (d : Option Tmp) (ty s d2 : TypeId) (x : Operand) (t : Tmps) (h : Heap) : stepV E call (SOp.o ⟨d, .convert s d2 x, ty, none⟩) (t, h) = convR E call s d2 (evV t x) h := rfl
theorem conv_iu {call : CallV} {I U : TypeId} {a b : Ty} {k : IntKind} (hne : I ≠ U) (hI : E.ty I = some a) (hIu : a.under = .int k) (hU : E.ty U = some b) (hUu : b.under = .int .u64) (k' : IntKind) (n : Int) (h : Heap) :
    convR E call I U (.int k' n) h = some (.int .u64 (IntKind.u64.wrap n), h) := by
  unfold convR stepV pureV SOp.o
  have hv : convV E I U (evV [Value.int k' n] (.tmp 0)) = some (.int .u64 (IntKind.u64.wrap n)) := by
    show convV E I U (.int k' n) = _
    unfold convV
    simp only [hI, hU, hIu, hUu, Option.bind_eq_bind, Option.bind_some]
  simp only [if_neg hne, hv]
end
end Go.Nm
