/- Nm5: figures, as the document of lines writes them. -/
import Derived.Test.YtijnnpbfgmmngaaGreatDoorNm0
open Go Go.Vi
namespace Go.Nm
section
variable {E : Env} {F S U B : Nat} {fn : Fun} {i : Ty}
def gFig25 (F S I U B : Nat) : SCode := .seq (.list [⟨some 2, (.assign (.const (.string (strOf [])))), S, none⟩])
  (.seq (.seq (.list [⟨some 3, (.move (.tmp 0)), I, none⟩,
  ⟨some 4, (.binOp .lss I (.tmp 3) (.const (.int .i64 0)) I), B, none⟩])
  (.cond (.tmp 4) (.seq (.list [⟨some 5, (.move (.tmp 0)), I, none⟩,
   ⟨some 6, (.binOp .add I (.tmp 5) (.const (.int .i64 1)) I), I, none⟩,
   ⟨some 7, (.unOp .neg I (.tmp 6)), I, none⟩,
   ⟨some 8, (.convert I U (.tmp 7)), U, none⟩,
   ⟨some 9, (.binOp .add U (.tmp 8) (.const (.int .u64 1)) U), U, none⟩,
   ⟨some 10, (.call ⟨.value (.func F), #[(.tmp 9)], #[U]⟩), S, none⟩,
   ⟨some 11, (.binOp .add S (.const (.string (strOf [45]))) (.tmp 10) S), S, none⟩,
   ⟨some 2, (.assign (.tmp 11)), S, none⟩])
   (.ret)) (.skip)))
  (.seq (.list [⟨some 12, (.move (.tmp 0)), I, none⟩,
  ⟨some 13, (.convert I U (.tmp 12)), U, none⟩,
  ⟨some 14, (.call ⟨.value (.func F), #[(.tmp 13)], #[U]⟩), S, none⟩,
  ⟨some 2, (.assign (.tmp 14)), S, none⟩])
  (.ret)))
theorem figures25_eq {G I : Nat} {fg : Fun} {a b : Ty} {k0 : IntKind} (hc : ∀ (u : Nat), u < 18446744073709551616 → ∀ (n : Nat) (h : Heap), callV E (n + 20) F [.int .u64 (.ofNat u)] h = some (.string (strOf (Lib.decDigits u)), h)) (hr : E.row F = none)
    (hx : E.ext G = none) (hf : E.fn G = some fg) (hg : slimC fg.body = gFig25 F S I U B) (hn : fg.fn.ntmps = 15) (hres : fg.fn.results.toList = [.tmp 2]) (hne : I ≠ U) (hI : E.ty I = some a) (hIu : a.under = .int k0) (hU : E.ty U = some b) (hUu : b.under = .int .u64)
    (z : Int) (h0 : -9223372036854775808 ≤ z) (h1 : z ≤ 9223372036854775807) (n : Nat) (h : Heap) : callV E (n + 21) G [.int .i64 z] h = some (.string (strOf (Lib.itoa z)), h) := by
  by_cases hz : z < 0
  · obtain ⟨m, rfl⟩ : ∃ m : Nat, z = Int.negSucc m := by cases z with | ofNat m => exact absurd hz (by simp) | negSucc m => exact ⟨m, rfl⟩
    have hm : m < 9223372036854775808 := by omega
    have hit : Lib.itoa (Int.negSucc m) = [45] ++ Lib.decDigits (m + 1) := by
      unfold Lib.itoa
      rw [if_pos hz]
      rfl
    have e0 : arithV .lss .i64 (Int.negSucc m) 0 = some (.bool true) := by rw [ar_lss, decide_eq_true hz]
    have e1 : arithV .add .i64 (Int.negSucc m) 1 = some (.int .i64 (Int.negSucc m + 1)) := by
      unfold arithV
      have : IntKind.i64.wrap (Int.negSucc m + 1) = Int.negSucc m + 1 := by rw [IntKind.wrap_i64]; omega
      simp only [this]
    have e2 : IntKind.i64.wrap (0 - (Int.negSucc m + 1)) = Int.ofNat m := by
      show _ = (m : Int)
      rw [IntKind.wrap_i64]; omega
    have e3 : IntKind.u64.wrap (Int.ofNat m) = Int.ofNat m := wrap_pos .u64 m (by show m ≤ 18446744073709551615; omega)
    have l1 := decDigits_len 19 (m + 1) (lt20 (by omega))
    have c1 := hc (m + 1) (by omega) n h
    rw [hit]
    refine call_slim (E := E) (n := n + 20) (f := G) (fn := fg) [.int .i64 (Int.negSucc m)] h hx hf hg (s := ([Value.int .i64 (Int.negSucc m), undef, .string (strOf ([45] ++ Lib.decDigits (m + 1))), .int .i64 (Int.negSucc m), .bool true, .int .i64 (Int.negSucc m),
      .int .i64 (Int.negSucc m + 1), .int .i64 (.ofNat m), .int .u64 (.ofNat m), .int .u64 (.ofNat (m + 1)), .string (strOf (Lib.decDigits (m + 1))), .string (strOf ([45] ++ Lib.decDigits (m + 1))), undef, undef, undef], h)) (x := .ret)
      (l := [.string (strOf ([45] ++ Lib.decDigits (m + 1)))]) ?_ (.inr rfl) ?_
    · rw [hn]
      simp only [List.length_cons, List.length_nil, List.cons_append, List.nil_append, Nat.reduceAdd, Nat.reduceSub, List.replicate]
      unfold gFig25
      simp only [ck_list, ck_seq, ck_cond, ck_ret, seqK_normal, seqK_ret, condK_true, endK_some, sk_nil, sk_cons', stK_some, sk_move, sk_assign, sk_bin, sk_un, un_neg, sk_conv, conv_iu hne hI hIu hU hUu, sk_call, callR_no hr, call_map, ev_tmp, ev_int, ev_str, bin_int, bin_str, e0, e1, e2, e3,
        add_u (show m + 1 < 18446744073709551616 by omega), c1, add_str (show ([45] : List UInt8).length + (Lib.decDigits (m + 1)).length ≤ 1000 by simp only [List.length_cons, List.length_nil]; omega), atH_some, put_some, List.getD_cons_zero, List.getD_cons_succ, List.set_cons_zero, List.set_cons_succ,
        List.cons_append, List.nil_append]
    · rw [hres]; rfl
  · obtain ⟨m, rfl⟩ : ∃ m : Nat, z = Int.ofNat m := by cases z with | ofNat m => exact ⟨m, rfl⟩ | negSucc m => exact absurd (Int.negSucc_lt_zero m) hz
    have h1' : (m : Int) ≤ 9223372036854775807 := h1
    have hm : m < 9223372036854775808 := by omega
    have hit : Lib.itoa (Int.ofNat m) = Lib.decDigits m := by
      unfold Lib.itoa
      rw [if_neg hz]
      rfl
    have e0 : arithV .lss .i64 (Int.ofNat m) 0 = some (.bool false) := by rw [ar_lss, decide_eq_false hz]
    have e3 : IntKind.u64.wrap (Int.ofNat m) = Int.ofNat m := wrap_pos .u64 m (by show m ≤ 18446744073709551615; omega)
    have c1 := hc m (by omega) n h
    rw [hit]
    refine call_slim (E := E) (n := n + 20) (f := G) (fn := fg) [.int .i64 (Int.ofNat m)] h hx hf hg (s := ([Value.int .i64 (Int.ofNat m), undef, .string (strOf (Lib.decDigits m)), .int .i64 (Int.ofNat m), .bool false, undef, undef, undef, undef, undef, undef, undef,
      .int .i64 (Int.ofNat m), .int .u64 (.ofNat m), .string (strOf (Lib.decDigits m))], h)) (x := .ret) (l := [.string (strOf (Lib.decDigits m))]) ?_ (.inr rfl) ?_
    · rw [hn]
      simp only [List.length_cons, List.length_nil, List.cons_append, List.nil_append, Nat.reduceAdd, Nat.reduceSub, List.replicate]
      unfold gFig25
      simp only [ck_list, ck_seq, ck_cond, ck_ret, ck_skip, seqK_normal, condK_false, endK_some, sk_nil, sk_cons', stK_some, sk_move, sk_assign, sk_bin, sk_conv, conv_iu hne hI hIu hU hUu, sk_call, callR_no hr, call_map, ev_tmp, ev_int, ev_str, bin_int, e0, e3,
        c1, atH_some, put_some, List.getD_cons_zero, List.getD_cons_succ, List.set_cons_zero, List.set_cons_succ]
    · rw [hres]; rfl
end
end Go.Nm
