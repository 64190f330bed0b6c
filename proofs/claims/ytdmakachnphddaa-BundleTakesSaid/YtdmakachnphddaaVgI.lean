/- Vb0: contracts of Go calls, told to the interpreter; and what the interpreter says, as a contract. Vb1: rows, as a Go call sees them; a row that a call has made. Vq: the rules of the logic, as a few. Vn0: a law's arguments, laid out as blocks that are only read. Vn1: what cells of a type are, laid out. Vn2: arguments read as they did, where what was there stands. Vk0: rows, wherever they lie; copying and clearing. Vk1: any row, appended to a row of one's own; a whole array as a row. Vk2: bytes as a text, in a region whose order is drawn. Vk3: a row of one's own, of elements of up to 68 bytes. Vm0: maps from texts to numbers, as the interpreter keeps them. -/
import Derived.Test.YtdmakachnphddaaVgH
import Derived.Test.YtdmakachnphddaaVgF
import Derived.ChangeArms
import Derived.DataReads
import Derived.ChangeOld
import Derived.Carry
import Derived.WideKeyArgs
import Derived.Test.YtdmakachnphddaaVgG
namespace Go.Vi
def KeptW (w w' : World) : Prop := w'.os = w.os ∧ w'.output = w.output ∧ w.heap.size ≤ w'.heap.size ∧ ∀ k, k < w.heap.size → w'.heap[k]? = w.heap[k]?
theorem KeptW.refl (w : World) : KeptW w w := ⟨rfl, rfl, Nat.le_refl _, fun _ _ => rfl⟩
theorem KeptW.trans {a b c : World} (h : KeptW a b) (k : KeptW b c) : KeptW a c := ⟨k.1.trans h.1, k.2.1.trans h.2.1, Nat.le_trans h.2.2.1 k.2.2.1, fun i hi => (k.2.2.2 i (Nat.lt_of_lt_of_le hi h.2.2.1)).trans (h.2.2.2 i hi)⟩
theorem KeptW.may {w w' : World} (h : KeptW w w') (may : MemPlace → Prop) : w.keptBut w' may := ⟨h.1, h.2.1, fun i hi => by
  rw [h.2.2.2 i hi]
  split <;> simp_all⟩
theorem calls_ro {K : Known} {P : Program} {E : Env} (ok : EnvOk K P E) {f : FuncId} (hr : E.row f = none) {args args' : List Value} {v : Value} {h1 : Heap} {ρ : Map} {w : World} (g : Good K ρ h1 w) (ro : ∀ b i, ρ b = some i → i.ro = true)
    (dom : ∀ b, h1.next ≤ b → ρ b = none) (rel : VRels ρ args args') (hq : plainB 100 v = true) (r : Ret E f args h1 fun u _ => u = v) : Calls P f ⟨args'⟩ w fun e w' => e = .returned v ∧ KeptW w w' := by
  obtain ⟨n, u, h', hv, rfl⟩ := r.callV hr
  refine ((call_ok ok n).calls f args h1 _ h' hv ρ w ⟨args'⟩ g (fun b hb _ => dom b hb) rel).mono ?_
  rintro e w' ⟨ρ', v', rfl, rv, g', s⟩
  have := plain_inv 100 _ _ hq rv
  subst this
  exact ⟨rfl, s.side.1, s.side.2, s.grow, fun k hk => s.rframe k hk (fun b i hb _ hz => by rw [ro b i hb] at hz; cases hz)⟩
end Go.Vi
namespace Go.Vi
end Go.Vi
namespace Go.Vi
theorem vq0 : type_of% (And.intro @r_skip <| And.intro @r_exit <| And.intro @r_ret <| And.intro @r_seq <| And.intro @r_cond <| And.intro @r_block <| And.intro @r_list <| And.intro @r_drawn <| And.intro @seqQ_normal <| And.intro @seqQ_exit <| And.intro @seqQ_ret <| And.intro @blockQ_normal <| And.intro @blockQ_exit <| And.intro @blockQ_ret <| And.intro @condQ_true <| And.intro @condQ_false <| And.intro @loopQ_normal <| And.intro @loopQ_exit <| And.intro @loopQ_ret <| And.intro @endQ_normal <| And.intro @endQ_ret <| And.intro @retK_some <| And.intro @res_nil <| And.intro @res_tmp <| And.intro @res_cell <| And.intro @consR_some <| And.intro @l_nil <| And.intro @l_guard <| And.intro @l_move <| And.intro @l_assign <| And.intro @l_pick <| And.intro @l_bin <| And.intro @l_un <| And.intro @l_build <| And.intro @l_nilCheck <| And.intro @l_makeI <| And.intro @l_makeF <| And.intro @l_fieldAddr <| And.intro @l_field <| And.intro @l_indexAddr <| And.intro @l_index <| And.intro @l_assert <| And.intro @l_extract <| And.intro @l_load <| And.intro @l_lookup <| And.intro @l_store <| And.intro @l_mapUpdate <| And.intro @l_insert <| And.intro @l_mapEntry <| And.intro @l_entryStore <| And.intro @l_alloc <| And.intro @l_box <| And.intro @l_bslice <| And.intro @l_mkslice <| And.intro @l_mkmap <| And.intro @l_slice <| And.intro @l_call <| And.intro @l_callt <| And.intro @l_len <| @l_cap) := And.intro @r_skip <| And.intro @r_exit <| And.intro @r_ret <| And.intro @r_seq <| And.intro @r_cond <| And.intro @r_block <| And.intro @r_list <| And.intro @r_drawn <| And.intro @seqQ_normal <| And.intro @seqQ_exit <| And.intro @seqQ_ret <| And.intro @blockQ_normal <| And.intro @blockQ_exit <| And.intro @blockQ_ret <| And.intro @condQ_true <| And.intro @condQ_false <| And.intro @loopQ_normal <| And.intro @loopQ_exit <| And.intro @loopQ_ret <| And.intro @endQ_normal <| And.intro @endQ_ret <| And.intro @retK_some <| And.intro @res_nil <| And.intro @res_tmp <| And.intro @res_cell <| And.intro @consR_some <| And.intro @l_nil <| And.intro @l_guard <| And.intro @l_move <| And.intro @l_assign <| And.intro @l_pick <| And.intro @l_bin <| And.intro @l_un <| And.intro @l_build <| And.intro @l_nilCheck <| And.intro @l_makeI <| And.intro @l_makeF <| And.intro @l_fieldAddr <| And.intro @l_field <| And.intro @l_indexAddr <| And.intro @l_index <| And.intro @l_assert <| And.intro @l_extract <| And.intro @l_load <| And.intro @l_lookup <| And.intro @l_store <| And.intro @l_mapUpdate <| And.intro @l_insert <| And.intro @l_mapEntry <| And.intro @l_entryStore <| And.intro @l_alloc <| And.intro @l_box <| And.intro @l_bslice <| And.intro @l_mkslice <| And.intro @l_mkmap <| And.intro @l_slice <| And.intro @l_call <| And.intro @l_callt <| And.intro @l_len <| @l_cap
theorem vq1 : type_of% (And.intro @l_min <| And.intro @l_max <| And.intro @l_append <| And.intro @l_copy <| And.intro @l_clear <| And.intro @l_delete <| And.intro @l_range <| And.intro @l_next <| And.intro @l_entry <| And.intro @l_same <| And.intro @hvq <| And.intro @sa_nil <| And.intro @sa_cons <| And.intro @d_nil <| And.intro @d_guard <| And.intro @d_move <| And.intro @d_assign <| And.intro @d_pick <| And.intro @d_bin <| And.intro @d_un <| And.intro @d_build <| And.intro @d_nilCheck <| And.intro @d_fieldAddr <| And.intro @d_field <| And.intro @d_indexAddr <| And.intro @d_index <| And.intro @d_extract <| And.intro @d_makeI <| And.intro @d_load <| And.intro @d_lookup <| And.intro @d_store <| And.intro @d_alloc <| And.intro @d_box <| And.intro @d_bslice <| And.intro @d_mkslice <| And.intro @d_append <| And.intro @d_copy <| And.intro @d_call <| And.intro @d_len <| And.intro @d_slice <| And.intro @dlenQ_some <| And.intro @dsliceQ_some <| And.intro @dsliceQ_none <| And.intro @dvalQ_some <| And.intro @dreadQ_some <| And.intro @dresQ_some <| And.intro @dcallQ_eq <| And.intro @dwantQ_true <| And.intro @dwantQ_false <| And.intro @dwantQ_heavy <| And.intro @seen_load <| And.intro @seen_lookup <| And.intro @seen_slice <| And.intro @seenAt_zero <| And.intro @seenAt_succ <| And.intro @same_some <| And.intro @veqN_int <| And.intro @veqN_bool <| And.intro @veqN_str <| @veqN_ptr) := And.intro @l_min <| And.intro @l_max <| And.intro @l_append <| And.intro @l_copy <| And.intro @l_clear <| And.intro @l_delete <| And.intro @l_range <| And.intro @l_next <| And.intro @l_entry <| And.intro @l_same <| And.intro @hvq <| And.intro @sa_nil <| And.intro @sa_cons <| And.intro @d_nil <| And.intro @d_guard <| And.intro @d_move <| And.intro @d_assign <| And.intro @d_pick <| And.intro @d_bin <| And.intro @d_un <| And.intro @d_build <| And.intro @d_nilCheck <| And.intro @d_fieldAddr <| And.intro @d_field <| And.intro @d_indexAddr <| And.intro @d_index <| And.intro @d_extract <| And.intro @d_makeI <| And.intro @d_load <| And.intro @d_lookup <| And.intro @d_store <| And.intro @d_alloc <| And.intro @d_box <| And.intro @d_bslice <| And.intro @d_mkslice <| And.intro @d_append <| And.intro @d_copy <| And.intro @d_call <| And.intro @d_len <| And.intro @d_slice <| And.intro @dlenQ_some <| And.intro @dsliceQ_some <| And.intro @dsliceQ_none <| And.intro @dvalQ_some <| And.intro @dreadQ_some <| And.intro @dresQ_some <| And.intro @dcallQ_eq <| And.intro @dwantQ_true <| And.intro @dwantQ_false <| And.intro @dwantQ_heavy <| And.intro @seen_load <| And.intro @seen_lookup <| And.intro @seen_slice <| And.intro @seenAt_zero <| And.intro @seenAt_succ <| And.intro @same_some <| And.intro @veqN_int <| And.intro @veqN_bool <| And.intro @veqN_str <| @veqN_ptr
theorem vq2 : type_of% (And.intro @veqN_slice <| And.intro @veqN_map <| And.intro @veqN_nilI <| And.intro @veqN_nilF <| And.intro @veqN_iface <| And.intro @veqN_agg <| And.intro @veqs_nil <| And.intro @veqs_cons <| And.intro @resQ_some <| And.intro @valQ_some <| And.intro @heapQ_some <| And.intro @newQ_some <| And.intro @callQ_eq <| And.intro @funQ_func <| And.intro @wantQ_true <| And.intro @wantQ_false <| And.intro @putH_some <| And.intro @putH_none <| And.intro @up_at <| And.intro @selK_true <| And.intro @selK_false <| And.intro @evH_tmp <| And.intro @evH_int <| And.intro @evH_bool <| And.intro @evH_str <| And.intro @evH_ptr0 <| And.intro @evH_slice0 <| And.intro @evH_map0 <| And.intro @evH_nilFunc <| And.intro @evH_nilIface <| And.intro @evH_func <| And.intro @isB_tt <| And.intro @isB_tf <| And.intro @isB_ft <| And.intro @isB_ff <| And.intro @isB_undef <| And.intro @isC_tmp <| And.intro @isC_const <| And.intro @atH_some <| And.intro @orK_some <| And.intro @orK_none <| And.intro @heapK_some <| And.intro @newK_some <| And.intro @bin_int <| And.intro @bin_str <| And.intro @un_not <| And.intro @un_neg <| And.intro @pick_true <| And.intro @pick_false <| And.intro @nil_ptr <| And.intro @nil_iface <| And.intro @nil_func <| And.intro @ext_0 <| And.intro @ext_1 <| And.intro @ext_2 <| And.intro @ext_3 <| And.intro @ot_one <| And.intro @ot_nil <| And.intro @ot_more <| @frA_at) := And.intro @veqN_slice <| And.intro @veqN_map <| And.intro @veqN_nilI <| And.intro @veqN_nilF <| And.intro @veqN_iface <| And.intro @veqN_agg <| And.intro @veqs_nil <| And.intro @veqs_cons <| And.intro @resQ_some <| And.intro @valQ_some <| And.intro @heapQ_some <| And.intro @newQ_some <| And.intro @callQ_eq <| And.intro @funQ_func <| And.intro @wantQ_true <| And.intro @wantQ_false <| And.intro @putH_some <| And.intro @putH_none <| And.intro @up_at <| And.intro @selK_true <| And.intro @selK_false <| And.intro @evH_tmp <| And.intro @evH_int <| And.intro @evH_bool <| And.intro @evH_str <| And.intro @evH_ptr0 <| And.intro @evH_slice0 <| And.intro @evH_map0 <| And.intro @evH_nilFunc <| And.intro @evH_nilIface <| And.intro @evH_func <| And.intro @isB_tt <| And.intro @isB_tf <| And.intro @isB_ft <| And.intro @isB_ff <| And.intro @isB_undef <| And.intro @isC_tmp <| And.intro @isC_const <| And.intro @atH_some <| And.intro @orK_some <| And.intro @orK_none <| And.intro @heapK_some <| And.intro @newK_some <| And.intro @bin_int <| And.intro @bin_str <| And.intro @un_not <| And.intro @un_neg <| And.intro @pick_true <| And.intro @pick_false <| And.intro @nil_ptr <| And.intro @nil_iface <| And.intro @nil_func <| And.intro @ext_0 <| And.intro @ext_1 <| And.intro @ext_2 <| And.intro @ext_3 <| And.intro @ot_one <| And.intro @ot_nil <| And.intro @ot_more <| @frA_at
theorem vq3 : type_of% (And.intro @map_toList <| And.intro @parts_eq <| And.intro @mk_ptr <| And.intro @mk_slice <| And.intro @mk_map <| And.intro @wr64 <| And.intro @wr32 <| And.intro @wru8 <| And.intro @wru32 <| And.intro @wru64 <| And.intro @lss_t <| And.intro @lss_f <| And.intro @leq_t <| And.intro @leq_f <| And.intro @gtr_t <| And.intro @gtr_f <| And.intro @geq_t <| And.intro @geq_f <| And.intro @eql_t <| And.intro @eql_f <| And.intro @neq_t <| And.intro @neq_f <| And.intro @add64 <| And.intro @sub64 <| And.intro @mul64 <| And.intro @quo64 <| And.intro @rem64 <| And.intro @addu8 <| And.intro @subu8 <| And.intro @str_add <| And.intro @str_eql <| And.intro @str_neq <| And.intro @nextT <| And.intro @nextK_end <| And.intro @next_set <| And.intro @next_new <| And.intro @next_kill <| And.intro @get_set_k <| And.intro @get_new_k <| And.intro @get_kill_k <| And.intro @ifG_true <| And.intro @ifG_false <| And.intro @beqN_t <| And.intro @beqN_f <| And.intro @add_at <| And.intro @cellAt_some <| And.intro @cellsAt_some <| And.intro @aggO_some <| And.intro @putB_some <| And.intro @putL_some <| And.intro @splice_eq <| And.intro @okB_eq <| And.intro @appK_own <| And.intro @appK_lit <| And.intro @appK_zero <| And.intro @appN_zero <| And.intro @appN_some <| And.intro @boundsV_lh <| And.intro @boundsV_l <| @boundsV_h) := And.intro @map_toList <| And.intro @parts_eq <| And.intro @mk_ptr <| And.intro @mk_slice <| And.intro @mk_map <| And.intro @wr64 <| And.intro @wr32 <| And.intro @wru8 <| And.intro @wru32 <| And.intro @wru64 <| And.intro @lss_t <| And.intro @lss_f <| And.intro @leq_t <| And.intro @leq_f <| And.intro @gtr_t <| And.intro @gtr_f <| And.intro @geq_t <| And.intro @geq_f <| And.intro @eql_t <| And.intro @eql_f <| And.intro @neq_t <| And.intro @neq_f <| And.intro @add64 <| And.intro @sub64 <| And.intro @mul64 <| And.intro @quo64 <| And.intro @rem64 <| And.intro @addu8 <| And.intro @subu8 <| And.intro @str_add <| And.intro @str_eql <| And.intro @str_neq <| And.intro @nextT <| And.intro @nextK_end <| And.intro @next_set <| And.intro @next_new <| And.intro @next_kill <| And.intro @get_set_k <| And.intro @get_new_k <| And.intro @get_kill_k <| And.intro @ifG_true <| And.intro @ifG_false <| And.intro @beqN_t <| And.intro @beqN_f <| And.intro @add_at <| And.intro @cellAt_some <| And.intro @cellsAt_some <| And.intro @aggO_some <| And.intro @putB_some <| And.intro @putL_some <| And.intro @splice_eq <| And.intro @okB_eq <| And.intro @appK_own <| And.intro @appK_lit <| And.intro @appK_zero <| And.intro @appN_zero <| And.intro @appN_some <| And.intro @boundsV_lh <| And.intro @boundsV_l <| @boundsV_h
theorem vq4 : type_of% (And.intro @boundsV_0 <| And.intro @boundsV_lhm <| And.intro @cutK_closed <| And.intro @cutK_open <| And.intro @fillG_nil <| And.intro @fillG_cons <| And.intro @fillG1_some <| And.intro @fillS_nil <| And.intro @fillS_cons <| And.intro @aggK_some <| And.intro @litK_some <| And.intro @cells_int <| And.intro @cells_bool <| And.intro @cells_str <| And.intro @cells_ptr <| And.intro @cells_slice <| And.intro @cells_map <| And.intro @cells_func <| And.intro @cells_nilFunc <| And.intro @cells_iface <| And.intro @cells_nilIface <| And.intro @cells_agg <| And.intro @one_int <| And.intro @one_bool <| And.intro @one_str <| And.intro @one_ptr <| And.intro @one_slice <| And.intro @one_map <| And.intro @one_func <| And.intro @one_nilFunc <| And.intro @one_iface <| And.intro @one_nilIface <| And.intro @one_byte <| And.intro @textC_bytes <| And.intro @rep_one <| And.intro @ifo_pos.{1} <| And.intro @ifo_neg.{1} <| And.intro @List.map_cons.{0, 0} <| And.intro @List.map_nil.{0, 0} <| And.intro @List.getD_cons_zero.{0} <| And.intro @List.getD_cons_succ.{0} <| And.intro @List.getElem?_cons_zero.{0} <| And.intro @List.getElem?_cons_succ.{0} <| And.intro @List.set_cons_zero.{0} <| And.intro @List.set_cons_succ.{0} <| And.intro @List.length_cons.{0} <| And.intro @List.length_nil.{0} <| And.intro @List.length_set.{0} <| And.intro @List.length_map.{0, 0} <| And.intro @List.all_cons.{0} <| And.intro @List.all_nil.{0} <| And.intro @List.take_succ_cons.{0} <| And.intro @List.take_zero.{0} <| And.intro @List.take_nil.{0} <| And.intro @List.drop_zero.{0} <| And.intro @List.drop_succ_cons.{0} <| And.intro @List.drop_nil.{0} <| And.intro @List.append_nil.{0} <| And.intro @List.nil_append.{0} <| @List.cons_append.{0}) := And.intro @boundsV_0 <| And.intro @boundsV_lhm <| And.intro @cutK_closed <| And.intro @cutK_open <| And.intro @fillG_nil <| And.intro @fillG_cons <| And.intro @fillG1_some <| And.intro @fillS_nil <| And.intro @fillS_cons <| And.intro @aggK_some <| And.intro @litK_some <| And.intro @cells_int <| And.intro @cells_bool <| And.intro @cells_str <| And.intro @cells_ptr <| And.intro @cells_slice <| And.intro @cells_map <| And.intro @cells_func <| And.intro @cells_nilFunc <| And.intro @cells_iface <| And.intro @cells_nilIface <| And.intro @cells_agg <| And.intro @one_int <| And.intro @one_bool <| And.intro @one_str <| And.intro @one_ptr <| And.intro @one_slice <| And.intro @one_map <| And.intro @one_func <| And.intro @one_nilFunc <| And.intro @one_iface <| And.intro @one_nilIface <| And.intro @one_byte <| And.intro @textC_bytes <| And.intro @rep_one <| And.intro @ifo_pos.{1} <| And.intro @ifo_neg.{1} <| And.intro @List.map_cons.{0, 0} <| And.intro @List.map_nil.{0, 0} <| And.intro @List.getD_cons_zero.{0} <| And.intro @List.getD_cons_succ.{0} <| And.intro @List.getElem?_cons_zero.{0} <| And.intro @List.getElem?_cons_succ.{0} <| And.intro @List.set_cons_zero.{0} <| And.intro @List.set_cons_succ.{0} <| And.intro @List.length_cons.{0} <| And.intro @List.length_nil.{0} <| And.intro @List.length_set.{0} <| And.intro @List.length_map.{0, 0} <| And.intro @List.all_cons.{0} <| And.intro @List.all_nil.{0} <| And.intro @List.take_succ_cons.{0} <| And.intro @List.take_zero.{0} <| And.intro @List.take_nil.{0} <| And.intro @List.drop_zero.{0} <| And.intro @List.drop_succ_cons.{0} <| And.intro @List.drop_nil.{0} <| And.intro @List.append_nil.{0} <| And.intro @List.nil_append.{0} <| @List.cons_append.{0}
theorem vq5 : type_of% (And.intro @Option.map_some.{0, 0} <| And.intro @Option.map_none.{0, 0} <| And.intro @Option.bind_some.{0, 0} <| And.intro @Bool.and_self <| And.intro @Bool.and_true <| And.intro @Bool.true_and <| And.intro @Bool.and_false <| And.intro @Bool.false_and <| And.intro @Bool.not_true <| And.intro @Bool.not_false <| And.intro @Bool.or_true <| And.intro @Bool.true_or <| And.intro @Bool.or_false <| And.intro @Bool.false_or <| And.intro @beq_self_eq_true.{0} <| And.intro @bq_t <| And.intro @bq_f <| And.intro @Nat.zero_add <| And.intro @Nat.add_zero <| And.intro @Nat.mul_one <| And.intro @Nat.one_mul <| And.intro @Nat.zero_mul <| And.intro @Int.toNat_natCast <| And.intro @Int.toNat_zero <| And.intro @eq_self.{1} <| And.intro @ne_eq.{1} <| And.intro @not_true_eq_false <| And.intro @not_false_eq_true <| And.intro @and_self <| And.intro @and_true <| And.intro @true_and <| And.intro @if_true.{1} <| And.intro @if_false.{1} <| And.intro @Bool.true_eq_false <| And.intro @Bool.false_eq_true <| And.intro @true_or <| And.intro @or_true <| And.intro @false_or <| @or_false) := And.intro @Option.map_some.{0, 0} <| And.intro @Option.map_none.{0, 0} <| And.intro @Option.bind_some.{0, 0} <| And.intro @Bool.and_self <| And.intro @Bool.and_true <| And.intro @Bool.true_and <| And.intro @Bool.and_false <| And.intro @Bool.false_and <| And.intro @Bool.not_true <| And.intro @Bool.not_false <| And.intro @Bool.or_true <| And.intro @Bool.true_or <| And.intro @Bool.or_false <| And.intro @Bool.false_or <| And.intro @beq_self_eq_true.{0} <| And.intro @bq_t <| And.intro @bq_f <| And.intro @Nat.zero_add <| And.intro @Nat.add_zero <| And.intro @Nat.mul_one <| And.intro @Nat.one_mul <| And.intro @Nat.zero_mul <| And.intro @Int.toNat_natCast <| And.intro @Int.toNat_zero <| And.intro @eq_self.{1} <| And.intro @ne_eq.{1} <| And.intro @not_true_eq_false <| And.intro @not_false_eq_true <| And.intro @and_self <| And.intro @and_true <| And.intro @true_and <| And.intro @if_true.{1} <| And.intro @if_false.{1} <| And.intro @Bool.true_eq_false <| And.intro @Bool.false_eq_true <| And.intro @true_or <| And.intro @or_true <| And.intro @false_or <| @or_false
theorem vqA : type_of% (And.intro @vq0 <| And.intro @vq1 <| And.intro @vq2 <| And.intro @vq3 <| And.intro @vq4 <| @vq5) := And.intro @vq0 <| And.intro @vq1 <| And.intro @vq2 <| And.intro @vq3 <| And.intro @vq4 <| @vq5
end Go.Vi
namespace Go.Vi
def laysOk (P : Program) : Nat → List Field → Nat → Bool
  | a, [], n => a == n
  | a, f :: r, n => f.offset == a && laysOk P (a + P.cellsOf f.type) r n
def rowKind (P : Program) (t : TypeId) : Bool := match P.underlying t with
  | some (.struct _) => true
  | _ => false
def okT (P : Program) : Nat → TypeId → Bool
  | 0, _ => false
  | n + 1, t => match P.underlying t with
    | some .bool | some (.int _) | some .string => P.cellsOf t == 1
    | some (.slice e) => okT P n e && decide (0 < P.cellsOf e) && P.cellsOf t == 1
    | some (.struct fs) => fs.toList.all (fun f => okT P n f.type) && laysOk P 0 fs.toList (P.cellsOf t)
    | _ => false
inductive Rep (P : Program) (h : Heap) : TypeId → List Value → Prop
  | bool (t : TypeId) (b : Bool) (ht : P.underlying t = some .bool) : Rep P h t [.bool b]
  | int (t : TypeId) (k : IntKind) (n : Int) (ht : P.underlying t = some (.int k)) (h0 : k.min ≤ n) (h1 : n ≤ k.max) : Rep P h t [.int k n]
  | string (t : TypeId) (s : ByteArray) (ht : P.underlying t = some .string) (hs : s.size ≤ maxLen) : Rep P h t [.string s]
  | slice0 (t e : TypeId) (ht : P.underlying t = some (.slice e)) : Rep P h t [.slice none 0 0]
  | sliceE (t e : TypeId) (ht : P.underlying t = some (.slice e)) : Rep P h t [.slice (some ⟨0, 0, some 0⟩) 0 0]
  | slice (t e : TypeId) (ht : P.underlying t = some (.slice e)) (b : Nat) (cs : List Value) (len cap : Nat) (hb : b < h.next) (hg : h.get b = some (.cells cs false none)) (hl : cs.length = cap * P.cellsOf e) (hc : len ≤ cap) (hp : 0 < cap) (hm : cap ≤ maxLen)
      (he : ∀ i, i < cap → Rep P h e ((cs.drop (i * P.cellsOf e)).take (P.cellsOf e))) : Rep P h t [.slice (some ⟨b, 0, none⟩) len cap]
  | struct (t : TypeId) (fs : Array Field) (ht : P.underlying t = some (.struct fs)) (cs : List Value) (hl : cs.length = P.cellsOf t)
      (hf : ∀ f, f ∈ fs.toList → Rep P h f.type ((cs.drop f.offset).take (P.cellsOf f.type))) : Rep P h t cs
theorem Rep.grow {P : Program} {h h' : Heap} (hn : h.next ≤ h'.next) (hk : ∀ b, b < h.next → h'.get b = h.get b) {t : TypeId} {cs : List Value} (r : Rep P h t cs) : Rep P h' t cs := by
  induction r with
  | bool t b ht => exact .bool t b ht
  | int t k n ht h0 h1 => exact .int t k n ht h0 h1
  | string t s ht hs => exact .string t s ht hs
  | slice0 t e ht => exact .slice0 t e ht
  | sliceE t e ht => exact .sliceE t e ht
  | slice t e ht b cs len cap hb hg hl hc hp hm he ih => exact .slice t e ht b cs len cap (by omega) (by rw [hk b hb]; exact hg) hl hc hp hm ih
  | struct t fs ht cs hl hf ih => exact .struct t fs ht cs hl ih
structure In0 (ρ : Map) (h : Heap) (w : World) : Prop where
  good : Good0 ρ h w
  ro : ∀ b i, ρ b = some i → i.ro = true
  dom : ∀ b, h.next ≤ b → ρ b = none
theorem In0.start (w : World) : In0 (fun _ => none) h0 w :=
  ⟨⟨fun _ _ _ h => (nomatch h), fun _ _ _ _ h => (nomatch h), fun _ _ h => (nomatch h), fun b _ => by simp [h0, Heap.get, Trie.get], fun _ _ _ h => (nomatch h)⟩, fun _ _ h => (nomatch h), fun _ _ => rfl⟩
theorem In0.row {ρ : Map} {h : Heap} {w : World} (g : In0 ρ h w) {B o : Nat} {c : Array Value} {el : TypeId} {fr : Nat × Nat} (hB : w.heap[B]? = some (.cells c el fr)) {cs : List Value} (ho : o + cs.length ≤ c.size)
    (rel : VRels ρ cs ((c.toList.drop o).take cs.length)) : In0 (upd ρ h.next ⟨B, o, none, c.size, true⟩) (h.new (.cells cs false none)) w := by
  have hn := g.dom h.next (Nat.le_refl _)
  have e := upd_ext (ρ := ρ) (n := h.next) ⟨B, o, none, c.size, true⟩ hn
  have hro : ∀ b i, upd ρ h.next ⟨B, o, none, c.size, true⟩ b = some i → i.ro = true := fun b i hb => by
    unfold upd at hb
    split at hb
    · cases hb; rfl
    · exact g.ro b i hb
  refine ⟨⟨fun b i x hb hx => ?_, fun b d i j hb _ _ _ hz => ?_, fun b i hb hz => ?_, fun b hb => ?_, fun b i x hb hx hz => ?_⟩, hro, fun b hb => ?_⟩
  · unfold upd at hb
    rw [get_new] at hx
    split at hb
    · rename_i hbn
      rw [if_pos hbn] at hx
      cases hb; cases hx
      exact ⟨rfl, c, el, fr, hB, rfl, ho, rel.ext e, (fun h => by cases h), (fun z hz => by cases hz)⟩
    · rename_i hbn
      rw [if_neg hbn] at hx
      exact ORel.move e rfl (g.good.rel _ _ _ hb hx)
  · rw [hro b i hb] at hz; cases hz
  · rw [hro b i hb] at hz; cases hz
  · have hb' : h.next + 1 ≤ b := hb
    rw [get_new, if_neg (by omega)]
    exact g.good.fresh b (by omega)
  · rw [get_new] at hx
    split at hx
    · cases hx; rfl
    · rename_i hbn
      unfold upd at hb
      rw [if_neg hbn] at hb
      exact g.good.ro _ _ _ hb hx hz
  · have hb' : h.next + 1 ≤ b := hb
    unfold upd
    rw [if_neg (by omega)]
    exact g.dom b (by omega)
theorem cells_take {w : World} {a : Addr} {n : Nat} {cs : List Value} (h : w.cells? 0 a n = some cs) (hn : 0 < n) : ∃ c el fr, w.heap[a.block]? = some (.cells c el fr) ∧ a.spot = none ∧ a.off + n ≤ c.size ∧ cs = (c.toList.drop a.off).take n := by
  obtain ⟨_, hl, hc⟩ := World.cells?_some h
  have at0 : ∀ i, i < n → ∃ c el fr, w.heap[a.block]? = some (.cells c el fr) ∧ (a.add i).spot = none ∧ c[a.off + i]? = cs[i]? := fun i hi => by
    have := hc i hi
    have hci : cs[i]? = some cs[i] := List.getElem?_eq_getElem (by omega)
    rw [hci] at this ⊢
    unfold World.cell? at this
    have hblk : (a.add i).block = a.block := by unfold Addr.add; split <;> rfl
    have hoff : (a.add i).off = a.off + i := by
      unfold Addr.add
      split
      · rename_i h0; rw [h0]; rfl
      · rfl
    rw [hblk, hoff] at this
    cases hb : w.heap[a.block]? with
    | none => rw [hb] at this; cases this
    | some o =>
      rw [hb] at this
      cases o with
      | cells c el fr =>
        simp only at this
        split at this
        · cases this
        · rename_i hs
          exact ⟨c, el, fr, rfl, by cases hq : (a.add i).spot with | none => rfl | some x => rw [hq] at hs; exact absurd rfl hs, this⟩
      | _ => simp at this
  obtain ⟨c, el, fr, hb, hs, h00⟩ := at0 0 hn
  have hs : a.spot = none := hs
  have hall : ∀ i, i < n → c[a.off + i]? = cs[i]? := fun i hi => by
    obtain ⟨c', el', fr', hb', _, h1⟩ := at0 i hi
    rw [hb] at hb'
    cases hb'
    exact h1
  have hsz : a.off + n ≤ c.size := by
    have h1 := hall (n - 1) (by omega)
    have h2 : cs[n - 1]? = some cs[n - 1] := List.getElem?_eq_getElem (by omega)
    rw [h2] at h1
    obtain ⟨h3, _⟩ := Array.getElem?_eq_some_iff.1 h1
    omega
  refine ⟨c, el, fr, hb, hs, hsz, ?_⟩
  refine List.ext_getElem? fun i => ?_
  rw [List.getElem?_take, List.getElem?_drop]
  by_cases hi : i < n
  · rw [if_pos hi, ← hall i hi, Array.getElem?_toList]
  · rw [if_neg hi]; exact List.getElem?_eq_none (by omega)
section
variable {H : Type} {enc : TypeId × Value → H} {P : Program} {w : World}
def Laid (P : Program) (w : World) (ρ : Map) (h : Heap) (t : TypeId) (cs : List Value) : Prop :=
  ∃ h' ρ' as', In0 ρ' h' w ∧ Ext ρ ρ' ∧ Grow h h' ∧ VRels ρ' as' cs ∧ Rep P h' t as'
theorem lay_elems {n : Nat} {t : TypeId} {z : Nat} (c : Array Value) (o : Nat) (one : ∀ ρ h i, In0 ρ h w → i < n → Laid P w ρ h t ((c.toList.drop (o + i * z)).take z)) (hn : o + n * z ≤ c.size) : ∀ m, m ≤ n → ∀ ρ h, In0 ρ h w →
    ∃ h' ρ' as', In0 ρ' h' w ∧ Ext ρ ρ' ∧ Grow h h' ∧ as'.length = m * z ∧ VRels ρ' as' ((c.toList.drop o).take (m * z)) ∧ ∀ i, i < m → Rep P h' t ((as'.drop (i * z)).take z) := by
  intro m
  induction m with
  | zero => intro _ ρ h g; exact ⟨h, ρ, [], g, .refl _, .refl _, by simp, by rw [Nat.zero_mul, List.take_zero]; exact .nil, fun i hi => by omega⟩
  | succ m ih =>
    intro hm ρ h g
    obtain ⟨h1, ρ1, as1, g1, e1, k1, l1, r1, p1⟩ := ih (by omega) ρ h g
    obtain ⟨h2, ρ2, as2, g2, e2, k2, r2, p2⟩ := one ρ1 h1 m g1 (by omega)
    have hmz : (m + 1) * z ≤ n * z := Nat.mul_le_mul_right _ hm
    rw [Nat.succ_mul] at hmz
    have hl2 : as2.length = z := by
      rw [r2.1, List.length_take, List.length_drop, Array.length_toList]
      omega
    refine ⟨h2, ρ2, as1 ++ as2, g2, e1.trans e2, k1.trans k2, by rw [List.length_append, l1, hl2, Nat.succ_mul], ?_, fun i hi => ?_⟩
    · have : (c.toList.drop o).take ((m + 1) * z) = (c.toList.drop o).take (m * z) ++ (c.toList.drop (o + m * z)).take z := by
        rw [Nat.succ_mul, List.take_add, List.drop_drop]
      rw [this]
      exact (r1.ext e2).append r2
    · rcases Nat.lt_or_ge i m with h3 | h3
      · have h4 := (p1 i h3).grow k2.next k2.get
        have h5 : i * z + z ≤ m * z := by
          have := Nat.mul_le_mul_right z (show i + 1 ≤ m by omega)
          rwa [Nat.succ_mul] at this
        rw [List.drop_append_of_le_length (by omega), List.take_append_of_le_length (by rw [List.length_drop]; omega)]
        exact h4
      · have : i = m := by omega
        subst this
        rw [List.drop_left' l1, List.take_of_length_le (by omega)]
        exact p2
theorem lay_fields {n : Nat} {cs : List Value} {fs : List Field} (one : ∀ (f : Field) ρ h, f ∈ fs → In0 ρ h w → Laid P w ρ h f.type ((cs.drop f.offset).take (P.cellsOf f.type))) (hcs : cs.length = n) : ∀ (a : Nat) (gs : List Field), (∀ f ∈ gs, f ∈ fs) → laysOk P a gs n = true → a ≤ n → ∀ ρ h, In0 ρ h w →
    ∃ h' ρ' as', In0 ρ' h' w ∧ Ext ρ ρ' ∧ Grow h h' ∧ VRels ρ' as' (cs.drop a) ∧ ∀ f ∈ gs, a ≤ f.offset ∧ Rep P h' f.type ((as'.drop (f.offset - a)).take (P.cellsOf f.type)) := by
  intro a gs
  induction gs generalizing a with
  | nil =>
    intro _ hl ha ρ h g
    have : a = n := by simpa [laysOk] using hl
    refine ⟨h, ρ, [], g, .refl _, .refl _, ?_, fun f hf => by cases hf⟩
    rw [List.drop_of_length_le (by omega)]
    exact .nil
  | cons f gs ih =>
    intro hin hl ha ρ h g
    simp only [laysOk, Bool.and_eq_true, beq_iff_eq] at hl
    obtain ⟨hoff, hl⟩ := hl
    have hle : ∀ (a : Nat) (gs : List Field), laysOk P a gs n = true → a ≤ n := by
      intro a gs
      induction gs generalizing a with
      | nil => intro h; have : a = n := by simpa [laysOk] using h
               omega
      | cons f gs ih =>
        intro h
        simp only [laysOk, Bool.and_eq_true, beq_iff_eq] at h
        have := ih _ h.2
        omega
    have hle1 := hle _ _ hl
    obtain ⟨h1, ρ1, as1, g1, e1, k1, r1, p1⟩ := one f ρ h (hin f List.mem_cons_self) g
    obtain ⟨h2, ρ2, as2, g2, e2, k2, r2, p2⟩ := ih (a + P.cellsOf f.type) (fun x hx => hin x (List.mem_cons_of_mem _ hx)) hl hle1 ρ1 h1 g1
    have hl1 : as1.length = P.cellsOf f.type := by
      rw [r1.1, List.length_take, List.length_drop]
      omega
    refine ⟨h2, ρ2, as1 ++ as2, g2, e1.trans e2, k1.trans k2, ?_, fun x hx => ?_⟩
    · have : cs.drop a = (cs.drop f.offset).take (P.cellsOf f.type) ++ cs.drop (a + P.cellsOf f.type) := by
        rw [hoff, ← List.drop_drop, List.take_append_drop]
      rw [this]
      exact (r1.ext e2).append r2
    · rcases List.mem_cons.1 hx with rfl | hx
      · refine ⟨by omega, ?_⟩
        rw [hoff, Nat.sub_self, List.drop_zero, List.take_left' hl1]
        exact p1.grow k2.next k2.get
      · obtain ⟨h3, h4⟩ := p2 x hx
        refine ⟨by omega, ?_⟩
        have : x.offset - a = as1.length + (x.offset - (a + P.cellsOf f.type)) := by omega
        rw [this, ← List.drop_drop, List.drop_left]
        exact h4
theorem lay_ok : ∀ (fuel n : Nat) (t : TypeId) (cs : List Value) (d : DataW H) (ps : List MemPlace), okT P n t = true → DataW.trod enc P w 0 (fun _ => true) true fuel t cs = some (d, ps) → ∀ ρ h, In0 ρ h w → Laid P w ρ h t cs := by
  intro fuel
  induction fuel with
  | zero => intro n t cs d ps _ h; cases h
  | succ fuel ih =>
    intro n t cs d ps ok hd ρ h g
    cases n with
    | zero => cases ok
    | succ n =>
      unfold okT at ok
      cases hu : P.underlying t with
      | none => rw [hu] at ok; cases ok
      | some u =>
        rw [hu] at ok
        cases u with
        | bool =>
          obtain ⟨b, rfl, _⟩ := DataW.trod_bool hu hd
          exact ⟨h, ρ, [.bool b], g, .refl _, .refl _, .cons (.bool b) .nil, .bool t b hu⟩
        | int k =>
          obtain ⟨m, rfl, _, hwf⟩ := DataW.trod_int hu hd
          simp only [Lit.wf, Bool.and_eq_true, decide_eq_true_eq] at hwf
          exact ⟨h, ρ, [.int _ m], g, .refl _, .refl _, .cons (.int _ m) .nil, .int t _ m hu hwf.1 hwf.2⟩
        | string =>
          obtain ⟨s, rfl, _, hs⟩ := DataW.trod_string hu hd
          exact ⟨h, ρ, [.string s], g, .refl _, .refl _, .cons (.string s) .nil, .string t s hu hs⟩
        | slice e =>
          simp only [Bool.and_eq_true, decide_eq_true_eq, beq_iff_eq] at ok
          obtain ⟨⟨ok, hz⟩, _⟩ := ok
          rcases DataW.trod_slice hu hd with ⟨rfl, _⟩ | ⟨a, len, cap, elems, rest, m, hf, rfl, _, _, hlc, hcm, hel, he1, he2, _⟩
          · exact ⟨h, ρ, _, g, .refl _, .refl _, .cons .slice0 .nil, .slice0 t e hu⟩
          · cases hf
            obtain ⟨hrl, he2⟩ := he2 rfl
            have each : ∀ i, i < cap → ∃ ecs y, w.cells? 0 (a.add (i * P.cellsOf e)) (P.cellsOf e) = some ecs ∧ DataW.trod enc P w 0 (fun _ => true) true fuel e ecs = some y := fun i hi => by
              have : ∃ y, (w.cells? 0 (a.add (i * P.cellsOf e)) (P.cellsOf e)).bind (DataW.trod enc P w 0 (fun _ => true) true fuel e) = some y := by
                rcases Nat.lt_or_ge i len with h1 | h1
                · rw [he1 i h1]; exact ⟨_, List.getElem?_eq_getElem (by omega)⟩
                · have := he2 (i - len) (by omega)
                  rw [show len + (i - len) = i from by omega] at this
                  rw [this]; exact ⟨_, List.getElem?_eq_getElem (by omega)⟩
              obtain ⟨y, hy⟩ := this
              obtain ⟨ecs, h1, h2⟩ := Option.bind_eq_some_iff.1 hy
              exact ⟨ecs, y, h1, h2⟩
            by_cases hc0 : cap = 0
            · subst hc0
              obtain rfl : len = 0 := by omega
              exact ⟨h, ρ, _, g, .refl _, .refl _, .cons (.sliceE a) .nil, .sliceE t e hu⟩
            · have hadd : ∀ k, a.spot = none → a.add k = ⟨a.block, a.off + k, none⟩ := fun k hs => by
                unfold Addr.add
                split
                · rename_i h0; subst h0; cases a; simp only at hs; subst hs; rfl
                · rfl
              obtain ⟨ecs0, y0, h00, _⟩ := each 0 (by omega)
              rw [Nat.zero_mul] at h00
              obtain ⟨c, el, fr, hB, hsp, _, _⟩ := cells_take (a := a.add 0) h00 hz
              have hsp : a.spot = none := hsp
              have hB : w.heap[a.block]? = some (.cells c el fr) := hB
              have one : ∀ i, i < cap → a.off + i * P.cellsOf e + P.cellsOf e ≤ c.size ∧ ∃ y, DataW.trod enc P w 0 (fun _ => true) true fuel e ((c.toList.drop (a.off + i * P.cellsOf e)).take (P.cellsOf e)) = some y := fun i hi => by
                obtain ⟨ecs, y, h1, h2⟩ := each i hi
                obtain ⟨c', el', fr', hB', _, h3, h4⟩ := cells_take h1 hz
                rw [hadd _ hsp] at hB' h3 h4
                have hB' : w.heap[a.block]? = some (.cells c' el' fr') := hB'
                rw [hB] at hB'
                cases hB'
                rw [h4] at h2
                exact ⟨h3, y, h2⟩
              have hsz : a.off + cap * P.cellsOf e ≤ c.size := by
                have := (one (cap - 1) (by omega)).1
                have h2 : cap * P.cellsOf e = (cap - 1) * P.cellsOf e + P.cellsOf e := by rw [← Nat.succ_mul, Nat.succ_eq_add_one, Nat.sub_add_cancel (by omega)]
                omega
              obtain ⟨h1, ρ1, as1, g1, e1, k1, l1, r1, p1⟩ := lay_elems (n := cap) (z := P.cellsOf e) c a.off (fun ρ h i gg hi => by
                obtain ⟨y, hy⟩ := (one i hi).2
                exact ih n e _ y.1 y.2 ok hy ρ h gg) hsz cap (Nat.le_refl _) ρ h g
              have g2 := g1.row hB (cs := as1) (o := a.off) (by omega) (by rw [l1]; exact r1)
              have e2 := upd_ext (ρ := ρ1) (n := h1.next) ⟨a.block, a.off, none, c.size, true⟩ (g1.dom _ (Nat.le_refl _))
              refine ⟨_, _, [.slice (some ⟨h1.next, 0, none⟩) len cap], g2, e1.trans e2, k1.trans (.new h1 _), .cons ?_ .nil, ?_⟩
              · obtain ⟨ab, ao, as⟩ := a
                simp only at hsp
                subst hsp
                exact .slice h1.next 0 len cap _ ao cap upd_self hlc (.inl rfl) (Nat.le_refl _) (fun _ => rfl) (fun z hz => by cases hz)
              · refine .slice t e hu h1.next as1 len cap (Nat.lt_succ_self _) (get_new_same h1 _) l1 hlc (by omega) hcm fun i hi => ?_
                exact (p1 i hi).grow (Nat.le_succ _) (Grow.new h1 _).get
        | struct fs =>
          simp only [Bool.and_eq_true] at ok
          obtain ⟨ok, hlay⟩ := ok
          obtain ⟨xs, m, hf, _, hcl, hxl, hall⟩ := DataW.trod_struct hu hd
          cases hf
          obtain ⟨h1, ρ1, as1, g1, e1, k1, r1, p1⟩ := lay_fields (P := P) (w := w) (fs := fs.toList) (cs := cs) (fun f ρ h hfm gg => by
            obtain ⟨i, hi, hfi⟩ := List.getElem_of_mem hfm
            have hi' : i < fs.size := by simpa using hi
            have hfi' : fs[i]? = some f := by rw [Array.getElem?_eq_getElem hi']; exact congrArg some (by simpa using hfi)
            have := hall i f hfi'
            have hx : xs[i]? = some xs[i] := List.getElem?_eq_getElem (by omega)
            rw [hx] at this
            exact ih n f.type _ xs[i].1 xs[i].2 (List.all_eq_true.1 ok f hfm) this ρ h gg) hcl 0 fs.toList (fun _ h => h) hlay (Nat.zero_le _) ρ h g
          rw [List.drop_zero] at r1
          exact ⟨h1, ρ1, as1, g1, e1, k1, r1, .struct t fs hu as1 (by rw [r1.1]; exact hcl) fun f hf => by
            have := (p1 f hf).2
            rwa [Nat.sub_zero] at this⟩
        | _ => cases ok
def RepV (P : Program) (h : Heap) (t : TypeId) (v : Value) : Prop := if rowKind P t then ∃ cs, v = .agg ⟨cs⟩ ∧ Rep P h t cs else Rep P h t [v]
theorem RepV.grow {P : Program} {h h' : Heap} (k : Grow h h') {t : TypeId} {v : Value} (r : RepV P h t v) : RepV P h' t v := by
  unfold RepV at r ⊢
  split at r
  · rename_i q; rw [if_pos q]; obtain ⟨cs, h1, h2⟩ := r; exact ⟨cs, h1, h2.grow k.next k.get⟩
  · rename_i q; rw [if_neg q]; exact r.grow k.next k.get
inductive RepVs (P : Program) (h : Heap) : List TypeId → List Value → Prop
  | nil : RepVs P h [] []
  | cons {t : TypeId} {v : Value} {ts : List TypeId} {vs : List Value} (hv : RepV P h t v) (hs : RepVs P h ts vs) : RepVs P h (t :: ts) (v :: vs)
theorem RepVs.grow {P : Program} {h h' : Heap} (k : Grow h h') {ts : List TypeId} {vs : List Value} (r : RepVs P h ts vs) : RepVs P h' ts vs := by
  induction r with
  | nil => exact .nil
  | cons hv _ ih => exact .cons (hv.grow k) ih
theorem wide_agg {base : Nat} {t : TypeId} {v : Value} (h : Value.okWide P w .any base t v) (hr : rowKind P t = true) : ∃ cs, v = .agg cs := by
  unfold rowKind at hr
  unfold Value.okWide at h
  split at hr
  · rename_i fs hu
    rw [hu] at h
    obtain ⟨cs, h, _⟩ := h
    exact ⟨cs, h⟩
  · cases hr
theorem wide_one {base n : Nat} {t : TypeId} {v : Value} (h : Value.okWide P w .any base t v) (hr : rowKind P t = false) (ok : okT P n t = true) : v.cells.toList = [v] := by
  cases v with
  | agg cs =>
    cases n with
    | zero => cases ok
    | succ n =>
      unfold okT at ok
      unfold rowKind at hr
      unfold Value.okWide at h
      cases hu : P.underlying t with
      | none => rw [hu] at ok; cases ok
      | some u =>
        rw [hu] at ok hr h
        cases u with
        | struct fs => cases hr
        | bool => simp only [Cell.okWide, Cell.ok, hu] at h
        | int k => simp only [Cell.okWide, Cell.ok, hu] at h
        | string => simp only [Cell.okWide, Cell.ok, hu] at h
        | slice e => simp only [Cell.okWide, Cell.ok, hu] at h
        | _ => cases ok
  | _ => rfl
theorem lay_args {base : Nat} : ∀ (ts : List TypeId) (vs : List Value) (ds : List (DataW H)) (ps : List MemPlace), ts.all (okT P 20) = true → DataW.TrodAll enc P w 0 (fun _ => true) true ts vs ds ps →
    (∀ (j : Nat) (t : TypeId) (v : Value), ts[j]? = some t → vs[j]? = some v → Value.okWide P w .any base t v) →
    ∀ ρ h, In0 ρ h w → ∃ h' ρ' as', In0 ρ' h' w ∧ Ext ρ ρ' ∧ Grow h h' ∧ VRels ρ' as' vs ∧ RepVs P h' ts as' := by
  intro ts
  induction ts with
  | nil =>
    intro vs ds ps _ h _ ρ hp g
    cases vs with
    | nil => exact ⟨hp, ρ, [], g, .refl _, .refl _, .nil, .nil⟩
    | cons v vs => cases ds <;> cases h
  | cons t ts ih =>
    intro vs ds ps ok h hk ρ hp g
    rw [List.all_cons, Bool.and_eq_true] at ok
    cases vs with
    | nil => cases ds <;> cases h
    | cons v vs =>
      cases ds with
      | nil => cases h
      | cons d ds =>
        obtain ⟨p, q, ⟨fuel, h1⟩, h2, _⟩ := h
        obtain ⟨hp1, ρ1, as1, g1, e1, k1, r1, p1⟩ := lay_ok fuel 20 t _ d p ok.1 h1 ρ hp g
        obtain ⟨hp2, ρ2, as2, g2, e2, k2, r2, p2⟩ := ih vs ds q ok.2 h2 (fun j t v a b => hk (j + 1) t v a b) ρ1 hp1 g1
        by_cases hr : rowKind P t = true
        · obtain ⟨cs, rfl⟩ := wide_agg (hk 0 t v rfl rfl) hr
          refine ⟨hp2, ρ2, .agg ⟨as1⟩ :: as2, g2, e1.trans e2, k1.trans k2, .cons ?_ r2, .cons ?_ p2⟩
          · exact .agg ⟨as1⟩ cs (r1.ext e2).1 (r1.ext e2).2
          · unfold RepV
            rw [if_pos hr]
            exact ⟨as1, rfl, p1.grow k2.next k2.get⟩
        · obtain ⟨v1, hv1⟩ : ∃ v1, as1 = [v1] := by
            have hlen : as1.length = 1 := by
              unfold okT at ok
              cases p1 with
              | struct _ fs ht cs hl hf => exact absurd (by unfold rowKind; rw [ht]) hr
              | _ => rfl
            match as1, hlen with
            | [v1], _ => exact ⟨v1, rfl⟩
          subst hv1
          have hr' : rowKind P t = false := by simpa using hr
          rw [wide_one (hk 0 t v rfl rfl) hr' ok.1] at r1
          refine ⟨hp2, ρ2, v1 :: as2, g2, e1.trans e2, k1.trans k2, .cons (r1.ext e2).head r2, .cons ?_ p2⟩
          unfold RepV
          rw [if_neg hr]
          exact p1.grow k2.next k2.get
end
end Go.Vi
namespace Go.Vi
section
variable {P : Program} {h : Heap} {t : TypeId} {cs : List Value}
theorem Rep.bool_inv (r : Rep P h t cs) (ht : P.underlying t = some .bool) : ∃ b, cs = [.bool b] := by
  cases r with
  | bool _ b _ => exact ⟨b, rfl⟩
  | int _ k n h1 => rw [ht] at h1; cases h1
  | string _ s h1 => rw [ht] at h1; cases h1
  | slice0 _ e h1 => rw [ht] at h1; cases h1
  | sliceE _ e h1 => rw [ht] at h1; cases h1
  | slice _ e h1 => rw [ht] at h1; cases h1
  | struct _ fs h1 => rw [ht] at h1; cases h1
theorem Rep.int_inv {k : IntKind} (r : Rep P h t cs) (ht : P.underlying t = some (.int k)) : ∃ n, cs = [.int k n] ∧ k.min ≤ n ∧ n ≤ k.max := by
  cases r with
  | int _ k n h1 h2 h3 => rw [ht] at h1; cases h1; exact ⟨n, rfl, h2, h3⟩
  | bool _ b h1 => rw [ht] at h1; cases h1
  | string _ s h1 => rw [ht] at h1; cases h1
  | slice0 _ e h1 => rw [ht] at h1; cases h1
  | sliceE _ e h1 => rw [ht] at h1; cases h1
  | slice _ e h1 => rw [ht] at h1; cases h1
  | struct _ fs h1 => rw [ht] at h1; cases h1
theorem Rep.string_inv (r : Rep P h t cs) (ht : P.underlying t = some .string) : ∃ s : List UInt8, cs = [.string (strOf s)] ∧ s.length ≤ maxLen := by
  cases r with
  | string _ s h1 h2 => exact ⟨strL s, rfl, by unfold strL; rw [Array.length_toList]; exact h2⟩
  | int _ k n h1 => rw [ht] at h1; cases h1
  | bool _ b h1 => rw [ht] at h1; cases h1
  | slice0 _ e h1 => rw [ht] at h1; cases h1
  | sliceE _ e h1 => rw [ht] at h1; cases h1
  | slice _ e h1 => rw [ht] at h1; cases h1
  | struct _ fs h1 => rw [ht] at h1; cases h1
theorem Rep.slice_inv {e : TypeId} (r : Rep P h t cs) (ht : P.underlying t = some (.slice e)) : cs = [.slice none 0 0] ∨ cs = [.slice (some ⟨0, 0, some 0⟩) 0 0] ∨ ∃ b row len cap, cs = [.slice (some ⟨b, 0, none⟩) len cap] ∧ b < h.next ∧
    h.get b = some (.cells row false none) ∧ row.length = cap * P.cellsOf e ∧ len ≤ cap ∧ 0 < cap ∧ cap ≤ maxLen ∧ ∀ i, i < cap → Rep P h e ((row.drop (i * P.cellsOf e)).take (P.cellsOf e)) := by
  cases r with
  | slice0 _ e h1 => exact .inl rfl
  | sliceE _ e h1 => exact .inr (.inl rfl)
  | slice _ e h1 b row len cap h2 h3 h4 h5 h6 h7 h8 => rw [ht] at h1; cases h1; exact .inr (.inr ⟨b, row, len, cap, rfl, h2, h3, h4, h5, h6, h7, h8⟩)
  | string _ s h1 h2 => rw [ht] at h1; cases h1
  | int _ k n h1 => rw [ht] at h1; cases h1
  | bool _ b h1 => rw [ht] at h1; cases h1
  | struct _ fs h1 => rw [ht] at h1; cases h1
theorem Rep.struct_inv {fs : Array Field} (r : Rep P h t cs) (ht : P.underlying t = some (.struct fs)) : cs.length = P.cellsOf t ∧ ∀ f, f ∈ fs.toList → Rep P h f.type ((cs.drop f.offset).take (P.cellsOf f.type)) := by
  cases r with
  | struct _ fs h1 _ h2 h3 => rw [ht] at h1; cases h1; exact ⟨h2, h3⟩
  | slice0 _ e h1 => rw [ht] at h1; cases h1
  | sliceE _ e h1 => rw [ht] at h1; cases h1
  | slice _ e h1 => rw [ht] at h1; cases h1
  | string _ s h1 h2 => rw [ht] at h1; cases h1
  | int _ k n h1 => rw [ht] at h1; cases h1
  | bool _ b h1 => rw [ht] at h1; cases h1
theorem bytes_row {e : TypeId} (he : P.underlying e = some (.int .u8)) (hz : P.cellsOf e = 1) : ∀ (row : List Value) (n : Nat), row.length = n → (∀ i, i < n → Rep P h e ((row.drop (i * P.cellsOf e)).take (P.cellsOf e))) → ∃ l : List UInt8, row = l.map byteV := by
  intro row
  induction row with
  | nil => intro n _ _; exact ⟨[], rfl⟩
  | cons v row ih =>
    intro n hn hr
    subst hn
    obtain ⟨l, hl⟩ := ih row.length rfl (fun i hi => by
      have := hr (i + 1) (by simp; omega)
      rw [hz] at this ⊢
      rw [Nat.mul_one] at this ⊢
      rwa [List.drop_succ_cons] at this)
    have := hr 0 (by simp)
    rw [hz] at this
    obtain ⟨m, hm, h0, h1⟩ := this.int_inv he
    simp at hm
    have h0 : 0 ≤ m := h0
    have h1 : m ≤ 255 := h1
    refine ⟨UInt8.ofNat m.toNat :: l, ?_⟩
    rw [List.map_cons, ← hl, hm]
    have : (UInt8.ofNat m.toNat).toNat = m.toNat := by
      simp only [UInt8.toNat_ofNat']
      omega
    unfold byteV
    rw [this, Int.toNat_of_nonneg h0]
end
end Go.Vi
namespace Go.Vi
theorem KeptW.same {W W' : World} (k : KeptW W W') {p : MemPlace} (hp : p.block < W.heap.size) : W.sameAt W' p := by
  cases p with
  | cell b o => exact World.cell?_of_block (w := W) (k.2.2.2 b hp)
  | map b => exact k.2.2.2 b hp
def rowsOk (P : Program) (ts : List TypeId) : Bool := ts.all fun t => P.readableRec t && decide (t < P.types.size) && okT P 20 t
theorem trodAll_kept {H : Type} {enc : TypeId × Value → H} {P : Program} {W W' : World} (hl : laidOutB P = true) (k : KeptW W W') : ∀ (ts : List TypeId) (vs : List Value) (ds : List (DataW H)) (ps : List MemPlace),
    rowsOk P ts = true → DataW.TrodAll enc P W 0 (fun _ => true) true ts vs ds ps → DataW.TrodAll enc P W' 0 (fun b => decide (b < W.heap.size)) true ts vs ds ps := by
  intro ts
  induction ts with
  | nil => intro vs ds ps _ h; cases vs <;> cases ds <;> first | exact h | cases h
  | cons t ts ih =>
    intro vs ds ps hr h
    unfold rowsOk at hr
    rw [List.all_cons] at hr
    simp only [Bool.and_eq_true, decide_eq_true_eq] at hr
    cases vs with
    | nil => cases ds <;> cases h
    | cons v vs =>
      cases ds with
      | nil => cases h
      | cons d ds =>
        obtain ⟨p, q, h1, h2, h3⟩ := h
        have hlt : ∀ x ∈ p, x.block < W.heap.size := by
          obtain ⟨n, hn⟩ := h1
          exact DataW.trod_lt n t _ (d, p) hn
        exact ⟨p, q, WideElems.Trod_stays hl hr.1.1.1 hr.1.1.2 h1 (fun x hx => k.same (hlt x hx)) (fun x hx => by simpa using hlt x hx), ih vs ds q hr.2 h2, h3⟩
theorem Rep.field {P : Program} {h : Heap} {t : TypeId} {cs : List Value} {fs : Array Field} (r : Rep P h t cs) (ht : P.underlying t = some (.struct fs)) (k : Nat) {f : Field} (hk : fs.toList[k]? = some f) {n : Nat} (hn : P.cellsOf f.type = n) :
    Rep P h f.type ((cs.drop f.offset).take n) := by
  subst hn
  exact (r.struct_inv ht).2 f (List.mem_of_getElem? hk)
end Go.Vi
namespace Go.Vi
abbrev voidS : Value := .slice (some ⟨0, 0, some 0⟩) 0 0
def RowV (h : Heap) (z : Nat) (d : Value) (l : List Value) : Prop := ((d = .slice none 0 0 ∨ d = voidS) ∧ l = []) ∨
  ∃ b o n c row w p, b < h.next ∧ d = .slice (some ⟨b, o, none⟩) n c ∧ n ≤ c ∧ n * z = l.length ∧ h.get b = some (.cells row w p) ∧ o + l.length ≤ row.length ∧ (row.drop o).take l.length = l
def BRow (h : Heap) (d : Value) (l : List UInt8) : Prop := RowV h 1 d (l.map byteV)
theorem RowV.nil (h : Heap) (z : Nat) : RowV h z (.slice none 0 0) [] := .inl ⟨.inl rfl, rfl⟩
theorem RowV.void (h : Heap) (z : Nat) : RowV h z voidS [] := .inl ⟨.inr rfl, rfl⟩
theorem RowV.keep {h h' : Heap} {z : Nat} {d : Value} {l : List Value} (x : RowV h z d l) (hn : h.next ≤ h'.next) (g : ∀ b, blkOf d = some b → b < h.next → h'.get b = h.get b) : RowV h' z d l := by
  rcases x with x | ⟨b, o, n, c, row, w, p, hb, rfl, hc, hl, hg, h1, h2⟩
  · exact .inl x
  · exact .inr ⟨b, o, n, c, row, w, p, Nat.lt_of_lt_of_le hb hn, rfl, hc, hl, by rw [g b rfl hb]; exact hg, h1, h2⟩
theorem RowV.grow {h h' : Heap} {z : Nat} {d : Value} {l : List Value} (x : RowV h z d l) (g : Grow h h') : RowV h' z d l := x.keep g.next fun b _ hb => g.get b hb
theorem Own.row {h0 h : Heap} {z elem : Nat} {d : Value} {l : List Value} (o : Own h0 h z elem d l) : RowV h z d l := by
  rcases o with ⟨rfl, rfl⟩ | ⟨b, n, rfl, hn, hl, _, hb, hg⟩
  · exact .nil h z
  · exact .inr ⟨b, 0, n, n, l, true, _, hb, rfl, Nat.le_refl _, hl, hg, by omega, by rw [List.drop_zero, List.take_length]⟩
theorem RowV.own {h : Heap} {z b n c : Nat} {row : List Value} {w : Bool} {p : Option (Nat × Nat)} (hb : b < h.next) (hc : n ≤ c) (hg : h.get b = some (.cells row w p)) (hl : n * z ≤ row.length) : RowV h z (.slice (some ⟨b, 0, none⟩) n c) (row.take (n * z)) := by
  have e : (row.take (n * z)).length = n * z := by rw [List.length_take]; omega
  exact .inr ⟨b, 0, n, c, row, w, p, hb, rfl, hc, e.symm, hg, by omega, by rw [List.drop_zero, e]⟩
theorem RowV.one {h : Heap} {z : Nat} {d : Value} {l : List Value} (x : RowV h z d l) : oneCell d = true := by
  rcases x with ⟨rfl | rfl, _⟩ | ⟨b, o, n, c, row, w, p, hb, rfl, _⟩ <;> rfl
theorem RowV.is {h : Heap} {z : Nat} {d : Value} {l : List Value} (x : RowV h z d l) : ∃ a n c, d = .slice a n c ∧ n * z = l.length ∧ n ≤ c := by
  rcases x with ⟨rfl | rfl, rfl⟩ | ⟨b, o, n, c, row, w, p, hb, rfl, hc, hl, _⟩
  · exact ⟨none, 0, 0, rfl, by simp, Nat.le_refl _⟩
  · exact ⟨_, 0, 0, rfl, by simp, Nat.le_refl _⟩
  · exact ⟨_, n, c, rfl, hl, hc⟩
theorem RowV.lt {h : Heap} {z : Nat} {d : Value} {l : List Value} (x : RowV h z d l) (hl : l ≠ []) {b : Nat} (hb : blkOf d = some b) : b < h.next := by
  rcases x with ⟨_, q⟩ | ⟨b', o, n, c, row, w, p, hb', rfl, _⟩
  · exact absurd q hl
  · cases hb; exact hb'
theorem BRow.is {h : Heap} {d : Value} {l : List UInt8} (x : BRow h d l) : ∃ a c, d = .slice a l.length c := by
  obtain ⟨a, n, c, rfl, hn, _⟩ := RowV.is x
  rw [List.length_map, Nat.mul_one] at hn
  exact ⟨a, c, by rw [hn]⟩
theorem BRow.grow {h h' : Heap} {d : Value} {l : List UInt8} (x : BRow h d l) (g : Grow h h') : BRow h' d l := RowV.grow x g
theorem BRow.one {h : Heap} {d : Value} {l : List UInt8} (x : BRow h d l) : oneCell d = true := RowV.one x
theorem RowV.elem {h : Heap} {z : Nat} {d : Value} {l : List Value} (x : RowV h z d l) {i : Nat} (hz : 0 < z) (hi : i * z + z ≤ l.length) : ∃ b o n c, d = .slice (some ⟨b, o, none⟩) n c ∧ b < h.next ∧ n * z = l.length ∧ i < n ∧ cellsAt (h.get b) (o + i * z) z = some ((l.drop (i * z)).take z) := by
  rcases x with ⟨_, rfl⟩ | ⟨b, o, n, c, row, w, p, hb, rfl, hc, hl, hg, h1, h2⟩
  · simp only [List.length_nil] at hi; omega
  · have hin : i < n := by
      refine Nat.lt_of_not_le fun hx => ?_
      have := Nat.mul_le_mul_right z hx
      omega
    refine ⟨b, o, n, c, rfl, hb, hl, hin, ?_⟩
    rw [hg, cellsAt_some, if_pos (by omega)]
    congr 1
    conv => rhs; rw [← h2]
    rw [List.drop_take, List.take_take, List.drop_drop, Nat.min_eq_left (by omega)]
theorem cells_byte {l : List UInt8} {i : Nat} {c : UInt8} (h : l[i]? = some c) : ((l.map byteV).drop (i * 1)).take 1 = [byteV c] := by
  obtain ⟨hi, rfl⟩ := List.getElem?_eq_some_iff.1 h
  rw [Nat.mul_one, List.drop_eq_getElem_cons (by simpa using hi)]
  simp
theorem cells_one1 {x : Option Blk} {o : Nat} {v : Value} (h : cellsAt x o 1 = some [v]) : cellAt x o = some v := by
  cases x with
  | none => cases h
  | some y =>
    cases y with
    | cells cs w p =>
      rw [cellsAt_some] at h
      split at h
      · have h0 : ((cs.drop o).take 1)[0]? = some v := by rw [Option.some.inj h]; rfl
        rw [List.getElem?_take, if_pos (by omega), List.getElem?_drop, Nat.add_zero] at h0
        exact h0
      · cases h
    | _ => cases h
theorem BRow.elems {h : Heap} {d : Value} {l : List UInt8} (x : BRow h d l) (hl : l ≠ []) : ∃ b o c, d = .slice (some ⟨b, o, none⟩) l.length c ∧ b < h.next ∧ ∀ (i : Nat) (y : UInt8), l[i]? = some y → cellAt (h.get b) (o + i) = some (.int .u8 y.toNat) := by
  have hp : 0 < l.length := List.length_pos_iff.2 hl
  obtain ⟨b, o, n, c, rfl, hb, hn, _, _⟩ := RowV.elem x (i := 0) (by omega) (by simp; omega)
  rw [List.length_map, Nat.mul_one] at hn
  subst hn
  refine ⟨b, o, c, rfl, hb, fun i y hi => ?_⟩
  have hil := (List.getElem?_eq_some_iff.1 hi).1
  obtain ⟨b', o', n', c', he, _, _, _, hc⟩ := RowV.elem x (i := i) (by omega) (by simp; omega)
  cases he
  rw [cells_byte hi, Nat.mul_one] at hc
  exact cells_one1 hc
theorem flat_elem {α : Type} {f : α → List Value} {z : Nat} : ∀ {xs : List α} {i : Nat} {x : α}, (∀ y ∈ xs, (f y).length = z) → xs[i]? = some x → ((xs.flatMap f).drop (i * z)).take z = f x
  | [], i, x, _, h => by cases h
  | y :: xs, 0, x, hf, h => by
    cases h
    rw [Nat.zero_mul, List.drop_zero, List.flatMap_cons, List.take_left' (hf y List.mem_cons_self)]
  | y :: xs, i + 1, x, hf, h => by
    rw [Nat.succ_mul, Nat.add_comm, List.flatMap_cons, ← List.drop_drop, List.drop_left' (hf y List.mem_cons_self)]
    exact flat_elem (fun y hy => hf y (List.mem_cons_of_mem _ hy)) h
theorem flat_len {α : Type} {f : α → List Value} {z : Nat} : ∀ {xs : List α}, (∀ y ∈ xs, (f y).length = z) → (xs.flatMap f).length = xs.length * z
  | [], _ => by simp
  | y :: xs, hf => by
    rw [List.flatMap_cons, List.length_append, hf y List.mem_cons_self, flat_len fun y hy => hf y (List.mem_cons_of_mem _ hy), List.length_cons, Nat.succ_mul]
    omega
section
variable {E : Env} {t elem z bytes : Nat} {h : Heap}
theorem srcV_row {d : Value} {l : List Value} {n : Nat} (x : RowV h z d l) (hn : n * z = l.length) (hz : 0 < z) : srcV z d h = some (n, l) := by
  rcases x with ⟨hd, rfl⟩ | ⟨b, o, m, c, row, w, p, hb, rfl, hc, hl, hg, h1, h2⟩
  · have : n = 0 := by
      rcases Nat.eq_zero_or_pos n with h | h
      · exact h
      · have := Nat.mul_pos h hz; simp at hn; omega
    subst this
    rcases hd with rfl | rfl <;> rfl
  · obtain rfl : n = m := Nat.eq_of_mul_eq_mul_right hz (by omega)
    unfold srcV
    by_cases h0 : n = 0
    · subst h0
      have : l = [] := List.length_eq_zero_iff.1 (by omega)
      subst this
      simp
    · simp only [if_neg h0, rdN_at]
      rw [hg, cellsAt_some, if_pos (by omega), hl, h2]
      rfl
theorem copy_row (k : SlIs E t elem z bytes) {b o dlen dcap n : Nat} {x : Value} {l cs : List Value} {p : Option (Nat × Nat)} (hx : RowV h z x l) (hn : n * z = l.length) (ho : l.all oneCell = true) (hg : h.get b = some (.cells cs true p))
    (hf : o + min n dlen * z ≤ cs.length) : copyV E t (.slice (some ⟨b, o, none⟩) dlen dcap) x h = some (.int .i64 (min n dlen : Nat), if min n dlen = 0 then h else h.set b (.cells (splice cs o (l.take (min n dlen * z))) true p)) := by
  obtain ⟨⟨i, e, hi, hu, he, hz, hb, hzz⟩, hp⟩ := k
  unfold copyV
  have hz0 : (z == 0) = false := by simpa using hp
  simp only [hi, Option.bind_eq_bind, Option.bind_some, hu, he, hz, srcV_row hx hn (by omega)]
  simp only [decide_eq_false hp, ← hn, ne_eq, not_true_eq_false, decide_false, Bool.or_self, ho, Bool.not_true, Bool.false_eq_true, if_false]
  by_cases h0 : min n dlen = 0
  · rw [if_pos h0, if_pos h0, h0]; rfl
  · rw [if_neg h0, if_neg h0]
    have hlt : (l.take (min n dlen * z)).length = min n dlen * z := by
      have := Nat.mul_le_mul_right z (Nat.min_le_left n dlen)
      rw [List.length_take]; omega
    have hall : (l.take (min n dlen * z)).all oneCell = true := List.all_eq_true.2 fun v hv => List.all_eq_true.1 ho v (List.mem_of_mem_take hv)
    rw [wrN_at _ _ _ _ hall, hg, putAt_some hall (by omega)]
    rfl
theorem slV0 (k : SlIs E t elem z bytes) {a : Option Addr} {len cap : Nat} {lo hi mx : Option Value} : sliceV E t (.slice a len cap) lo hi mx = none := by
  obtain ⟨⟨i, e, hi', hu, _⟩, hp⟩ := k
  unfold sliceV
  simp only [hi', Option.bind_eq_bind, Option.bind_some, hu]
theorem slS0 (k : SlIs E t elem z bytes) {b o len cap : Nat} {lo hi mx : Option Value} : sliceS E t (.slice (some ⟨b, o, none⟩) len cap) lo hi mx h = cutK z b o (h.get b) (boundsV len cap lo hi mx) := by
  have := slS k (b := b) (o := o) (len := len) (cap := cap) (lo := lo) (hi := hi) (mx := mx) (h := h)
  rw [slV0 k, orK_none] at this
  exact this
theorem srcA_void {e : Ty} : srcA true e voidS h = (some []).map fun l => (0, l) := rfl
theorem app_void (k : SlIs E t elem z bytes) {xt : TypeId} (hx : okSrc E (some xt) = some true) {b o len cap : Nat} :
    appendV E t (some xt) (.slice (some ⟨b, o, none⟩) len cap) voidS h = appK z bytes elem h b o len cap (h.get b) 0 (okB 0 z (some [])) := app_aux k hx fun _ _ => srcA_void
theorem app0_void (k : SlIs E t elem z bytes) {xt : TypeId} (hx : okSrc E (some xt) = some true) :
    appendV E t (some xt) (.slice none 0 0) voidS h = appN z bytes elem h 0 (okB 0 z (some [])) := appn_aux k hx fun _ _ => srcA_void
theorem brow_text {s d e : TypeId} (k : BtIs E s d e) {x : Value} {l : List UInt8} (r : BRow h x l) :
    orK (atH h (orK (convV E s d x) (convR E s d x h))) (newK h (convN E s d x)) = some (.string (strOf l), h) := by
  rcases r with ⟨hd, hl⟩ | ⟨b, o, n, c, row, w, p, hb, rfl, hc, hl, hg, h1, h2⟩
  · have : l = [] := by simpa using hl
    subst this
    rcases hd with rfl | rfl
    · exact text_none k 0 0 h
    · exact text_void k h
  · rw [text_cells k, hg, cellsAt_some]
    rw [Nat.mul_one] at hl
    rw [if_pos (by omega), hl, h2, textC_bytes]
    rfl
theorem app_own0 (k : SlIs E t elem z bytes) {xt : TypeId} (hx : okSrc E (some xt) = some true) {b n : Nat} {wr : Bool} {d : Value} {l : List Value} (hd : RowV h z d l) (hn : n * z = l.length) (hp : 0 < n) (ho : l.all oneCell = true) (hg : h.get b = some (.cells [] wr none))
    (hb : n * bytes ≤ 68719476736) (hl : n ≤ 68719476736) :
    appendV E t (some xt) (.slice (some ⟨b, 0, none⟩) 0 0) d h = some (.slice (some ⟨h.next, 0, none⟩) n n, h.new (.cells l true (some (z, elem)))) := by
  have hz := k.pos
  rcases hd with ⟨_, rfl⟩ | ⟨b2, o, m, c, row, w, p, hb2, rfl, hc, hl2, hg2, h1, h2⟩
  · have := Nat.mul_pos hp (Nat.pos_of_ne_zero hz); simp at hn; omega
  · obtain rfl : n = m := Nat.eq_of_mul_eq_mul_right (Nat.pos_of_ne_zero hz) (by omega)
    rw [app_row k hx, if_neg (by omega), hg2, cellsAt_some, if_pos (by omega), hl2, h2, okB_some (by omega) ho, hg, appK_lit hp (by simp) (by rw [Nat.zero_add]; exact hb) (by omega)]
    simp
theorem app_none0 (k : SlIs E t elem z bytes) {xt : TypeId} (hx : okSrc E (some xt) = some true) {b len cap : Nat} {o : Nat} {d : Value} (hd : RowV h z d []) (hlc : len ≤ cap) :
    appendV E t (some xt) (.slice (some ⟨b, o, none⟩) len cap) d h = some (.slice (some ⟨b, o, none⟩) len cap, h) := by
  have hz := k.pos
  rcases hd with ⟨rfl | rfl, _⟩ | ⟨b2, o2, m, c, row, w, p, hb2, rfl, hc, hl2, hg2, h1, h2⟩
  · rw [app_nil k hx, okB_some (by simp) rfl, appK_zero hlc]
  · rw [app_void k hx, okB_some (by simp) rfl, appK_zero hlc]
  · have : m = 0 := by
      rcases Nat.eq_zero_or_pos m with h | h
      · exact h
      · have := Nat.mul_pos h (Nat.pos_of_ne_zero hz); simp at hl2; omega
    subst this
    rw [app_row k hx, if_pos rfl, okB_some (by simp) rfl, appK_zero hlc]
end
end Go.Vi
namespace Go.Vi
section
variable {E : Env} {t elem z bytes : Nat}
theorem own_add (k : SlIs E t elem z bytes) {xt : TypeId} (hx : okSrc E (some xt) = some true) {h0 h : Heap} {d x : Value} {l m : List Value} (o : Own h0 h z elem d l) (g : Grow h0 h) (r : RowV h z x m)
    (hall : m.all oneCell = true) (hl : l.length + m.length ≤ 1000000000) (hb : bytes ≤ 60) :
    ∃ d' h', appendV E t (some xt) d x h = some (d', h') ∧ Own h0 h' z elem d' (l ++ m) ∧ Grow h0 h' ∧ h.next ≤ h'.next ∧ (blkOf d' = blkOf d ∨ blkOf d' = some h.next) ∧ ∀ c, c < h.next → blkOf d ≠ some c → h'.get c = h.get c := by
  have hz := k.pos
  have none0 : ∀ {b2 o2 c2 : Nat}, m = [] → appendV E t (some xt) d (.slice (some ⟨b2, o2, none⟩) 0 c2) h = some (d, h) := fun {b2 o2 c2} hm => by
    rcases o with ⟨rfl, _⟩ | ⟨b, n, rfl, hn, _, _, _, hg⟩
    · rw [app0_row k hx, if_pos rfl, okB_some (by simp) rfl, appN_zero]
    · rw [app_row k hx, if_pos rfl, okB_some (by simp) rfl, appK_zero (Nat.le_refl _)]
  rcases r with ⟨rfl | rfl, rfl⟩ | ⟨b2, o2, n, c2, row, w, p, hb2, rfl, hc, hl2, hg2, h1, h2⟩
  · refine ⟨d, h, ?_, by rw [List.append_nil]; exact o, g, Nat.le_refl _, .inl rfl, fun _ _ _ => rfl⟩
    rcases o with ⟨rfl, _⟩ | ⟨b, n, rfl, hn, _, _, _, hg⟩
    · rw [app0_nil k hx, okB_some (by simp) rfl, appN_zero]
    · rw [app_nil k hx, okB_some (by simp) rfl, appK_zero (Nat.le_refl _)]
  · refine ⟨d, h, ?_, by rw [List.append_nil]; exact o, g, Nat.le_refl _, .inl rfl, fun _ _ _ => rfl⟩
    rcases o with ⟨rfl, _⟩ | ⟨b, n, rfl, hn, _, _, _, hg⟩
    · rw [app0_void k hx, okB_some (by simp) rfl, appN_zero]
    · rw [app_void k hx, okB_some (by simp) rfl, appK_zero (Nat.le_refl _)]
  · rcases Nat.eq_zero_or_pos n with rfl | hn
    · have hm : m = [] := List.eq_nil_of_length_eq_zero (by omega)
      subst hm
      exact ⟨d, h, none0 rfl, by rw [List.append_nil]; exact o, g, Nat.le_refl _, .inl rfl, fun _ _ _ => rfl⟩
    · have hs : cellsAt (h.get b2) o2 (n * z) = some m := by
        rw [hg2, cellsAt_some, hl2, if_pos h1, h2]
      obtain ⟨d', h', q1, q2, q3, q4, q5, q6⟩ := own_app k hx o g (b2 := b2) (o2 := o2) (n := n) (c2 := c2) hs hn hall hl hb
      exact ⟨d', h', q1, q2, q3, by omega, .inr q5, q6⟩
end
end Go.Vi
namespace Go.Vi
section
variable {E : Env} {s t e : TypeId}
theorem heavy_conv (hne : s ≠ t) (d : Option Tmp) (ty : TypeId) (x : Operand) : heavyOp (SOp.o ⟨d, .convert s t x, ty, none⟩) = false := by
  show (s == t) = false
  simpa using hne
theorem bt_none (k : BtIs E s t e) (a : Option Addr) (n c : Nat) : convV E s t (.slice a n c) = none := by
  obtain ⟨i, hi, hu⟩ := Option.map_eq_some_iff.1 k.s
  obtain ⟨j, hj, hv⟩ := Option.map_eq_some_iff.1 k.d
  unfold convV
  simp only [hi, hj, Option.bind_eq_bind, Option.bind_some, hu, hv]
theorem bt_new (k : BtIs E s t e) (x : Value) : convN E s t x = none := by
  obtain ⟨i, hi, hu⟩ := Option.map_eq_some_iff.1 k.s
  obtain ⟨j, hj, hv⟩ := Option.map_eq_some_iff.1 k.d
  unfold convN
  simp only [hi, hj, Option.bind_eq_bind, Option.bind_some, hu, hv]
theorem convR_row (k : BtIs E s t e) {h : Heap} {x : Value} {l : List UInt8} (r : BRow h x l) : convR E s t x h = some (.string (strOf l)) := by
  have hb := brow_text k r
  obtain ⟨a, c, rfl⟩ := r.is
  rw [bt_none k, bt_new k, orK_none] at hb
  cases hr : convR E s t (.slice a l.length c) h with
  | none => rw [hr] at hb; cases hb
  | some v => rw [hr] at hb; injection hb with hb; injection hb with hb; rw [hb]
theorem d_conv (k : BtIs E s t e) (hne : s ≠ t) (p : Plan) (d : Option Tmp) (ty : TypeId) (r : List SOp) (j : Nat) (ρ : Fr) (h : Heap) (hs : List Heap) (rs : List HSeen) (Q : Qt) (x : Operand) :
    DR E p (⟨d, .convert s t x, ty, none⟩ :: r) j ρ h hs rs Q = dsliceQ E p d (.convert s t x) ty r j ρ h hs rs Q (convV E s t (evH ρ x)) (convR E s t (evH ρ x) h) := by
  unfold dsliceQ
  split
  · rename_i v hv
    exact d_pure (X := some v) (heavy_conv hne d ty x) ((if_neg hne).trans hv) fun call => (se_conv E call d ty _ h hne x).trans (by rw [hv]; rfl)
  · rename_i hv
    exact d_read (heavy_conv hne d ty x) ((if_neg hne).trans hv) (if_neg hne) fun call => (se_conv E call d ty _ h hne x).trans (by
      rw [hv, bt_new k, orK_none]
      cases convR E s t (evH ρ x) h <;> rfl)
theorem seen_conv (hne : s ≠ t) (p : Plan) (hs : List Heap) (j : Nat) (d : Option Tmp) (x : Operand) (ty : TypeId) (ρ : Fr) (v : Value) :
    seenH E p hs ⟨j, ⟨d, .convert s t x, ty, none⟩, ρ, v⟩ = seenAt (convR E s t (evH ρ x)) v (p.hi.getD j 0 + 1 - p.lo.getD j 0) (hs.drop (p.lo.getD j 0)) := by
  rw [← seenAt_eq]
  have hr : ∀ h, readV E (evH ρ) h (SOp.o ⟨d, .convert s t x, ty, none⟩) = convR E s t (evH ρ x) h := fun h => if_neg hne
  unfold seenH
  simp only [hr]
  rfl
end
end Go.Vi
namespace Go.Vi
section
variable {E : Env} {t elem z bytes : Nat}
theorem own_app68 (k : SlIs E t elem z bytes) {xt : TypeId} (hx : okSrc E (some xt) = some true) {h0 h : Heap} {d : Value} {l : List Value} (o : Own h0 h z elem d l) (g : Grow h0 h) {b2 o2 n c2 : Nat} {new : List Value}
    (hs : cellsAt (h.get b2) o2 (n * z) = some new) (hn : 0 < n) (hall : new.all oneCell = true) (hl : l.length + new.length ≤ 1000000000) (hb : bytes ≤ 68) :
    ∃ d' h', appendV E t (some xt) d (.slice (some ⟨b2, o2, none⟩) n c2) h = some (d', h') ∧ Own h0 h' z elem d' (l ++ new) ∧ Grow h0 h' ∧ h'.next = h.next + 1 ∧ blkOf d' = some h.next ∧ ∀ c, c < h.next → blkOf d ≠ some c → h'.get c = h.get c := by
  have hp := k.pos
  have hlen : new.length = n * z := by
    unfold cellsAt at hs
    split at hs
    · split at hs
      · cases hs; simp only [List.length_take, List.length_drop]; omega
      · cases hs
    · cases hs
  have hnz : n ≤ n * z := Nat.le_mul_of_pos_right _ (by omega)
  have hn0 : ¬ n = 0 := by omega
  have hbn : ∀ m : Nat, m ≤ 1000000000 → m * bytes ≤ 68719476736 := fun m hm => by
    have := Nat.mul_le_mul hm hb
    omega
  rcases o with ⟨rfl, rfl⟩ | ⟨b, m, rfl, hm, hml, hb0, hb1, hg⟩
  · refine ⟨.slice (some ⟨h.next, 0, none⟩) n n, h.new (.cells new true (some (z, elem))), ?_, .inr ⟨h.next, n, rfl, hn, by simp [hlen], g.next, Nat.lt_succ_self _, get_new_same _ _⟩, g.more _, rfl, rfl, fun c hc _ => get_new_ne (by omega)⟩
    rw [app0_row k hx, if_neg hn0, hs, okB_some hlen hall, appN_some hn (hbn _ (by simp at hl; omega)) (by simp at hl; omega)]
  · have hmz : m ≤ m * z := Nat.le_mul_of_pos_right _ (by omega)
    refine ⟨.slice (some ⟨h.next, 0, none⟩) (m + n) (m + n), (h.new (.cells (l ++ new) true (some (z, elem)))).kill b, ?_, .inr ⟨h.next, m + n, rfl, by omega, by rw [Nat.add_mul, List.length_append]; omega, g.next, Nat.lt_succ_self _, ?_⟩, (g.more _).kill hb0, rfl, rfl, fun c hc hne => ?_⟩
    · rw [app_row k hx, if_neg hn0, hs, okB_some hlen hall, hg, appK_own hn hml (hbn _ (by omega)) (by omega)]
    · rw [get_kill_ne (by omega), get_new_same]
    · have hcb : c ≠ b := fun e => hne (by rw [e]; rfl)
      rw [get_kill_ne hcb, get_new_ne (by omega)]
end
end Go.Vi
namespace Go.Vi
structure MapIs (E : Env) (t key elem : TypeId) : Prop where
  t : (E.ty t).map (fun i => i.under) = some (.map key elem)
  key : (E.ty key).map (fun i => i.under) = some .string
  elem : (E.ty elem).map (fun i => i.zero) = some (some (.int .i64 0))
section
variable {E : Env} {t key elem : TypeId} {h : Heap} {r c : Nat} {es : List MapEntry} {n : List UInt8}
theorem look_none (m : MapIs E t key elem) (hg : h.get r = some (.map es c)) (hf : findV (.string (strOf n)) es 0 = some none) :
    lookupV E t (.map (some r)) (.string (strOf n)) false h = some (.int .i64 0) := by
  obtain ⟨i, hi, hu⟩ := Option.map_eq_some_iff.1 m.t
  obtain ⟨k, hk, hv⟩ := Option.map_eq_some_iff.1 m.key
  obtain ⟨e, he, hz⟩ := Option.map_eq_some_iff.1 m.elem
  unfold lookupV
  simp only [hi, hk, he, hu, hv, hz, Option.bind_eq_bind, Option.bind_some, plainKey, entriesOf, mapOf, hg, Option.map_some, hf]
  rfl
theorem look_some (m : MapIs E t key elem) (hg : h.get r = some (.map es c)) {j : Nat} {v : Value} (hf : findV (.string (strOf n)) es 0 = some (some (j, v))) :
    lookupV E t (.map (some r)) (.string (strOf n)) false h = some v := by
  obtain ⟨i, hi, hu⟩ := Option.map_eq_some_iff.1 m.t
  obtain ⟨k, hk, hv⟩ := Option.map_eq_some_iff.1 m.key
  obtain ⟨e, he, hz⟩ := Option.map_eq_some_iff.1 m.elem
  unfold lookupV
  simp only [hi, hk, he, hu, hv, Option.bind_eq_bind, Option.bind_some, plainKey, entriesOf, mapOf, hg, Option.map_some, hf]
  rfl
theorem mput_none (m : MapIs E t key elem) (hg : h.get r = some (.map es c)) (v : Value) (hf : findV (.string (strOf n)) es 0 = some none) :
    mapPutV E t (.map (some r)) (.string (strOf n)) v h = some (h.set r (.map (es ++ [{ key := .string (strOf n), val := v, born := c }]) (c + 1))) := by
  obtain ⟨i, hi, hu⟩ := Option.map_eq_some_iff.1 m.t
  obtain ⟨k, hk, hv⟩ := Option.map_eq_some_iff.1 m.key
  unfold mapPutV
  simp only [hi, hk, hu, hv, Option.bind_eq_bind, Option.bind_some, plainKey, mapOf, hg, hf]
  rfl
theorem mput_some (m : MapIs E t key elem) (hg : h.get r = some (.map es c)) (v : Value) {j : Nat} {w : Value} (hf : findV (.string (strOf n)) es 0 = some (some (j, w))) :
    mapPutV E t (.map (some r)) (.string (strOf n)) v h = some (h.set r (.map (setEntry es j (.string (strOf n)) v) c)) := by
  obtain ⟨i, hi, hu⟩ := Option.map_eq_some_iff.1 m.t
  obtain ⟨k, hk, hv⟩ := Option.map_eq_some_iff.1 m.key
  unfold mapPutV
  simp only [hi, hk, hu, hv, Option.bind_eq_bind, Option.bind_some, plainKey, mapOf, hg, hf]
  rfl
end
def Ents (es : List MapEntry) (l : List (List UInt8)) (v : Value) : Prop := es.map (fun e => (e.key, e.val)) = l.map fun n => (.string (strOf n), v)
theorem Ents.snoc {es : List MapEntry} {l : List (List UInt8)} {v : Value} (x : Ents es l v) (n : List UInt8) (c : Nat) : Ents (es ++ [{ key := .string (strOf n), val := v, born := c }]) (l ++ [n]) v := by
  have x : es.map (fun e => (e.key, e.val)) = l.map fun n => (.string (strOf n), v) := x
  show List.map _ _ = List.map _ _
  rw [List.map_append, List.map_append, x]
  rfl
theorem keyEq_str (a b : List UInt8) : keyEq (.string (strOf a)) (.string (strOf b)) = some (a == b) := rfl
theorem find_not {n : List UInt8} {v : Value} : ∀ {es : List MapEntry} {l : List (List UInt8)} (i : Nat), Ents es l v → n ∉ l → findV (.string (strOf n)) es i = some none
  | [], _, _, _, _ => rfl
  | e :: es, [], _, h, _ => by cases h
  | e :: es, m :: l, i, h, hn => by
    unfold Ents at h
    rw [List.map_cons, List.map_cons] at h
    injection h with h1 h2
    injection h1 with h3 h4
    rw [findV, h3, keyEq_str]
    have : (n == m) = false := beq_eq_false_iff_ne.2 fun e => hn (by rw [e]; exact List.mem_cons_self ..)
    rw [this]
    exact find_not (i + 1) h2 fun q => hn (List.mem_cons_of_mem _ q)
theorem find_in {n : List UInt8} {v : Value} : ∀ {es : List MapEntry} {l : List (List UInt8)} (i : Nat), Ents es l v → n ∈ l → ∃ j, findV (.string (strOf n)) es i = some (some (i + j, v)) ∧ ∀ w, findV (.string (strOf n)) (setEntry es j (.string (strOf n)) w) i = some (some (i + j, w))
  | [], [], _, _, h => by cases h
  | [], m :: l, _, h, _ => by cases h
  | e :: es, [], _, h, _ => by cases h
  | e :: es, m :: l, i, h, hn => by
    unfold Ents at h
    rw [List.map_cons, List.map_cons] at h
    injection h with h1 h2
    injection h1 with h3 h4
    rw [findV, h3, keyEq_str]
    cases hm : n == m with
    | true =>
      refine ⟨0, by rw [h4]; rfl, fun w => ?_⟩
      rw [setEntry, findV, keyEq_str, beq_self_eq_true]
      rfl
    | false =>
      have hne : n ≠ m := beq_eq_false_iff_ne.1 hm
      have hl : n ∈ l := by
        rcases List.mem_cons.1 hn with e | q
        · exact absurd e hne
        · exact q
      obtain ⟨j, q1, q2⟩ := find_in (i + 1) h2 hl
      refine ⟨j + 1, by rw [show i + (j + 1) = i + 1 + j by omega]; exact q1, fun w => ?_⟩
      rw [setEntry, findV, h3, keyEq_str, hm, show i + (j + 1) = i + 1 + j by omega]
      exact q2 w
end Go.Vi
