/- Vb0: contracts of Go calls, told to the interpreter; and what the interpreter says, as a contract. Vb1: rows, as a Go call sees them; a row that a call has made. Vq: the rules of the logic, as a few. Vk0: rows, wherever they lie; copying and clearing. Vk1: any row, appended to a row of one's own; a whole array as a row. Vk2: bytes as a text, in a region whose order is drawn. Vk3: a row of one's own, of elements of up to 68 bytes. Vm0: maps from texts to numbers, as the interpreter keeps them. Vm1: maps from numbers to values, as the interpreter keeps them. Vy1: least and greatest in a drawn region. -/
import Derived.Test.YtenhhbammadpbaaGreatDoorVgI
import Derived.Test.YtenhhbammadpbaaGreatDoorVgF
import Derived.Test.YtenhhbammadpbaaGreatDoorVgH
namespace Go.Vi
def KeptW (w w' : World) : Prop := w'.os = w.os ∧ w'.output = w.output ∧ w.heap.size ≤ w'.heap.size ∧ ∀ k, k < w.heap.size → w'.heap[k]? = w.heap[k]?
theorem KeptW.refl (w : World) : KeptW w w := ⟨rfl, rfl, Nat.le_refl _, fun _ _ => rfl⟩
theorem KeptW.trans {a b c : World} (h : KeptW a b) (k : KeptW b c) : KeptW a c := ⟨k.1.trans h.1, k.2.1.trans h.2.1, Nat.le_trans h.2.2.1 k.2.2.1, fun i hi => (k.2.2.2 i (Nat.lt_of_lt_of_le hi h.2.2.1)).trans (h.2.2.2 i hi)⟩
theorem KeptW.may {w w' : World} (h : KeptW w w') (may : MemPlace → Prop) : w.keptBut w' may := ⟨h.1, h.2.1, fun i hi => by
  rw [h.2.2.2 i hi]
  split <;> simp_all⟩
end Go.Vi
namespace Go.Vi
end Go.Vi
namespace Go.Vi
theorem vq0 : type_of% (And.intro @r_skip <| And.intro @r_exit <| And.intro @r_ret <| And.intro @r_seq <| And.intro @r_cond <| And.intro @r_block <| And.intro @r_list <| And.intro @r_drawn <| And.intro @seqQ_normal <| And.intro @seqQ_exit <| And.intro @seqQ_ret <| And.intro @blockQ_normal <| And.intro @blockQ_exit <| And.intro @blockQ_ret <| And.intro @condQ_true <| And.intro @condQ_false <| And.intro @loopQ_normal <| And.intro @loopQ_exit <| And.intro @loopQ_ret <| And.intro @endQ_normal <| And.intro @endQ_ret <| And.intro @retK_some <| And.intro @res_nil <| And.intro @res_tmp <| And.intro @res_cell <| And.intro @consR_some <| And.intro @l_nil <| And.intro @l_guard <| And.intro @l_move <| And.intro @l_assign <| And.intro @l_pick <| And.intro @l_bin <| And.intro @l_un <| And.intro @l_build <| And.intro @l_nilCheck <| And.intro @l_makeI <| And.intro @l_makeF <| And.intro @l_fieldAddr <| And.intro @l_field <| And.intro @l_indexAddr <| And.intro @l_index <| And.intro @l_assert <| And.intro @l_extract <| And.intro @l_load <| And.intro @l_lookup <| And.intro @l_store <| And.intro @l_mapUpdate <| And.intro @l_insert <| And.intro @l_mapEntry <| And.intro @l_entryStore <| And.intro @l_alloc <| And.intro @l_box <| And.intro @l_bslice <| And.intro @l_mkslice <| And.intro @l_mkmap <| And.intro @l_slice <| And.intro @l_call <| And.intro @l_callt <| And.intro @l_len <| @l_cap) := And.intro @r_skip <| And.intro @r_exit <| And.intro @r_ret <| And.intro @r_seq <| And.intro @r_cond <| And.intro @r_block <| And.intro @r_list <| And.intro @r_drawn <| And.intro @seqQ_normal <| And.intro @seqQ_exit <| And.intro @seqQ_ret <| And.intro @blockQ_normal <| And.intro @blockQ_exit <| And.intro @blockQ_ret <| And.intro @condQ_true <| And.intro @condQ_false <| And.intro @loopQ_normal <| And.intro @loopQ_exit <| And.intro @loopQ_ret <| And.intro @endQ_normal <| And.intro @endQ_ret <| And.intro @retK_some <| And.intro @res_nil <| And.intro @res_tmp <| And.intro @res_cell <| And.intro @consR_some <| And.intro @l_nil <| And.intro @l_guard <| And.intro @l_move <| And.intro @l_assign <| And.intro @l_pick <| And.intro @l_bin <| And.intro @l_un <| And.intro @l_build <| And.intro @l_nilCheck <| And.intro @l_makeI <| And.intro @l_makeF <| And.intro @l_fieldAddr <| And.intro @l_field <| And.intro @l_indexAddr <| And.intro @l_index <| And.intro @l_assert <| And.intro @l_extract <| And.intro @l_load <| And.intro @l_lookup <| And.intro @l_store <| And.intro @l_mapUpdate <| And.intro @l_insert <| And.intro @l_mapEntry <| And.intro @l_entryStore <| And.intro @l_alloc <| And.intro @l_box <| And.intro @l_bslice <| And.intro @l_mkslice <| And.intro @l_mkmap <| And.intro @l_slice <| And.intro @l_call <| And.intro @l_callt <| And.intro @l_len <| @l_cap
theorem vq1 : type_of% (And.intro @l_min <| And.intro @l_max <| And.intro @l_append <| And.intro @l_copy <| And.intro @l_clear <| And.intro @l_delete <| And.intro @l_range <| And.intro @l_next <| And.intro @l_entry <| And.intro @l_same <| And.intro @hvq <| And.intro @sa_nil <| And.intro @sa_cons <| And.intro @d_nil <| And.intro @d_guard <| And.intro @d_move <| And.intro @d_assign <| And.intro @d_pick <| And.intro @d_bin <| And.intro @d_un <| And.intro @d_build <| And.intro @d_nilCheck <| And.intro @d_fieldAddr <| And.intro @d_field <| And.intro @d_indexAddr <| And.intro @d_index <| And.intro @d_extract <| And.intro @d_makeI <| And.intro @d_load <| And.intro @d_lookup <| And.intro @d_store <| And.intro @d_mapUpdate <| And.intro @d_alloc <| And.intro @d_box <| And.intro @d_bslice <| And.intro @d_mkslice <| And.intro @d_append <| And.intro @d_copy <| And.intro @d_call <| And.intro @d_len <| And.intro @d_slice <| And.intro @dlenQ_some <| And.intro @dsliceQ_some <| And.intro @dsliceQ_none <| And.intro @dvalQ_some <| And.intro @dreadQ_some <| And.intro @dresQ_some <| And.intro @dcallQ_eq <| And.intro @dwantQ_true <| And.intro @dwantQ_false <| And.intro @dwantQ_heavy <| And.intro @seen_load <| And.intro @seen_lookup <| And.intro @seen_slice <| And.intro @seenAt_zero <| And.intro @seenAt_succ <| And.intro @same_some <| And.intro @veqN_int <| And.intro @veqN_bool <| @veqN_str) := And.intro @l_min <| And.intro @l_max <| And.intro @l_append <| And.intro @l_copy <| And.intro @l_clear <| And.intro @l_delete <| And.intro @l_range <| And.intro @l_next <| And.intro @l_entry <| And.intro @l_same <| And.intro @hvq <| And.intro @sa_nil <| And.intro @sa_cons <| And.intro @d_nil <| And.intro @d_guard <| And.intro @d_move <| And.intro @d_assign <| And.intro @d_pick <| And.intro @d_bin <| And.intro @d_un <| And.intro @d_build <| And.intro @d_nilCheck <| And.intro @d_fieldAddr <| And.intro @d_field <| And.intro @d_indexAddr <| And.intro @d_index <| And.intro @d_extract <| And.intro @d_makeI <| And.intro @d_load <| And.intro @d_lookup <| And.intro @d_store <| And.intro @d_mapUpdate <| And.intro @d_alloc <| And.intro @d_box <| And.intro @d_bslice <| And.intro @d_mkslice <| And.intro @d_append <| And.intro @d_copy <| And.intro @d_call <| And.intro @d_len <| And.intro @d_slice <| And.intro @dlenQ_some <| And.intro @dsliceQ_some <| And.intro @dsliceQ_none <| And.intro @dvalQ_some <| And.intro @dreadQ_some <| And.intro @dresQ_some <| And.intro @dcallQ_eq <| And.intro @dwantQ_true <| And.intro @dwantQ_false <| And.intro @dwantQ_heavy <| And.intro @seen_load <| And.intro @seen_lookup <| And.intro @seen_slice <| And.intro @seenAt_zero <| And.intro @seenAt_succ <| And.intro @same_some <| And.intro @veqN_int <| And.intro @veqN_bool <| @veqN_str
theorem vq2 : type_of% (And.intro @veqN_ptr <| And.intro @veqN_slice <| And.intro @veqN_map <| And.intro @veqN_nilI <| And.intro @veqN_nilF <| And.intro @veqN_iface <| And.intro @veqN_agg <| And.intro @veqs_nil <| And.intro @veqs_cons <| And.intro @resQ_some <| And.intro @valQ_some <| And.intro @heapQ_some <| And.intro @newQ_some <| And.intro @callQ_eq <| And.intro @funQ_func <| And.intro @funQ_yield <| And.intro @wantQ_true <| And.intro @wantQ_false <| And.intro @putH_some <| And.intro @putH_none <| And.intro @up_at <| And.intro @selK_true <| And.intro @selK_false <| And.intro @evH_tmp <| And.intro @evH_int <| And.intro @evH_bool <| And.intro @evH_str <| And.intro @evH_ptr0 <| And.intro @evH_slice0 <| And.intro @evH_map0 <| And.intro @evH_nilFunc <| And.intro @evH_nilIface <| And.intro @evH_func <| And.intro @isB_tt <| And.intro @isB_tf <| And.intro @isB_ft <| And.intro @isB_ff <| And.intro @isB_undef <| And.intro @isC_tmp <| And.intro @isC_const <| And.intro @atH_some <| And.intro @orK_some <| And.intro @orK_none <| And.intro @heapK_some <| And.intro @newK_some <| And.intro @bin_int <| And.intro @bin_str <| And.intro @un_not <| And.intro @un_neg <| And.intro @pick_true <| And.intro @pick_false <| And.intro @nil_ptr <| And.intro @nil_iface <| And.intro @nil_func <| And.intro @ext_0 <| And.intro @ext_1 <| And.intro @ext_2 <| And.intro @ext_3 <| And.intro @ot_one <| @ot_nil) := And.intro @veqN_ptr <| And.intro @veqN_slice <| And.intro @veqN_map <| And.intro @veqN_nilI <| And.intro @veqN_nilF <| And.intro @veqN_iface <| And.intro @veqN_agg <| And.intro @veqs_nil <| And.intro @veqs_cons <| And.intro @resQ_some <| And.intro @valQ_some <| And.intro @heapQ_some <| And.intro @newQ_some <| And.intro @callQ_eq <| And.intro @funQ_func <| And.intro @funQ_yield <| And.intro @wantQ_true <| And.intro @wantQ_false <| And.intro @putH_some <| And.intro @putH_none <| And.intro @up_at <| And.intro @selK_true <| And.intro @selK_false <| And.intro @evH_tmp <| And.intro @evH_int <| And.intro @evH_bool <| And.intro @evH_str <| And.intro @evH_ptr0 <| And.intro @evH_slice0 <| And.intro @evH_map0 <| And.intro @evH_nilFunc <| And.intro @evH_nilIface <| And.intro @evH_func <| And.intro @isB_tt <| And.intro @isB_tf <| And.intro @isB_ft <| And.intro @isB_ff <| And.intro @isB_undef <| And.intro @isC_tmp <| And.intro @isC_const <| And.intro @atH_some <| And.intro @orK_some <| And.intro @orK_none <| And.intro @heapK_some <| And.intro @newK_some <| And.intro @bin_int <| And.intro @bin_str <| And.intro @un_not <| And.intro @un_neg <| And.intro @pick_true <| And.intro @pick_false <| And.intro @nil_ptr <| And.intro @nil_iface <| And.intro @nil_func <| And.intro @ext_0 <| And.intro @ext_1 <| And.intro @ext_2 <| And.intro @ext_3 <| And.intro @ot_one <| @ot_nil
theorem vq3 : type_of% (And.intro @ot_more <| And.intro @frA_at <| And.intro @map_toList <| And.intro @parts_eq <| And.intro @mk_ptr <| And.intro @mk_slice <| And.intro @mk_map <| And.intro @wr64 <| And.intro @wr32 <| And.intro @wru8 <| And.intro @wru32 <| And.intro @wru64 <| And.intro @lss_t <| And.intro @lss_f <| And.intro @leq_t <| And.intro @leq_f <| And.intro @gtr_t <| And.intro @gtr_f <| And.intro @geq_t <| And.intro @geq_f <| And.intro @eql_t <| And.intro @eql_f <| And.intro @neq_t <| And.intro @neq_f <| And.intro @add64 <| And.intro @sub64 <| And.intro @mul64 <| And.intro @quo64 <| And.intro @rem64 <| And.intro @addu8 <| And.intro @subu8 <| And.intro @str_add <| And.intro @str_eql <| And.intro @str_neq <| And.intro @nextT <| And.intro @nextK_end <| And.intro @next_set <| And.intro @next_new <| And.intro @next_kill <| And.intro @get_set_k <| And.intro @get_new_k <| And.intro @get_kill_k <| And.intro @ifG_true <| And.intro @ifG_false <| And.intro @beqN_t <| And.intro @beqN_f <| And.intro @add_at <| And.intro @cellAt_some <| And.intro @cellsAt_some <| And.intro @aggO_some <| And.intro @putB_some <| And.intro @putL_some <| And.intro @splice_eq <| And.intro @okB_eq <| And.intro @appK_own <| And.intro @appK_lit <| And.intro @appK_zero <| And.intro @appN_zero <| And.intro @appN_some <| @boundsV_lh) := And.intro @ot_more <| And.intro @frA_at <| And.intro @map_toList <| And.intro @parts_eq <| And.intro @mk_ptr <| And.intro @mk_slice <| And.intro @mk_map <| And.intro @wr64 <| And.intro @wr32 <| And.intro @wru8 <| And.intro @wru32 <| And.intro @wru64 <| And.intro @lss_t <| And.intro @lss_f <| And.intro @leq_t <| And.intro @leq_f <| And.intro @gtr_t <| And.intro @gtr_f <| And.intro @geq_t <| And.intro @geq_f <| And.intro @eql_t <| And.intro @eql_f <| And.intro @neq_t <| And.intro @neq_f <| And.intro @add64 <| And.intro @sub64 <| And.intro @mul64 <| And.intro @quo64 <| And.intro @rem64 <| And.intro @addu8 <| And.intro @subu8 <| And.intro @str_add <| And.intro @str_eql <| And.intro @str_neq <| And.intro @nextT <| And.intro @nextK_end <| And.intro @next_set <| And.intro @next_new <| And.intro @next_kill <| And.intro @get_set_k <| And.intro @get_new_k <| And.intro @get_kill_k <| And.intro @ifG_true <| And.intro @ifG_false <| And.intro @beqN_t <| And.intro @beqN_f <| And.intro @add_at <| And.intro @cellAt_some <| And.intro @cellsAt_some <| And.intro @aggO_some <| And.intro @putB_some <| And.intro @putL_some <| And.intro @splice_eq <| And.intro @okB_eq <| And.intro @appK_own <| And.intro @appK_lit <| And.intro @appK_zero <| And.intro @appN_zero <| And.intro @appN_some <| @boundsV_lh
theorem vq4 : type_of% (And.intro @boundsV_l <| And.intro @boundsV_h <| And.intro @boundsV_0 <| And.intro @boundsV_lhm <| And.intro @cutK_closed <| And.intro @cutK_open <| And.intro @fillG_nil <| And.intro @fillG_cons <| And.intro @fillG1_some <| And.intro @fillS_nil <| And.intro @fillS_cons <| And.intro @aggK_some <| And.intro @litK_some <| And.intro @cells_int <| And.intro @cells_bool <| And.intro @cells_str <| And.intro @cells_ptr <| And.intro @cells_slice <| And.intro @cells_map <| And.intro @cells_func <| And.intro @cells_nilFunc <| And.intro @cells_iface <| And.intro @cells_nilIface <| And.intro @cells_agg <| And.intro @one_int <| And.intro @one_bool <| And.intro @one_str <| And.intro @one_ptr <| And.intro @one_slice <| And.intro @one_map <| And.intro @one_func <| And.intro @one_nilFunc <| And.intro @one_iface <| And.intro @one_nilIface <| And.intro @one_byte <| And.intro @textC_bytes <| And.intro @rep_one <| And.intro @ifo_pos.{1} <| And.intro @ifo_neg.{1} <| And.intro @List.map_cons.{0, 0} <| And.intro @List.map_nil.{0, 0} <| And.intro @List.getD_cons_zero.{0} <| And.intro @List.getD_cons_succ.{0} <| And.intro @List.getElem?_cons_zero.{0} <| And.intro @List.getElem?_cons_succ.{0} <| And.intro @List.set_cons_zero.{0} <| And.intro @List.set_cons_succ.{0} <| And.intro @List.length_cons.{0} <| And.intro @List.length_nil.{0} <| And.intro @List.length_set.{0} <| And.intro @List.length_map.{0, 0} <| And.intro @List.all_cons.{0} <| And.intro @List.all_nil.{0} <| And.intro @List.take_succ_cons.{0} <| And.intro @List.take_zero.{0} <| And.intro @List.take_nil.{0} <| And.intro @List.drop_zero.{0} <| And.intro @List.drop_succ_cons.{0} <| And.intro @List.drop_nil.{0} <| @List.append_nil.{0}) := And.intro @boundsV_l <| And.intro @boundsV_h <| And.intro @boundsV_0 <| And.intro @boundsV_lhm <| And.intro @cutK_closed <| And.intro @cutK_open <| And.intro @fillG_nil <| And.intro @fillG_cons <| And.intro @fillG1_some <| And.intro @fillS_nil <| And.intro @fillS_cons <| And.intro @aggK_some <| And.intro @litK_some <| And.intro @cells_int <| And.intro @cells_bool <| And.intro @cells_str <| And.intro @cells_ptr <| And.intro @cells_slice <| And.intro @cells_map <| And.intro @cells_func <| And.intro @cells_nilFunc <| And.intro @cells_iface <| And.intro @cells_nilIface <| And.intro @cells_agg <| And.intro @one_int <| And.intro @one_bool <| And.intro @one_str <| And.intro @one_ptr <| And.intro @one_slice <| And.intro @one_map <| And.intro @one_func <| And.intro @one_nilFunc <| And.intro @one_iface <| And.intro @one_nilIface <| And.intro @one_byte <| And.intro @textC_bytes <| And.intro @rep_one <| And.intro @ifo_pos.{1} <| And.intro @ifo_neg.{1} <| And.intro @List.map_cons.{0, 0} <| And.intro @List.map_nil.{0, 0} <| And.intro @List.getD_cons_zero.{0} <| And.intro @List.getD_cons_succ.{0} <| And.intro @List.getElem?_cons_zero.{0} <| And.intro @List.getElem?_cons_succ.{0} <| And.intro @List.set_cons_zero.{0} <| And.intro @List.set_cons_succ.{0} <| And.intro @List.length_cons.{0} <| And.intro @List.length_nil.{0} <| And.intro @List.length_set.{0} <| And.intro @List.length_map.{0, 0} <| And.intro @List.all_cons.{0} <| And.intro @List.all_nil.{0} <| And.intro @List.take_succ_cons.{0} <| And.intro @List.take_zero.{0} <| And.intro @List.take_nil.{0} <| And.intro @List.drop_zero.{0} <| And.intro @List.drop_succ_cons.{0} <| And.intro @List.drop_nil.{0} <| @List.append_nil.{0}
theorem vq5 : type_of% (And.intro @List.nil_append.{0} <| And.intro @List.cons_append.{0} <| And.intro @Option.map_some.{0, 0} <| And.intro @Option.map_none.{0, 0} <| And.intro @Option.bind_some.{0, 0} <| And.intro @Bool.and_self <| And.intro @Bool.and_true <| And.intro @Bool.true_and <| And.intro @Bool.and_false <| And.intro @Bool.false_and <| And.intro @Bool.not_true <| And.intro @Bool.not_false <| And.intro @Bool.or_true <| And.intro @Bool.true_or <| And.intro @Bool.or_false <| And.intro @Bool.false_or <| And.intro @beq_self_eq_true.{0} <| And.intro @bq_t <| And.intro @bq_f <| And.intro @Nat.zero_add <| And.intro @Nat.add_zero <| And.intro @Nat.mul_one <| And.intro @Nat.one_mul <| And.intro @Nat.zero_mul <| And.intro @Int.toNat_natCast <| And.intro @Int.toNat_zero <| And.intro @eq_self.{1} <| And.intro @ne_eq.{1} <| And.intro @not_true_eq_false <| And.intro @not_false_eq_true <| And.intro @and_self <| And.intro @and_true <| And.intro @true_and <| And.intro @if_true.{1} <| And.intro @if_false.{1} <| And.intro @Bool.true_eq_false <| And.intro @Bool.false_eq_true <| And.intro @true_or <| And.intro @or_true <| And.intro @false_or <| @or_false) := And.intro @List.nil_append.{0} <| And.intro @List.cons_append.{0} <| And.intro @Option.map_some.{0, 0} <| And.intro @Option.map_none.{0, 0} <| And.intro @Option.bind_some.{0, 0} <| And.intro @Bool.and_self <| And.intro @Bool.and_true <| And.intro @Bool.true_and <| And.intro @Bool.and_false <| And.intro @Bool.false_and <| And.intro @Bool.not_true <| And.intro @Bool.not_false <| And.intro @Bool.or_true <| And.intro @Bool.true_or <| And.intro @Bool.or_false <| And.intro @Bool.false_or <| And.intro @beq_self_eq_true.{0} <| And.intro @bq_t <| And.intro @bq_f <| And.intro @Nat.zero_add <| And.intro @Nat.add_zero <| And.intro @Nat.mul_one <| And.intro @Nat.one_mul <| And.intro @Nat.zero_mul <| And.intro @Int.toNat_natCast <| And.intro @Int.toNat_zero <| And.intro @eq_self.{1} <| And.intro @ne_eq.{1} <| And.intro @not_true_eq_false <| And.intro @not_false_eq_true <| And.intro @and_self <| And.intro @and_true <| And.intro @true_and <| And.intro @if_true.{1} <| And.intro @if_false.{1} <| And.intro @Bool.true_eq_false <| And.intro @Bool.false_eq_true <| And.intro @true_or <| And.intro @or_true <| And.intro @false_or <| @or_false
end Go.Vi
namespace Go.Vi
abbrev voidS : Value := .slice (some ⟨0, 0, some 0⟩) 0 0
def RowV (h : Heap) (z : Nat) (d : Value) (l : List Value) : Prop := ((d = .slice none 0 0 ∨ d = voidS) ∧ l = []) ∨
  ∃ b o n c row w p, b < h.next ∧ d = .slice (some ⟨b, o, none⟩) n c ∧ n ≤ c ∧ n * z = l.length ∧ h.get b = some (.cells row w p) ∧ o + l.length ≤ row.length ∧ (row.drop o).take l.length = l
def BRow (h : Heap) (d : Value) (l : List UInt8) : Prop := RowV h 1 d (l.map byteV)
theorem RowV.nil (h : Heap) (z : Nat) : RowV h z (.slice none 0 0) [] := .inl ⟨.inl rfl, rfl⟩
theorem RowV.keep {h h' : Heap} {z : Nat} {d : Value} {l : List Value} (x : RowV h z d l) (hn : h.next ≤ h'.next) (g : ∀ b, blkOf d = some b → b < h.next → h'.get b = h.get b) : RowV h' z d l := by
  rcases x with x | ⟨b, o, n, c, row, w, p, hb, rfl, hc, hl, hg, h1, h2⟩
  · exact .inl x
  · exact .inr ⟨b, o, n, c, row, w, p, Nat.lt_of_lt_of_le hb hn, rfl, hc, hl, by rw [g b rfl hb]; exact hg, h1, h2⟩
theorem RowV.grow {h h' : Heap} {z : Nat} {d : Value} {l : List Value} (x : RowV h z d l) (g : Grow h h') : RowV h' z d l := x.keep g.next fun b _ hb => g.get b hb
theorem Own.row {h0 h : Heap} {z elem : Nat} {d : Value} {l : List Value} (o : Own h0 h z elem d l) : RowV h z d l := by
  rcases o with ⟨rfl, rfl⟩ | ⟨b, n, rfl, hn, hl, _, hb, hg⟩
  · exact .nil h z
  · exact .inr ⟨b, 0, n, n, l, true, _, hb, rfl, Nat.le_refl _, hl, hg, by omega, by rw [List.drop_zero, List.take_length]⟩
theorem RowV.own {h : Heap} {z b n c : Nat} {row : List Value} {w : Bool} {p : Option (Nat × Nat)} (hb : b < h.next) (hc : n ≤ c) (hg : h.get b = some (.cells row w p)) (hl : n * z ≤ row.length) : RowV h z (.slice (some ⟨b, 0, none⟩) n c) (row.take (n * z)) := by
  have e : (row.take (n * z)).length = n * z := by rw [List.length_take]; omega
  exact .inr ⟨b, 0, n, c, row, w, p, hb, rfl, hc, e.symm, hg, by omega, by rw [List.drop_zero, e]⟩
theorem RowV.one {h : Heap} {z : Nat} {d : Value} {l : List Value} (x : RowV h z d l) : oneCell d = true := by
  rcases x with ⟨rfl | rfl, _⟩ | ⟨b, o, n, c, row, w, p, hb, rfl, _⟩ <;> rfl
theorem RowV.is {h : Heap} {z : Nat} {d : Value} {l : List Value} (x : RowV h z d l) : ∃ a n c, d = .slice a n c ∧ n * z = l.length ∧ n ≤ c := by
  rcases x with ⟨rfl | rfl, rfl⟩ | ⟨b, o, n, c, row, w, p, hb, rfl, hc, hl, _⟩
  · exact ⟨none, 0, 0, rfl, by simp, Nat.le_refl _⟩
  · exact ⟨_, 0, 0, rfl, by simp, Nat.le_refl _⟩
  · exact ⟨_, n, c, rfl, hl, hc⟩
theorem RowV.lt {h : Heap} {z : Nat} {d : Value} {l : List Value} (x : RowV h z d l) (hl : l ≠ []) {b : Nat} (hb : blkOf d = some b) : b < h.next := by
  rcases x with ⟨_, q⟩ | ⟨b', o, n, c, row, w, p, hb', rfl, _⟩
  · exact absurd q hl
  · cases hb; exact hb'
theorem BRow.is {h : Heap} {d : Value} {l : List UInt8} (x : BRow h d l) : ∃ a c, d = .slice a l.length c := by
  obtain ⟨a, n, c, rfl, hn, _⟩ := RowV.is x
  rw [List.length_map, Nat.mul_one] at hn
  exact ⟨a, c, by rw [hn]⟩
theorem BRow.grow {h h' : Heap} {d : Value} {l : List UInt8} (x : BRow h d l) (g : Grow h h') : BRow h' d l := RowV.grow x g
theorem BRow.one {h : Heap} {d : Value} {l : List UInt8} (x : BRow h d l) : oneCell d = true := RowV.one x
theorem RowV.elem {h : Heap} {z : Nat} {d : Value} {l : List Value} (x : RowV h z d l) {i : Nat} (hz : 0 < z) (hi : i * z + z ≤ l.length) : ∃ b o n c, d = .slice (some ⟨b, o, none⟩) n c ∧ b < h.next ∧ n * z = l.length ∧ i < n ∧ cellsAt (h.get b) (o + i * z) z = some ((l.drop (i * z)).take z) := by
  rcases x with ⟨_, rfl⟩ | ⟨b, o, n, c, row, w, p, hb, rfl, hc, hl, hg, h1, h2⟩
  · simp only [List.length_nil] at hi; omega
  · have hin : i < n := by
      refine Nat.lt_of_not_le fun hx => ?_
      have := Nat.mul_le_mul_right z hx
      omega
    refine ⟨b, o, n, c, rfl, hb, hl, hin, ?_⟩
    rw [hg, cellsAt_some, if_pos (by omega)]
    congr 1
    conv => rhs; rw [← h2]
    rw [List.drop_take, List.take_take, List.drop_drop, Nat.min_eq_left (by omega)]
section
variable {E : Env} {t elem z bytes : Nat} {h : Heap}
theorem srcA_void {e : Ty} : srcA true e voidS h = (some []).map fun l => (0, l) := rfl
theorem app_void (k : SlIs E t elem z bytes) {xt : TypeId} (hx : okSrc E (some xt) = some true) {b o len cap : Nat} :
    appendV E t (some xt) (.slice (some ⟨b, o, none⟩) len cap) voidS h = appK z bytes elem h b o len cap (h.get b) 0 (okB 0 z (some [])) := app_aux k hx fun _ _ => srcA_void
end
end Go.Vi
namespace Go.Vi
section
variable {E : Env} {t elem z bytes : Nat}
end
end Go.Vi
namespace Go.Vi
section
variable {E : Env} {s t e : TypeId}
end
end Go.Vi
namespace Go.Vi
section
variable {E : Env} {t elem z bytes : Nat}
end
end Go.Vi
namespace Go.Vi
structure MapIs (E : Env) (t key elem : TypeId) : Prop where
  t : (E.ty t).map (fun i => i.under) = some (.map key elem)
  key : (E.ty key).map (fun i => i.under) = some .string
  elem : (E.ty elem).map (fun i => i.zero) = some (some (.int .i64 0))
section
variable {E : Env} {t key elem : TypeId} {h : Heap} {r c : Nat} {es : List MapEntry} {n : List UInt8}
end
def Ents (es : List MapEntry) (l : List (List UInt8)) (v : Value) : Prop := es.map (fun e => (e.key, e.val)) = l.map fun n => (.string (strOf n), v)
theorem Ents.snoc {es : List MapEntry} {l : List (List UInt8)} {v : Value} (x : Ents es l v) (n : List UInt8) (c : Nat) : Ents (es ++ [{ key := .string (strOf n), val := v, born := c }]) (l ++ [n]) v := by
  have x : es.map (fun e => (e.key, e.val)) = l.map fun n => (.string (strOf n), v) := x
  show List.map _ _ = List.map _ _
  rw [List.map_append, List.map_append, x]
  rfl
end Go.Vi
namespace Go.Vi
structure IntMap (E : Env) (t key elem : TypeId) (k : IntKind) (z : Value) : Prop where
  t : (E.ty t).map (fun i => i.under) = some (.map key elem)
  key : (E.ty key).map (fun i => i.under) = some (.int k)
  elem : (E.ty elem).map (fun i => i.zero) = some (some z)
section
variable {E : Env} {t key elem : TypeId} {k : IntKind} {z : Value} {h : Heap} {r c : Nat} {es : List MapEntry} {n : Int}
end
def Nums (k : IntKind) (es : List MapEntry) : Prop := ∀ e ∈ es, ∃ n, e.key = .int k n
theorem Nums.snoc {k : IntKind} {es : List MapEntry} (x : Nums k es) (n : Int) (v : Value) (c : Nat) : Nums k (es ++ [{ key := .int k n, val := v, born := c }]) := fun e he => by
  rcases List.mem_append.1 he with q | q
  · exact x e q
  · rw [List.mem_singleton] at q
    exact ⟨n, by rw [q]⟩
theorem Nums.put {k : IntKind} {n : Int} {v : Value} : ∀ {es : List MapEntry} (j : Nat), Nums k es → Nums k (setEntry es j (.int k n) v)
  | [], _, x => x
  | e :: es, 0, x => fun a ha => by
    rcases List.mem_cons.1 ha with q | q
    · exact ⟨n, by rw [q]⟩
    · exact x a (List.mem_cons_of_mem _ q)
  | e :: es, j + 1, x => fun a ha => by
    rcases List.mem_cons.1 ha with q | q
    · rw [q]; exact x e (List.mem_cons_self ..)
    · exact Nums.put (es := es) j (fun b hb => x b (List.mem_cons_of_mem _ hb)) a q
end Go.Vi
namespace Go.Vi
section
variable {E : Env} {p : Plan} {d : Option Tmp} {ty : TypeId} {r : List SOp} {j : Nat} {ρ : Fr} {h : Heap} {hs : List Heap} {rs : List HSeen} {Q : Qt}
end
end Go.Vi
