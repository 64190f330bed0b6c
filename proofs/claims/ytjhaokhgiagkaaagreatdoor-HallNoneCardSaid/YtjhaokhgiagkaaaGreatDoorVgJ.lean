/- Vb0: contracts of Go calls, told to the interpreter; and what the interpreter says, as a contract. Vb1: rows, as a Go call sees them; a row that a call has made. Vq: the rules of the logic, as a few. Vk0: rows, wherever they lie; copying and clearing. Vk1: any row, appended to a row of one's own; a whole array as a row. Vk2: bytes as a text, in a region whose order is drawn. Vk3: a row of one's own, of elements of up to 68 bytes. Vk4: a row that a function has made, and what is put behind it: elements of any size. Vm0: maps from texts to numbers, as the interpreter keeps them. Vm1: maps from numbers to values, as the interpreter keeps them. Vy1: least and greatest in a drawn region. -/
import Derived.Test.YtjhaokhgiagkaaaGreatDoorVgI
import Derived.Test.YtjhaokhgiagkaaaGreatDoorVgF
import Derived.Test.YtjhaokhgiagkaaaGreatDoorVgH
namespace Go.Vi
def KeptW (w w' : World) : Prop := w'.os = w.os ∧ w'.output = w.output ∧ w.heap.size ≤ w'.heap.size ∧ ∀ k, k < w.heap.size → w'.heap[k]? = w.heap[k]?
theorem KeptW.refl (w : World) : KeptW w w := ⟨rfl, rfl, Nat.le_refl _, fun _ _ => rfl⟩
theorem KeptW.trans {a b c : World} (h : KeptW a b) (k : KeptW b c) : KeptW a c := ⟨k.1.trans h.1, k.2.1.trans h.2.1, Nat.le_trans h.2.2.1 k.2.2.1, fun i hi => (k.2.2.2 i (Nat.lt_of_lt_of_le hi h.2.2.1)).trans (h.2.2.2 i hi)⟩
theorem KeptW.may {w w' : World} (h : KeptW w w') (may : MemPlace → Prop) : w.keptBut w' may := ⟨h.1, h.2.1, fun i hi => by
  rw [h.2.2.2 i hi]
  split <;> simp_all⟩
end Go.Vi
namespace Go.Vi
end Go.Vi
namespace Go.Vi
theorem vq0 : type_of% (And.intro @r_skip <| And.intro @r_exit <| And.intro @r_ret <| And.intro @r_seq <| And.intro @r_cond <| And.intro @r_block <| And.intro @r_list <| And.intro @r_drawn <| And.intro @seqQ_normal <| And.intro @seqQ_exit <| And.intro @seqQ_ret <| And.intro @blockQ_normal <| And.intro @blockQ_exit <| And.intro @blockQ_ret <| And.intro @condQ_true <| And.intro @condQ_false <| And.intro @loopQ_normal <| And.intro @loopQ_exit <| And.intro @loopQ_ret <| And.intro @endQ_normal <| And.intro @endQ_ret <| And.intro @retK_some <| And.intro @res_nil <| And.intro @res_tmp <| And.intro @res_cell <| And.intro @consR_some <| And.intro @l_nil <| And.intro @l_guard <| And.intro @l_move <| And.intro @l_assign <| And.intro @l_pick <| And.intro @l_bin <| And.intro @l_un <| And.intro @l_build <| And.intro @l_nilCheck <| And.intro @l_makeI <| And.intro @l_makeF <| And.intro @l_fieldAddr <| And.intro @l_field <| And.intro @l_indexAddr <| And.intro @l_index <| And.intro @l_assert <| And.intro @l_extract <| And.intro @l_load <| And.intro @l_lookup <| And.intro @l_store <| And.intro @l_mapUpdate <| And.intro @l_insert <| And.intro @l_mapEntry <| And.intro @l_entryStore <| And.intro @l_alloc <| And.intro @l_box <| And.intro @l_bslice <| And.intro @l_mkslice <| And.intro @l_mkmap <| And.intro @l_slice <| And.intro @l_call <| And.intro @l_callt <| And.intro @l_len <| @l_cap) := And.intro @r_skip <| And.intro @r_exit <| And.intro @r_ret <| And.intro @r_seq <| And.intro @r_cond <| And.intro @r_block <| And.intro @r_list <| And.intro @r_drawn <| And.intro @seqQ_normal <| And.intro @seqQ_exit <| And.intro @seqQ_ret <| And.intro @blockQ_normal <| And.intro @blockQ_exit <| And.intro @blockQ_ret <| And.intro @condQ_true <| And.intro @condQ_false <| And.intro @loopQ_normal <| And.intro @loopQ_exit <| And.intro @loopQ_ret <| And.intro @endQ_normal <| And.intro @endQ_ret <| And.intro @retK_some <| And.intro @res_nil <| And.intro @res_tmp <| And.intro @res_cell <| And.intro @consR_some <| And.intro @l_nil <| And.intro @l_guard <| And.intro @l_move <| And.intro @l_assign <| And.intro @l_pick <| And.intro @l_bin <| And.intro @l_un <| And.intro @l_build <| And.intro @l_nilCheck <| And.intro @l_makeI <| And.intro @l_makeF <| And.intro @l_fieldAddr <| And.intro @l_field <| And.intro @l_indexAddr <| And.intro @l_index <| And.intro @l_assert <| And.intro @l_extract <| And.intro @l_load <| And.intro @l_lookup <| And.intro @l_store <| And.intro @l_mapUpdate <| And.intro @l_insert <| And.intro @l_mapEntry <| And.intro @l_entryStore <| And.intro @l_alloc <| And.intro @l_box <| And.intro @l_bslice <| And.intro @l_mkslice <| And.intro @l_mkmap <| And.intro @l_slice <| And.intro @l_call <| And.intro @l_callt <| And.intro @l_len <| @l_cap
theorem vq1 : type_of% (And.intro @l_min <| And.intro @l_max <| And.intro @l_append <| And.intro @l_copy <| And.intro @l_clear <| And.intro @l_delete <| And.intro @l_range <| And.intro @l_next <| And.intro @l_entry <| And.intro @l_same <| And.intro @hvq <| And.intro @sa_nil <| And.intro @sa_cons <| And.intro @d_nil <| And.intro @d_guard <| And.intro @d_move <| And.intro @d_assign <| And.intro @d_pick <| And.intro @d_bin <| And.intro @d_un <| And.intro @d_build <| And.intro @d_nilCheck <| And.intro @d_fieldAddr <| And.intro @d_field <| And.intro @d_indexAddr <| And.intro @d_index <| And.intro @d_extract <| And.intro @d_makeI <| And.intro @d_load <| And.intro @d_lookup <| And.intro @d_store <| And.intro @d_mapUpdate <| And.intro @d_alloc <| And.intro @d_box <| And.intro @d_bslice <| And.intro @d_mkslice <| And.intro @d_append <| And.intro @d_copy <| And.intro @d_call <| And.intro @d_len <| And.intro @d_slice <| And.intro @dlenQ_some <| And.intro @dsliceQ_some <| And.intro @dsliceQ_none <| And.intro @dvalQ_some <| And.intro @dreadQ_some <| And.intro @dresQ_some <| And.intro @dcallQ_eq <| And.intro @dwantQ_true <| And.intro @dwantQ_false <| And.intro @dwantQ_heavy <| And.intro @seen_load <| And.intro @seen_lookup <| And.intro @seen_slice <| And.intro @seenAt_zero <| And.intro @seenAt_succ <| And.intro @same_some <| And.intro @veqN_int <| And.intro @veqN_bool <| @veqN_str) := And.intro @l_min <| And.intro @l_max <| And.intro @l_append <| And.intro @l_copy <| And.intro @l_clear <| And.intro @l_delete <| And.intro @l_range <| And.intro @l_next <| And.intro @l_entry <| And.intro @l_same <| And.intro @hvq <| And.intro @sa_nil <| And.intro @sa_cons <| And.intro @d_nil <| And.intro @d_guard <| And.intro @d_move <| And.intro @d_assign <| And.intro @d_pick <| And.intro @d_bin <| And.intro @d_un <| And.intro @d_build <| And.intro @d_nilCheck <| And.intro @d_fieldAddr <| And.intro @d_field <| And.intro @d_indexAddr <| And.intro @d_index <| And.intro @d_extract <| And.intro @d_makeI <| And.intro @d_load <| And.intro @d_lookup <| And.intro @d_store <| And.intro @d_mapUpdate <| And.intro @d_alloc <| And.intro @d_box <| And.intro @d_bslice <| And.intro @d_mkslice <| And.intro @d_append <| And.intro @d_copy <| And.intro @d_call <| And.intro @d_len <| And.intro @d_slice <| And.intro @dlenQ_some <| And.intro @dsliceQ_some <| And.intro @dsliceQ_none <| And.intro @dvalQ_some <| And.intro @dreadQ_some <| And.intro @dresQ_some <| And.intro @dcallQ_eq <| And.intro @dwantQ_true <| And.intro @dwantQ_false <| And.intro @dwantQ_heavy <| And.intro @seen_load <| And.intro @seen_lookup <| And.intro @seen_slice <| And.intro @seenAt_zero <| And.intro @seenAt_succ <| And.intro @same_some <| And.intro @veqN_int <| And.intro @veqN_bool <| @veqN_str
theorem vq2 : type_of% (And.intro @veqN_ptr <| And.intro @veqN_slice <| And.intro @veqN_map <| And.intro @veqN_nilI <| And.intro @veqN_nilF <| And.intro @veqN_iface <| And.intro @veqN_agg <| And.intro @veqs_nil <| And.intro @veqs_cons <| And.intro @resQ_some <| And.intro @valQ_some <| And.intro @heapQ_some <| And.intro @newQ_some <| And.intro @callQ_eq <| And.intro @funQ_func <| And.intro @funQ_yield <| And.intro @wantQ_true <| And.intro @wantQ_false <| And.intro @putH_some <| And.intro @putH_none <| And.intro @up_at <| And.intro @selK_true <| And.intro @selK_false <| And.intro @evH_tmp <| And.intro @evH_int <| And.intro @evH_bool <| And.intro @evH_str <| And.intro @evH_ptr0 <| And.intro @evH_slice0 <| And.intro @evH_map0 <| And.intro @evH_nilFunc <| And.intro @evH_nilIface <| And.intro @evH_func <| And.intro @isB_tt <| And.intro @isB_tf <| And.intro @isB_ft <| And.intro @isB_ff <| And.intro @isB_undef <| And.intro @isC_tmp <| And.intro @isC_const <| And.intro @atH_some <| And.intro @orK_some <| And.intro @orK_none <| And.intro @heapK_some <| And.intro @newK_some <| And.intro @bin_int <| And.intro @bin_str <| And.intro @un_not <| And.intro @un_neg <| And.intro @pick_true <| And.intro @pick_false <| And.intro @nil_ptr <| And.intro @nil_iface <| And.intro @nil_func <| And.intro @ext_0 <| And.intro @ext_1 <| And.intro @ext_2 <| And.intro @ext_3 <| And.intro @ot_one <| @ot_nil) := And.intro @veqN_ptr <| And.intro @veqN_slice <| And.intro @veqN_map <| And.intro @veqN_nilI <| And.intro @veqN_nilF <| And.intro @veqN_iface <| And.intro @veqN_agg <| And.intro @veqs_nil <| And.intro @veqs_cons <| And.intro @resQ_some <| And.intro @valQ_some <| And.intro @heapQ_some <| And.intro @newQ_some <| And.intro @callQ_eq <| And.intro @funQ_func <| And.intro @funQ_yield <| And.intro @wantQ_true <| And.intro @wantQ_false <| And.intro @putH_some <| And.intro @putH_none <| And.intro @up_at <| And.intro @selK_true <| And.intro @selK_false <| And.intro @evH_tmp <| And.intro @evH_int <| And.intro @evH_bool <| And.intro @evH_str <| And.intro @evH_ptr0 <| And.intro @evH_slice0 <| And.intro @evH_map0 <| And.intro @evH_nilFunc <| And.intro @evH_nilIface <| And.intro @evH_func <| And.intro @isB_tt <| And.intro @isB_tf <| And.intro @isB_ft <| And.intro @isB_ff <| And.intro @isB_undef <| And.intro @isC_tmp <| And.intro @isC_const <| And.intro @atH_some <| And.intro @orK_some <| And.intro @orK_none <| And.intro @heapK_some <| And.intro @newK_some <| And.intro @bin_int <| And.intro @bin_str <| And.intro @un_not <| And.intro @un_neg <| And.intro @pick_true <| And.intro @pick_false <| And.intro @nil_ptr <| And.intro @nil_iface <| And.intro @nil_func <| And.intro @ext_0 <| And.intro @ext_1 <| And.intro @ext_2 <| And.intro @ext_3 <| And.intro @ot_one <| @ot_nil
theorem vq3 : type_of% (And.intro @ot_more <| And.intro @frA_at <| And.intro @map_toList <| And.intro @parts_eq <| And.intro @mk_ptr <| And.intro @mk_slice <| And.intro @mk_map <| And.intro @wr64 <| And.intro @wr32 <| And.intro @wru8 <| And.intro @wru32 <| And.intro @wru64 <| And.intro @lss_t <| And.intro @lss_f <| And.intro @leq_t <| And.intro @leq_f <| And.intro @gtr_t <| And.intro @gtr_f <| And.intro @geq_t <| And.intro @geq_f <| And.intro @eql_t <| And.intro @eql_f <| And.intro @neq_t <| And.intro @neq_f <| And.intro @add64 <| And.intro @sub64 <| And.intro @mul64 <| And.intro @quo64 <| And.intro @rem64 <| And.intro @addu8 <| And.intro @subu8 <| And.intro @str_add <| And.intro @str_eql <| And.intro @str_neq <| And.intro @nextT <| And.intro @nextK_end <| And.intro @next_set <| And.intro @next_new <| And.intro @next_kill <| And.intro @get_set_k <| And.intro @get_new_k <| And.intro @get_kill_k <| And.intro @ifG_true <| And.intro @ifG_false <| And.intro @beqN_t <| And.intro @beqN_f <| And.intro @add_at <| And.intro @cellAt_some <| And.intro @cellsAt_some <| And.intro @aggO_some <| And.intro @putB_some <| And.intro @putL_some <| And.intro @splice_eq <| And.intro @okB_eq <| And.intro @appK_own <| And.intro @appK_lit <| And.intro @appK_zero <| And.intro @appN_zero <| And.intro @appN_some <| @boundsV_lh) := And.intro @ot_more <| And.intro @frA_at <| And.intro @map_toList <| And.intro @parts_eq <| And.intro @mk_ptr <| And.intro @mk_slice <| And.intro @mk_map <| And.intro @wr64 <| And.intro @wr32 <| And.intro @wru8 <| And.intro @wru32 <| And.intro @wru64 <| And.intro @lss_t <| And.intro @lss_f <| And.intro @leq_t <| And.intro @leq_f <| And.intro @gtr_t <| And.intro @gtr_f <| And.intro @geq_t <| And.intro @geq_f <| And.intro @eql_t <| And.intro @eql_f <| And.intro @neq_t <| And.intro @neq_f <| And.intro @add64 <| And.intro @sub64 <| And.intro @mul64 <| And.intro @quo64 <| And.intro @rem64 <| And.intro @addu8 <| And.intro @subu8 <| And.intro @str_add <| And.intro @str_eql <| And.intro @str_neq <| And.intro @nextT <| And.intro @nextK_end <| And.intro @next_set <| And.intro @next_new <| And.intro @next_kill <| And.intro @get_set_k <| And.intro @get_new_k <| And.intro @get_kill_k <| And.intro @ifG_true <| And.intro @ifG_false <| And.intro @beqN_t <| And.intro @beqN_f <| And.intro @add_at <| And.intro @cellAt_some <| And.intro @cellsAt_some <| And.intro @aggO_some <| And.intro @putB_some <| And.intro @putL_some <| And.intro @splice_eq <| And.intro @okB_eq <| And.intro @appK_own <| And.intro @appK_lit <| And.intro @appK_zero <| And.intro @appN_zero <| And.intro @appN_some <| @boundsV_lh
theorem vq4 : type_of% (And.intro @boundsV_l <| And.intro @boundsV_h <| And.intro @boundsV_0 <| And.intro @boundsV_lhm <| And.intro @cutK_closed <| And.intro @cutK_open <| And.intro @fillG_nil <| And.intro @fillG_cons <| And.intro @fillG1_some <| And.intro @fillS_nil <| And.intro @fillS_cons <| And.intro @aggK_some <| And.intro @litK_some <| And.intro @cells_int <| And.intro @cells_bool <| And.intro @cells_str <| And.intro @cells_ptr <| And.intro @cells_slice <| And.intro @cells_map <| And.intro @cells_func <| And.intro @cells_nilFunc <| And.intro @cells_iface <| And.intro @cells_nilIface <| And.intro @cells_agg <| And.intro @one_int <| And.intro @one_bool <| And.intro @one_str <| And.intro @one_ptr <| And.intro @one_slice <| And.intro @one_map <| And.intro @one_func <| And.intro @one_nilFunc <| And.intro @one_iface <| And.intro @one_nilIface <| And.intro @one_byte <| And.intro @textC_bytes <| And.intro @rep_one <| And.intro @ifo_pos.{1} <| And.intro @ifo_neg.{1} <| And.intro @List.map_cons.{0, 0} <| And.intro @List.map_nil.{0, 0} <| And.intro @List.getD_cons_zero.{0} <| And.intro @List.getD_cons_succ.{0} <| And.intro @List.getElem?_cons_zero.{0} <| And.intro @List.getElem?_cons_succ.{0} <| And.intro @List.set_cons_zero.{0} <| And.intro @List.set_cons_succ.{0} <| And.intro @List.length_cons.{0} <| And.intro @List.length_nil.{0} <| And.intro @List.length_set.{0} <| And.intro @List.length_map.{0, 0} <| And.intro @List.all_cons.{0} <| And.intro @List.all_nil.{0} <| And.intro @List.take_succ_cons.{0} <| And.intro @List.take_zero.{0} <| And.intro @List.take_nil.{0} <| And.intro @List.drop_zero.{0} <| And.intro @List.drop_succ_cons.{0} <| And.intro @List.drop_nil.{0} <| @List.append_nil.{0}) := And.intro @boundsV_l <| And.intro @boundsV_h <| And.intro @boundsV_0 <| And.intro @boundsV_lhm <| And.intro @cutK_closed <| And.intro @cutK_open <| And.intro @fillG_nil <| And.intro @fillG_cons <| And.intro @fillG1_some <| And.intro @fillS_nil <| And.intro @fillS_cons <| And.intro @aggK_some <| And.intro @litK_some <| And.intro @cells_int <| And.intro @cells_bool <| And.intro @cells_str <| And.intro @cells_ptr <| And.intro @cells_slice <| And.intro @cells_map <| And.intro @cells_func <| And.intro @cells_nilFunc <| And.intro @cells_iface <| And.intro @cells_nilIface <| And.intro @cells_agg <| And.intro @one_int <| And.intro @one_bool <| And.intro @one_str <| And.intro @one_ptr <| And.intro @one_slice <| And.intro @one_map <| And.intro @one_func <| And.intro @one_nilFunc <| And.intro @one_iface <| And.intro @one_nilIface <| And.intro @one_byte <| And.intro @textC_bytes <| And.intro @rep_one <| And.intro @ifo_pos.{1} <| And.intro @ifo_neg.{1} <| And.intro @List.map_cons.{0, 0} <| And.intro @List.map_nil.{0, 0} <| And.intro @List.getD_cons_zero.{0} <| And.intro @List.getD_cons_succ.{0} <| And.intro @List.getElem?_cons_zero.{0} <| And.intro @List.getElem?_cons_succ.{0} <| And.intro @List.set_cons_zero.{0} <| And.intro @List.set_cons_succ.{0} <| And.intro @List.length_cons.{0} <| And.intro @List.length_nil.{0} <| And.intro @List.length_set.{0} <| And.intro @List.length_map.{0, 0} <| And.intro @List.all_cons.{0} <| And.intro @List.all_nil.{0} <| And.intro @List.take_succ_cons.{0} <| And.intro @List.take_zero.{0} <| And.intro @List.take_nil.{0} <| And.intro @List.drop_zero.{0} <| And.intro @List.drop_succ_cons.{0} <| And.intro @List.drop_nil.{0} <| @List.append_nil.{0}
theorem vq5 : type_of% (And.intro @List.nil_append.{0} <| And.intro @List.cons_append.{0} <| And.intro @Option.map_some.{0, 0} <| And.intro @Option.map_none.{0, 0} <| And.intro @Option.bind_some.{0, 0} <| And.intro @Bool.and_self <| And.intro @Bool.and_true <| And.intro @Bool.true_and <| And.intro @Bool.and_false <| And.intro @Bool.false_and <| And.intro @Bool.not_true <| And.intro @Bool.not_false <| And.intro @Bool.or_true <| And.intro @Bool.true_or <| And.intro @Bool.or_false <| And.intro @Bool.false_or <| And.intro @beq_self_eq_true.{0} <| And.intro @bq_t <| And.intro @bq_f <| And.intro @Nat.zero_add <| And.intro @Nat.add_zero <| And.intro @Nat.mul_one <| And.intro @Nat.one_mul <| And.intro @Nat.zero_mul <| And.intro @Int.toNat_natCast <| And.intro @Int.toNat_zero <| And.intro @eq_self.{1} <| And.intro @ne_eq.{1} <| And.intro @not_true_eq_false <| And.intro @not_false_eq_true <| And.intro @and_self <| And.intro @and_true <| And.intro @true_and <| And.intro @if_true.{1} <| And.intro @if_false.{1} <| And.intro @Bool.true_eq_false <| And.intro @Bool.false_eq_true <| And.intro @true_or <| And.intro @or_true <| And.intro @false_or <| @or_false) := And.intro @List.nil_append.{0} <| And.intro @List.cons_append.{0} <| And.intro @Option.map_some.{0, 0} <| And.intro @Option.map_none.{0, 0} <| And.intro @Option.bind_some.{0, 0} <| And.intro @Bool.and_self <| And.intro @Bool.and_true <| And.intro @Bool.true_and <| And.intro @Bool.and_false <| And.intro @Bool.false_and <| And.intro @Bool.not_true <| And.intro @Bool.not_false <| And.intro @Bool.or_true <| And.intro @Bool.true_or <| And.intro @Bool.or_false <| And.intro @Bool.false_or <| And.intro @beq_self_eq_true.{0} <| And.intro @bq_t <| And.intro @bq_f <| And.intro @Nat.zero_add <| And.intro @Nat.add_zero <| And.intro @Nat.mul_one <| And.intro @Nat.one_mul <| And.intro @Nat.zero_mul <| And.intro @Int.toNat_natCast <| And.intro @Int.toNat_zero <| And.intro @eq_self.{1} <| And.intro @ne_eq.{1} <| And.intro @not_true_eq_false <| And.intro @not_false_eq_true <| And.intro @and_self <| And.intro @and_true <| And.intro @true_and <| And.intro @if_true.{1} <| And.intro @if_false.{1} <| And.intro @Bool.true_eq_false <| And.intro @Bool.false_eq_true <| And.intro @true_or <| And.intro @or_true <| And.intro @false_or <| @or_false
end Go.Vi
namespace Go.Vi
theorem mn_l {k : IntKind} {a b : Int} (h : a ≤ b) : mnV (.int k a) [.int k b] = some (.int k a) := by
  unfold mnV
  rw [if_pos rfl, if_neg (by omega)]
  unfold mnV
  rfl
theorem mn_r {k : IntKind} {a b : Int} (h : b < a) : mnV (.int k a) [.int k b] = some (.int k b) := by
  unfold mnV
  rw [if_pos rfl, if_pos h]
  unfold mnV
  rfl
abbrev voidS : Value := .slice (some ⟨0, 0, some 0⟩) 0 0
def RowV (h : Heap) (z : Nat) (d : Value) (l : List Value) : Prop := ((d = .slice none 0 0 ∨ d = voidS) ∧ l = []) ∨
  ∃ b o n c row w p, b < h.next ∧ d = .slice (some ⟨b, o, none⟩) n c ∧ n ≤ c ∧ n * z = l.length ∧ h.get b = some (.cells row w p) ∧ o + l.length ≤ row.length ∧ (row.drop o).take l.length = l
def BRow (h : Heap) (d : Value) (l : List UInt8) : Prop := RowV h 1 d (l.map byteV)
theorem RowV.nil (h : Heap) (z : Nat) : RowV h z (.slice none 0 0) [] := .inl ⟨.inl rfl, rfl⟩
theorem RowV.keep {h h' : Heap} {z : Nat} {d : Value} {l : List Value} (x : RowV h z d l) (hn : h.next ≤ h'.next) (g : ∀ b, blkOf d = some b → b < h.next → h'.get b = h.get b) : RowV h' z d l := by
  rcases x with x | ⟨b, o, n, c, row, w, p, hb, rfl, hc, hl, hg, h1, h2⟩
  · exact .inl x
  · exact .inr ⟨b, o, n, c, row, w, p, Nat.lt_of_lt_of_le hb hn, rfl, hc, hl, by rw [g b rfl hb]; exact hg, h1, h2⟩
theorem RowV.grow {h h' : Heap} {z : Nat} {d : Value} {l : List Value} (x : RowV h z d l) (g : Grow h h') : RowV h' z d l := x.keep g.next fun b _ hb => g.get b hb
theorem Own.row {h0 h : Heap} {z elem : Nat} {d : Value} {l : List Value} (o : Own h0 h z elem d l) : RowV h z d l := by
  rcases o with ⟨rfl, rfl⟩ | ⟨b, n, rfl, hn, hl, _, hb, hg⟩
  · exact .nil h z
  · exact .inr ⟨b, 0, n, n, l, true, _, hb, rfl, Nat.le_refl _, hl, hg, by omega, by rw [List.drop_zero, List.take_length]⟩
theorem RowV.own {h : Heap} {z b n c : Nat} {row : List Value} {w : Bool} {p : Option (Nat × Nat)} (hb : b < h.next) (hc : n ≤ c) (hg : h.get b = some (.cells row w p)) (hl : n * z ≤ row.length) : RowV h z (.slice (some ⟨b, 0, none⟩) n c) (row.take (n * z)) := by
  have e : (row.take (n * z)).length = n * z := by rw [List.length_take]; omega
  exact .inr ⟨b, 0, n, c, row, w, p, hb, rfl, hc, e.symm, hg, by omega, by rw [List.drop_zero, e]⟩
theorem RowV.one {h : Heap} {z : Nat} {d : Value} {l : List Value} (x : RowV h z d l) : oneCell d = true := by
  rcases x with ⟨rfl | rfl, _⟩ | ⟨b, o, n, c, row, w, p, hb, rfl, _⟩ <;> rfl
theorem RowV.is {h : Heap} {z : Nat} {d : Value} {l : List Value} (x : RowV h z d l) : ∃ a n c, d = .slice a n c ∧ n * z = l.length ∧ n ≤ c := by
  rcases x with ⟨rfl | rfl, rfl⟩ | ⟨b, o, n, c, row, w, p, hb, rfl, hc, hl, _⟩
  · exact ⟨none, 0, 0, rfl, by simp, Nat.le_refl _⟩
  · exact ⟨_, 0, 0, rfl, by simp, Nat.le_refl _⟩
  · exact ⟨_, n, c, rfl, hl, hc⟩
theorem RowV.lt {h : Heap} {z : Nat} {d : Value} {l : List Value} (x : RowV h z d l) (hl : l ≠ []) {b : Nat} (hb : blkOf d = some b) : b < h.next := by
  rcases x with ⟨_, q⟩ | ⟨b', o, n, c, row, w, p, hb', rfl, _⟩
  · exact absurd q hl
  · cases hb; exact hb'
theorem BRow.is {h : Heap} {d : Value} {l : List UInt8} (x : BRow h d l) : ∃ a c, d = .slice a l.length c := by
  obtain ⟨a, n, c, rfl, hn, _⟩ := RowV.is x
  rw [List.length_map, Nat.mul_one] at hn
  exact ⟨a, c, by rw [hn]⟩
theorem BRow.grow {h h' : Heap} {d : Value} {l : List UInt8} (x : BRow h d l) (g : Grow h h') : BRow h' d l := RowV.grow x g
theorem BRow.one {h : Heap} {d : Value} {l : List UInt8} (x : BRow h d l) : oneCell d = true := RowV.one x
theorem RowV.elem {h : Heap} {z : Nat} {d : Value} {l : List Value} (x : RowV h z d l) {i : Nat} (hz : 0 < z) (hi : i * z + z ≤ l.length) : ∃ b o n c, d = .slice (some ⟨b, o, none⟩) n c ∧ b < h.next ∧ n * z = l.length ∧ i < n ∧ cellsAt (h.get b) (o + i * z) z = some ((l.drop (i * z)).take z) := by
  rcases x with ⟨_, rfl⟩ | ⟨b, o, n, c, row, w, p, hb, rfl, hc, hl, hg, h1, h2⟩
  · simp only [List.length_nil] at hi; omega
  · have hin : i < n := by
      refine Nat.lt_of_not_le fun hx => ?_
      have := Nat.mul_le_mul_right z hx
      omega
    refine ⟨b, o, n, c, rfl, hb, hl, hin, ?_⟩
    rw [hg, cellsAt_some, if_pos (by omega)]
    congr 1
    conv => rhs; rw [← h2]
    rw [List.drop_take, List.take_take, List.drop_drop, Nat.min_eq_left (by omega)]
theorem cells_byte {l : List UInt8} {i : Nat} {c : UInt8} (h : l[i]? = some c) : ((l.map byteV).drop (i * 1)).take 1 = [byteV c] := by
  obtain ⟨hi, rfl⟩ := List.getElem?_eq_some_iff.1 h
  rw [Nat.mul_one, List.drop_eq_getElem_cons (by simpa using hi)]
  simp
theorem cells_one1 {x : Option Blk} {o : Nat} {v : Value} (h : cellsAt x o 1 = some [v]) : cellAt x o = some v := by
  cases x with
  | none => cases h
  | some y =>
    cases y with
    | cells cs w p =>
      rw [cellsAt_some] at h
      split at h
      · have h0 : ((cs.drop o).take 1)[0]? = some v := by rw [Option.some.inj h]; rfl
        rw [List.getElem?_take, if_pos (by omega), List.getElem?_drop, Nat.add_zero] at h0
        exact h0
      · cases h
    | _ => cases h
theorem BRow.elems {h : Heap} {d : Value} {l : List UInt8} (x : BRow h d l) (hl : l ≠ []) : ∃ b o c, d = .slice (some ⟨b, o, none⟩) l.length c ∧ b < h.next ∧ ∀ (i : Nat) (y : UInt8), l[i]? = some y → cellAt (h.get b) (o + i) = some (.int .u8 y.toNat) := by
  have hp : 0 < l.length := List.length_pos_iff.2 hl
  obtain ⟨b, o, n, c, rfl, hb, hn, _, _⟩ := RowV.elem x (i := 0) (by omega) (by simp; omega)
  rw [List.length_map, Nat.mul_one] at hn
  subst hn
  refine ⟨b, o, c, rfl, hb, fun i y hi => ?_⟩
  have hil := (List.getElem?_eq_some_iff.1 hi).1
  obtain ⟨b', o', n', c', he, _, _, _, hc⟩ := RowV.elem x (i := i) (by omega) (by simp; omega)
  cases he
  rw [cells_byte hi, Nat.mul_one] at hc
  exact cells_one1 hc
theorem flat_elem {α : Type} {f : α → List Value} {z : Nat} : ∀ {xs : List α} {i : Nat} {x : α}, (∀ y ∈ xs, (f y).length = z) → xs[i]? = some x → ((xs.flatMap f).drop (i * z)).take z = f x
  | [], i, x, _, h => by cases h
  | y :: xs, 0, x, hf, h => by
    cases h
    rw [Nat.zero_mul, List.drop_zero, List.flatMap_cons, List.take_left' (hf y List.mem_cons_self)]
  | y :: xs, i + 1, x, hf, h => by
    rw [Nat.succ_mul, Nat.add_comm, List.flatMap_cons, ← List.drop_drop, List.drop_left' (hf y List.mem_cons_self)]
    exact flat_elem (fun y hy => hf y (List.mem_cons_of_mem _ hy)) h
theorem flat_len {α : Type} {f : α → List Value} {z : Nat} : ∀ {xs : List α}, (∀ y ∈ xs, (f y).length = z) → (xs.flatMap f).length = xs.length * z
  | [], _ => by simp
  | y :: xs, hf => by
    rw [List.flatMap_cons, List.length_append, hf y List.mem_cons_self, flat_len fun y hy => hf y (List.mem_cons_of_mem _ hy), List.length_cons, Nat.succ_mul]
    omega
section
variable {E : Env} {t elem z bytes : Nat} {h : Heap}
theorem srcV_row {d : Value} {l : List Value} {n : Nat} (x : RowV h z d l) (hn : n * z = l.length) (hz : 0 < z) : srcV z d h = some (n, l) := by
  rcases x with ⟨hd, rfl⟩ | ⟨b, o, m, c, row, w, p, hb, rfl, hc, hl, hg, h1, h2⟩
  · have : n = 0 := by
      rcases Nat.eq_zero_or_pos n with h | h
      · exact h
      · have := Nat.mul_pos h hz; simp at hn; omega
    subst this
    rcases hd with rfl | rfl <;> rfl
  · obtain rfl : n = m := Nat.eq_of_mul_eq_mul_right hz (by omega)
    unfold srcV
    by_cases h0 : n = 0
    · subst h0
      have : l = [] := List.length_eq_zero_iff.1 (by omega)
      subst this
      simp
    · simp only [if_neg h0, rdN_at]
      rw [hg, cellsAt_some, if_pos (by omega), hl, h2]
      rfl
theorem copy_row (k : SlIs E t elem z bytes) {b o dlen dcap n : Nat} {x : Value} {l cs : List Value} {p : Option (Nat × Nat)} (hx : RowV h z x l) (hn : n * z = l.length) (ho : l.all oneCell = true) (hg : h.get b = some (.cells cs true p))
    (hf : o + min n dlen * z ≤ cs.length) : copyV E t (.slice (some ⟨b, o, none⟩) dlen dcap) x h = some (.int .i64 (min n dlen : Nat), if min n dlen = 0 then h else h.set b (.cells (splice cs o (l.take (min n dlen * z))) true p)) := by
  obtain ⟨⟨i, e, hi, hu, he, hz, hb, hzz⟩, hp⟩ := k
  unfold copyV
  have hz0 : (z == 0) = false := by simpa using hp
  simp only [hi, Option.bind_eq_bind, Option.bind_some, hu, he, hz, srcV_row hx hn (by omega)]
  simp only [decide_eq_false hp, ← hn, ne_eq, not_true_eq_false, decide_false, Bool.or_self, ho, Bool.not_true, Bool.false_eq_true, if_false]
  by_cases h0 : min n dlen = 0
  · rw [if_pos h0, if_pos h0, h0]; rfl
  · rw [if_neg h0, if_neg h0]
    have hlt : (l.take (min n dlen * z)).length = min n dlen * z := by
      have := Nat.mul_le_mul_right z (Nat.min_le_left n dlen)
      rw [List.length_take]; omega
    have hall : (l.take (min n dlen * z)).all oneCell = true := List.all_eq_true.2 fun v hv => List.all_eq_true.1 ho v (List.mem_of_mem_take hv)
    rw [wrN_at _ _ _ _ hall, hg, putAt_some hall (by omega)]
    rfl
theorem slV0 (k : SlIs E t elem z bytes) {a : Option Addr} {len cap : Nat} {lo hi mx : Option Value} : sliceV E t (.slice a len cap) lo hi mx = none := by
  obtain ⟨⟨i, e, hi', hu, _⟩, hp⟩ := k
  unfold sliceV
  simp only [hi', Option.bind_eq_bind, Option.bind_some, hu]
theorem slS0 (k : SlIs E t elem z bytes) {b o len cap : Nat} {lo hi mx : Option Value} : sliceS E t (.slice (some ⟨b, o, none⟩) len cap) lo hi mx h = cutK z b o (h.get b) (boundsV len cap lo hi mx) := by
  have := slS k (b := b) (o := o) (len := len) (cap := cap) (lo := lo) (hi := hi) (mx := mx) (h := h)
  rw [slV0 k, orK_none] at this
  exact this
theorem srcA_void {e : Ty} : srcA true e voidS h = (some []).map fun l => (0, l) := rfl
theorem app_void (k : SlIs E t elem z bytes) {xt : TypeId} (hx : okSrc E (some xt) = some true) {b o len cap : Nat} :
    appendV E t (some xt) (.slice (some ⟨b, o, none⟩) len cap) voidS h = appK z bytes elem h b o len cap (h.get b) 0 (okB 0 z (some [])) := app_aux k hx fun _ _ => srcA_void
theorem app0_void (k : SlIs E t elem z bytes) {xt : TypeId} (hx : okSrc E (some xt) = some true) :
    appendV E t (some xt) (.slice none 0 0) voidS h = appN z bytes elem h 0 (okB 0 z (some [])) := appn_aux k hx fun _ _ => srcA_void
theorem app_own0 (k : SlIs E t elem z bytes) {xt : TypeId} (hx : okSrc E (some xt) = some true) {b n : Nat} {wr : Bool} {d : Value} {l : List Value} (hd : RowV h z d l) (hn : n * z = l.length) (hp : 0 < n) (ho : l.all oneCell = true) (hg : h.get b = some (.cells [] wr none))
    (hb : n * bytes ≤ 68719476736) (hl : n ≤ 68719476736) :
    appendV E t (some xt) (.slice (some ⟨b, 0, none⟩) 0 0) d h = some (.slice (some ⟨h.next, 0, none⟩) n n, h.new (.cells l true (some (z, elem)))) := by
  have hz := k.pos
  rcases hd with ⟨_, rfl⟩ | ⟨b2, o, m, c, row, w, p, hb2, rfl, hc, hl2, hg2, h1, h2⟩
  · have := Nat.mul_pos hp (Nat.pos_of_ne_zero hz); simp at hn; omega
  · obtain rfl : n = m := Nat.eq_of_mul_eq_mul_right (Nat.pos_of_ne_zero hz) (by omega)
    rw [app_row k hx, if_neg (by omega), hg2, cellsAt_some, if_pos (by omega), hl2, h2, okB_some (by omega) ho, hg, appK_lit hp (by simp) (by rw [Nat.zero_add]; exact hb) (by omega)]
    simp
theorem app_none0 (k : SlIs E t elem z bytes) {xt : TypeId} (hx : okSrc E (some xt) = some true) {b len cap : Nat} {o : Nat} {d : Value} (hd : RowV h z d []) (hlc : len ≤ cap) :
    appendV E t (some xt) (.slice (some ⟨b, o, none⟩) len cap) d h = some (.slice (some ⟨b, o, none⟩) len cap, h) := by
  have hz := k.pos
  rcases hd with ⟨rfl | rfl, _⟩ | ⟨b2, o2, m, c, row, w, p, hb2, rfl, hc, hl2, hg2, h1, h2⟩
  · rw [app_nil k hx, okB_some (by simp) rfl, appK_zero hlc]
  · rw [app_void k hx, okB_some (by simp) rfl, appK_zero hlc]
  · have : m = 0 := by
      rcases Nat.eq_zero_or_pos m with h | h
      · exact h
      · have := Nat.mul_pos h (Nat.pos_of_ne_zero hz); simp at hl2; omega
    subst this
    rw [app_row k hx, if_pos rfl, okB_some (by simp) rfl, appK_zero hlc]
end
end Go.Vi
namespace Go.Vi
section
variable {E : Env} {t elem z bytes : Nat}
theorem own_add (k : SlIs E t elem z bytes) {xt : TypeId} (hx : okSrc E (some xt) = some true) {h0 h : Heap} {d x : Value} {l m : List Value} (o : Own h0 h z elem d l) (g : Grow h0 h) (r : RowV h z x m)
    (hall : m.all oneCell = true) (hl : l.length + m.length ≤ 1000000000) (hb : bytes ≤ 60) :
    ∃ d' h', appendV E t (some xt) d x h = some (d', h') ∧ Own h0 h' z elem d' (l ++ m) ∧ Grow h0 h' ∧ h.next ≤ h'.next ∧ (blkOf d' = blkOf d ∨ blkOf d' = some h.next) ∧ ∀ c, c < h.next → blkOf d ≠ some c → h'.get c = h.get c := by
  have hz := k.pos
  have none0 : ∀ {b2 o2 c2 : Nat}, m = [] → appendV E t (some xt) d (.slice (some ⟨b2, o2, none⟩) 0 c2) h = some (d, h) := fun {b2 o2 c2} hm => by
    rcases o with ⟨rfl, _⟩ | ⟨b, n, rfl, hn, _, _, _, hg⟩
    · rw [app0_row k hx, if_pos rfl, okB_some (by simp) rfl, appN_zero]
    · rw [app_row k hx, if_pos rfl, okB_some (by simp) rfl, appK_zero (Nat.le_refl _)]
  rcases r with ⟨rfl | rfl, rfl⟩ | ⟨b2, o2, n, c2, row, w, p, hb2, rfl, hc, hl2, hg2, h1, h2⟩
  · refine ⟨d, h, ?_, by rw [List.append_nil]; exact o, g, Nat.le_refl _, .inl rfl, fun _ _ _ => rfl⟩
    rcases o with ⟨rfl, _⟩ | ⟨b, n, rfl, hn, _, _, _, hg⟩
    · rw [app0_nil k hx, okB_some (by simp) rfl, appN_zero]
    · rw [app_nil k hx, okB_some (by simp) rfl, appK_zero (Nat.le_refl _)]
  · refine ⟨d, h, ?_, by rw [List.append_nil]; exact o, g, Nat.le_refl _, .inl rfl, fun _ _ _ => rfl⟩
    rcases o with ⟨rfl, _⟩ | ⟨b, n, rfl, hn, _, _, _, hg⟩
    · rw [app0_void k hx, okB_some (by simp) rfl, appN_zero]
    · rw [app_void k hx, okB_some (by simp) rfl, appK_zero (Nat.le_refl _)]
  · rcases Nat.eq_zero_or_pos n with rfl | hn
    · have hm : m = [] := List.eq_nil_of_length_eq_zero (by omega)
      subst hm
      exact ⟨d, h, none0 rfl, by rw [List.append_nil]; exact o, g, Nat.le_refl _, .inl rfl, fun _ _ _ => rfl⟩
    · have hs : cellsAt (h.get b2) o2 (n * z) = some m := by
        rw [hg2, cellsAt_some, hl2, if_pos h1, h2]
      obtain ⟨d', h', q1, q2, q3, q4, q5, q6⟩ := own_app k hx o g (b2 := b2) (o2 := o2) (n := n) (c2 := c2) hs hn hall hl hb
      exact ⟨d', h', q1, q2, q3, by omega, .inr q5, q6⟩
end
end Go.Vi
namespace Go.Vi
section
variable {E : Env} {s t e : TypeId}
end
end Go.Vi
namespace Go.Vi
section
variable {E : Env} {t elem z bytes : Nat}
end
end Go.Vi
namespace Go.Vi
section
variable {E : Env} {t elem z bytes : Nat}
theorem own_appN (k : SlIs E t elem z bytes) {xt : TypeId} (hx : okSrc E (some xt) = some true) {h0 h : Heap} {d : Value} {l : List Value} (o : Own h0 h z elem d l) (g : Grow h0 h) {b2 o2 n c2 : Nat} {new : List Value}
    (hs : cellsAt (h.get b2) o2 (n * z) = some new) (hn : 0 < n) (hall : new.all oneCell = true) {N : Nat} (hl : l.length + new.length ≤ N) (hN : N ≤ 1000000000) (hb : N * bytes ≤ 68719476736) :
    ∃ d' h', appendV E t (some xt) d (.slice (some ⟨b2, o2, none⟩) n c2) h = some (d', h') ∧ Own h0 h' z elem d' (l ++ new) ∧ Grow h0 h' ∧ h'.next = h.next + 1 ∧ blkOf d' = some h.next ∧ ∀ c, c < h.next → blkOf d ≠ some c → h'.get c = h.get c := by
  have hp := k.pos
  have hlen : new.length = n * z := by
    unfold cellsAt at hs
    split at hs
    · split at hs
      · cases hs; simp only [List.length_take, List.length_drop]; omega
      · cases hs
    · cases hs
  have hnz : n ≤ n * z := Nat.le_mul_of_pos_right _ (by omega)
  have hn0 : ¬ n = 0 := by omega
  have hbn : ∀ m : Nat, m ≤ N → m * bytes ≤ 68719476736 := fun m hm => Nat.le_trans (Nat.mul_le_mul_right _ hm) hb
  rcases o with ⟨rfl, rfl⟩ | ⟨b, m, rfl, hm, hml, hb0, hb1, hg⟩
  · refine ⟨.slice (some ⟨h.next, 0, none⟩) n n, h.new (.cells new true (some (z, elem))), ?_, .inr ⟨h.next, n, rfl, hn, by simp [hlen], g.next, Nat.lt_succ_self _, get_new_same _ _⟩, g.more _, rfl, rfl, fun c hc _ => get_new_ne (by omega)⟩
    rw [app0_row k hx, if_neg hn0, hs, okB_some hlen hall, appN_some hn (hbn _ (by simp at hl; omega)) (by simp at hl; omega)]
  · have hmz : m ≤ m * z := Nat.le_mul_of_pos_right _ (by omega)
    refine ⟨.slice (some ⟨h.next, 0, none⟩) (m + n) (m + n), (h.new (.cells (l ++ new) true (some (z, elem)))).kill b, ?_, .inr ⟨h.next, m + n, rfl, by omega, by rw [Nat.add_mul, List.length_append]; omega, g.next, Nat.lt_succ_self _, ?_⟩, (g.more _).kill hb0, rfl, rfl, fun c hc hne => ?_⟩
    · rw [app_row k hx, if_neg hn0, hs, okB_some hlen hall, hg, appK_own hn hml (hbn _ (by omega)) (by omega)]
    · rw [get_kill_ne (by omega), get_new_same]
    · have hcb : c ≠ b := fun e => hne (by rw [e]; rfl)
      rw [get_kill_ne hcb, get_new_ne (by omega)]
theorem appn_at (k : SlIs E t elem z bytes) {xt : Option TypeId} {okx : Bool} (hx : okSrc E xt = some okx) {x : Value} {h : Heap} {n : Nat} {new : Option (List Value)}
    (hs : ∀ e : Ty, E.ty elem = some e → srcA okx e x h = new.map fun l => (n, l)) :
    appendV E t xt (.slice none 0 0) x h = appN z bytes elem h n (okB n z new) := by
  obtain ⟨⟨i, e, hi, hu, he, hz, hb, hzz⟩, hp⟩ := k
  unfold appendV appN
  simp only [hi, Option.bind_eq_bind, Option.bind_some, hu, he, hx, hs e he, hz, hb, hzz]
  cases new with
  | none => rfl
  | some new =>
    simp only [Option.map_some, Option.bind_some]
    by_cases h1 : new.length = n * z
    · by_cases h2 : new.all oneCell = true
      · rw [okB_some h1 h2]
        simp only [decide_eq_false hp, h1, h2, ne_eq, not_true_eq_false, decide_false, Bool.or_self, Bool.not_true, Bool.false_eq_true, if_false, or_false, Nat.zero_add, Nat.le_zero_eq, if_true]
        split <;> rfl
      · rw [okB_no (fun q => h2 q.2)]
        simp [h2]
    · rw [okB_no (fun q => h1 q.1)]
      simp [h1]
theorem app0_noughts (k : SlIs E t elem 1 bytes) {xt : TypeId} (hx : okSrc E (some xt) = some false) {v : Value} (hv : (E.ty elem).map (fun i => i.zero) = some (some v)) (h1 : cellsOf v = [v]) (ho : oneCell v = true) {n : Nat} {q : IntKind} {h : Heap}
    (hb : n * bytes ≤ 68719476736) (hn : n < 68719476736) :
    appendV E t (some xt) (.slice none 0 0) (.int q n) h = appN 1 bytes elem h n (some (List.replicate n v)) := by
  have hr : (List.replicate n v).all oneCell = true := List.all_eq_true.2 fun x hx => by rw [List.eq_of_mem_replicate hx]; exact ho
  rw [appn_at k hx (new := some (List.replicate n v)) fun e he => ?_, okB_some (by rw [List.length_replicate, Nat.mul_one]) hr]
  obtain ⟨⟨i, e', hi, hu, he', hz, hbb, hzz⟩, hp⟩ := k
  rw [he] at he'
  cases he'
  rw [he] at hv
  have hze : e.zero = some v := by
    have := Option.some.inj hv
    exact this
  have hzr : zeros e n = some (List.replicate n v) := by
    unfold zeros
    rw [hze]
    simp only [Option.bind_eq_bind, Option.bind_some]
    rw [h1, if_pos (by rw [hz]; rfl), rep_one]
  unfold srcA
  rw [if_neg (by decide), zsrcV, if_pos ⟨by omega, by omega, by rw [hbb, Int.toNat_natCast]; omega⟩, Int.toNat_natCast, hzr]
theorem app_room (k : SlIs E t elem z bytes) {xt : Option TypeId} (hx : okSrc E xt = some true) {d : Value} {h : Heap} {n : Nat} {new : List Value} (hs : srcV z d h = some (n, new)) (hlen : new.length = n * z) (hall : new.all oneCell = true)
    {B o len cap : Nat} {cs : List Value} {p : _} (hB : h.get B = some (.cells cs true p)) (hl : len + n ≤ cap) (hn : 0 < n) (hc : o + len * z + new.length ≤ cs.length) :
    appendV E t xt (.slice (some ⟨B, o, none⟩) len cap) d h = some (.slice (some ⟨B, o, none⟩) (len + n) cap, h.set B (.cells (splice cs (o + len * z) new) true p)) := by
  rw [app_aux k hx (n := n) (new := some new) fun e he => by unfold srcA; rw [if_pos rfl, he, hs]; rfl, okB_some hlen hall, hB]
  unfold appK
  simp only
  rw [if_pos hl, if_neg (by omega)]
  rw [putAt_some hall hc]
end
end Go.Vi
namespace Go.Vi
structure MapIs (E : Env) (t key elem : TypeId) : Prop where
  t : (E.ty t).map (fun i => i.under) = some (.map key elem)
  key : (E.ty key).map (fun i => i.under) = some .string
  elem : (E.ty elem).map (fun i => i.zero) = some (some (.int .i64 0))
section
variable {E : Env} {t key elem : TypeId} {h : Heap} {r c : Nat} {es : List MapEntry} {n : List UInt8}
end
def Ents (es : List MapEntry) (l : List (List UInt8)) (v : Value) : Prop := es.map (fun e => (e.key, e.val)) = l.map fun n => (.string (strOf n), v)
theorem Ents.snoc {es : List MapEntry} {l : List (List UInt8)} {v : Value} (x : Ents es l v) (n : List UInt8) (c : Nat) : Ents (es ++ [{ key := .string (strOf n), val := v, born := c }]) (l ++ [n]) v := by
  have x : es.map (fun e => (e.key, e.val)) = l.map fun n => (.string (strOf n), v) := x
  show List.map _ _ = List.map _ _
  rw [List.map_append, List.map_append, x]
  rfl
end Go.Vi
namespace Go.Vi
structure IntMap (E : Env) (t key elem : TypeId) (k : IntKind) (z : Value) : Prop where
  t : (E.ty t).map (fun i => i.under) = some (.map key elem)
  key : (E.ty key).map (fun i => i.under) = some (.int k)
  elem : (E.ty elem).map (fun i => i.zero) = some (some z)
section
variable {E : Env} {t key elem : TypeId} {k : IntKind} {z : Value} {h : Heap} {r c : Nat} {es : List MapEntry} {n : Int}
theorem iput_none (m : IntMap E t key elem k z) (hg : h.get r = some (.map es c)) (v : Value) (hf : findV (.int k n) es 0 = some none) :
    mapPutV E t (.map (some r)) (.int k n) v h = some (h.set r (.map (es ++ [{ key := .int k n, val := v, born := c }]) (c + 1))) := by
  obtain ⟨i, hi, hu⟩ := Option.map_eq_some_iff.1 m.t
  obtain ⟨q, hk, hv⟩ := Option.map_eq_some_iff.1 m.key
  unfold mapPutV
  simp only [hi, hk, hu, hv, Option.bind_eq_bind, Option.bind_some, plainKey, mapOf, hg, hf]
  rfl
theorem iput_some (m : IntMap E t key elem k z) (hg : h.get r = some (.map es c)) (v : Value) {j : Nat} {w : Value} (hf : findV (.int k n) es 0 = some (some (j, w))) :
    mapPutV E t (.map (some r)) (.int k n) v h = some (h.set r (.map (setEntry es j (.int k n) v) c)) := by
  obtain ⟨i, hi, hu⟩ := Option.map_eq_some_iff.1 m.t
  obtain ⟨q, hk, hv⟩ := Option.map_eq_some_iff.1 m.key
  unfold mapPutV
  simp only [hi, hk, hu, hv, Option.bind_eq_bind, Option.bind_some, plainKey, mapOf, hg, hf]
  rfl
end
def Nums (k : IntKind) (es : List MapEntry) : Prop := ∀ e ∈ es, ∃ n, e.key = .int k n
theorem nums_nil (k : IntKind) : Nums k [] := fun _ h => nomatch h
theorem Nums.snoc {k : IntKind} {es : List MapEntry} (x : Nums k es) (n : Int) (v : Value) (c : Nat) : Nums k (es ++ [{ key := .int k n, val := v, born := c }]) := fun e he => by
  rcases List.mem_append.1 he with q | q
  · exact x e q
  · rw [List.mem_singleton] at q
    exact ⟨n, by rw [q]⟩
theorem Nums.put {k : IntKind} {n : Int} {v : Value} : ∀ {es : List MapEntry} (j : Nat), Nums k es → Nums k (setEntry es j (.int k n) v)
  | [], _, x => x
  | e :: es, 0, x => fun a ha => by
    rcases List.mem_cons.1 ha with q | q
    · exact ⟨n, by rw [q]⟩
    · exact x a (List.mem_cons_of_mem _ q)
  | e :: es, j + 1, x => fun a ha => by
    rcases List.mem_cons.1 ha with q | q
    · rw [q]; exact x e (List.mem_cons_self ..)
    · exact Nums.put (es := es) j (fun b hb => x b (List.mem_cons_of_mem _ hb)) a q
def valI (k : IntKind) (es : List MapEntry) (n : Int) : Option Value := match es with
  | [] => none
  | e :: es => match keyEq (.int k n) e.key with
    | some true => some e.val
    | _ => valI k es n
theorem find_val {k : IntKind} (n : Int) : ∀ {es : List MapEntry} (i : Nat), Nums k es → (findV (.int k n) es i = some none ∧ valI k es n = none) ∨ ∃ j v, findV (.int k n) es i = some (some (i + j, v)) ∧ valI k es n = some v ∧
    ∀ w q, valI k (setEntry es j (.int k n) w) q = if q = n then some w else valI k es q
  | [], _, _ => .inl ⟨rfl, rfl⟩
  | e :: es, i, h => by
    obtain ⟨m, hm⟩ := h e (List.mem_cons_self ..)
    have hk : ∀ q, keyEq (.int k q) e.key = some (q == m) := fun q => by rw [hm]; exact if_pos rfl
    rw [findV, valI, hk]
    cases hnm : n == m with
    | true =>
      have e1 : n = m := eq_of_beq hnm
      refine .inr ⟨0, e.val, rfl, rfl, fun w q => ?_⟩
      rw [setEntry, valI, valI, hk]
      have : keyEq (.int k q) (.int k n) = some (q == n) := if_pos rfl
      rw [this]
      by_cases hq : q = n
      · rw [if_pos hq, beq_iff_eq.2 hq]
      · rw [if_neg hq, beq_eq_false_iff_ne.2 hq, beq_eq_false_iff_ne.2 (by rw [← e1]; exact hq)]
    | false =>
      have e1 : n ≠ m := beq_eq_false_iff_ne.1 hnm
      rcases find_val n (i + 1) (fun e he => h e (List.mem_cons_of_mem _ he)) with q | ⟨j, v, q1, q2, q3⟩
      · exact .inl q
      · refine .inr ⟨j + 1, v, by rw [show i + (j + 1) = i + 1 + j by omega]; exact q1, q2, fun w q => ?_⟩
        rw [setEntry, valI, valI, hk, q3]
        cases hqm : q == m with
        | true =>
          have e2 : q = m := eq_of_beq hqm
          have hqn : ¬ q = n := by rw [e2]; exact fun e => e1 e.symm
          show some e.val = if q = n then some w else some e.val
          rw [if_neg hqn]
        | false => rfl
theorem val_snoc {k : IntKind} (n : Int) (v : Value) (c : Nat) : ∀ {es : List MapEntry}, Nums k es → valI k es n = none → ∀ q, valI k (es ++ [{ key := .int k n, val := v, born := c }]) q = if q = n then some v else valI k es q
  | [], _, _, q => by
    rw [List.nil_append, valI, valI]
    have : keyEq (.int k q) (.int k n) = some (q == n) := if_pos rfl
    simp only
    rw [this]
    by_cases hq : q = n
    · rw [if_pos hq, beq_iff_eq.2 hq]
    · rw [if_neg hq, beq_eq_false_iff_ne.2 hq]
      rfl
  | e :: es, h, hv, q => by
    obtain ⟨m, hm⟩ := h e (List.mem_cons_self ..)
    have hk : ∀ q, keyEq (.int k q) e.key = some (q == m) := fun q => by rw [hm]; exact if_pos rfl
    rw [valI, hk] at hv
    rw [List.cons_append, valI, valI, hk]
    cases hnm : n == m with
    | true => rw [hnm] at hv; cases hv
    | false =>
      rw [hnm] at hv
      have e1 : n ≠ m := beq_eq_false_iff_ne.1 hnm
      cases hqm : q == m with
      | true =>
        have e2 : q = m := eq_of_beq hqm
        rw [if_neg (by rw [e2]; exact fun e => e1 e.symm)]
      | false => exact val_snoc n v c (fun e he => h e (List.mem_cons_of_mem _ he)) hv q
end Go.Vi
namespace Go.Vi
section
variable {E : Env} {p : Plan} {d : Option Tmp} {ty : TypeId} {r : List SOp} {j : Nat} {ρ : Fr} {h : Heap} {hs : List Heap} {rs : List HSeen} {Q : Qt}
theorem d_min (x y : Operand) (ats : Array TypeId) : DR E p (⟨d, .call { callee := .builtin .min, args := #[x, y], argTypes := ats }, ty, none⟩ :: r) j ρ h hs rs Q = dvalQ E p d r j ρ h hs rs Q (mnV (evH ρ x) [evH ρ y]) :=
  d_pure rfl (by
    have e : pureV E (evH ρ) (SOp.o ⟨d, .call { callee := .builtin .min, args := #[x, y], argTypes := ats }, ty, none⟩) = match (#[x, y].map (evH ρ)).toList with | x :: r => mnV x r | [] => none := rfl
    have e2 : (#[x, y].map (evH ρ)).toList = [evH ρ x, evH ρ y] := by simp
    rw [e, e2]) fun call => se_min E call d ty _ h x y ats
end
end Go.Vi
