/- The contract of the law FnExactPadZeros: it answers true, whatever the arguments. -/
import Derived.Test.YtjnlpomfjlpikaaAbT
import Derived.Test.YtjnlpomfjlpikaaAbP
import Derived.Test.YtjnlpomfjlpikaaAbS
import Derived.Test.YtjnlpomfjlpikaaAbR
import Derived.Test.YtjnlpomfjlpikaaW54
set_option linter.unusedVariables false
set_option linter.unusedSimpArgs false
set_option maxRecDepth 10000
namespace Go.Proofs.Ytjnlpomfjlpikaa.Ab
open Go Go.RowKit
attribute [local go_sem] q_run q_seq q_skip q_block q_exit q_cond q_region q_nil q_op q_blk q_loop q_ret q_open q_inv q_fin q_go q_h0 q_h1 q_gskip q_stepC q_brt q_brf q_stepX q_sskip q_sskip0 q_val q_need q_new q_newc q_sv q_sto q_c1 q_c2 q_c3 q_c4 q_c5 q_c6 q_c7 q_c8 q_c9 q_c10 q_c11 q_c12 q_c13 q_c14 q_c15 q_c16 q_c17 q_c18 q_c19 q_c20 q_c21 q_c22 q_g0 q_g1 q_gC q_gD q_gE q_gB1 q_gB2 q_gB3 q_gB4 q_ev1 q_ev2 q_ev3 q_evo0 q_evo1 q_rv q_rva q_o1 q_o2 q_pk1 q_pk2 q_ld1p q_ld1e q_ld1t q_ldnp q_ldne q_ldnt q_sub0 q_sub1 q_subc q_stS q_stT q_box q_bldr q_bld q_fill0 q_fill1 q_fillB q_bsr q_bsl q_fap q_fat q_iasl q_iats q_lnsl q_lnts q_lnv q_lnS q_exA q_mkB q_lo0 q_lo1 q_hi0 q_hi1 q_slcA q_slcU1 q_slcU2 q_slcT1 q_slcT2 q_slsA q_slsU q_slsT q_apA q_apC q_srcE1 q_srcE2 q_srcE3 q_srcA1 q_srcB q_srcA2 q_srcA3 q_fnA q_nc1 q_nc2 q_bin q_bin2 q_bin3 q_bin4 q_bin5 q_bin6 q_bin7 q_bin8 q_bin9 q_bin10 q_i1 q_i2 q_i3 q_i4 q_i5 q_i6 q_i7 q_i8 q_i9 q_i10 q_i11 q_s1 q_s2 q_s3 q_u1 q_u2 q_min q_max q_ce1 q_ce2 q_ce3 q_ce4 q_ce5 q_ce6 q_ce7 q_ce8 q_ce9 q_ce10 q_ce11 q_on2 q_on3 q_on4 q_on5 q_on6 q_on7 q_on8 q_on9 q_on10 q_on11 q_enr1 q_gEt q_zr0 q_zr1 q_zgs q_zgg q_zk1 q_zk2 q_zd q_zv1 q_zv2 q_zv3 q_zp1 q_zp2 q_zf q_zs1 q_zs2 q_za q_za1 q_fi0 q_fi1 q_ln0 q_ln1 q_h01 q_h02 q_h03 q_h04 q_h05 q_h06 q_h07 q_h08 q_h09 q_h10 q_h11 q_h12 q_h13 q_h14 q_h15 q_h16 q_h17 q_h18 q_h19 q_h20 q_h21 q_h22 q_h23 q_h24 q_al q_b0 q_rs1 q_rs2 q_rs3 q_rs4 q_rs5 q_rs6 q_rs7 q_rs8 q_ro1 q_ro2 q_ro3 q_ro4 q_ro5 q_ro6 q_ro7 q_ro8 q_ixS q_cvS1 q_cvN q_u8s0 q_u8s1 q_u8s2 q_strS q_h25 q_shr q_i12 q_i13 q_bn q_bn0 q_bn1 q_zbn q_zn cond_true cond_false decide_true decide_false List.length_cons List.length_nil List.nil_append List.cons_append true_and and_true List.toList_toArray Option.map_some Nat.zero_add Nat.add_zero Bool.and_self Bool.and_true Bool.true_and Bool.and_false Bool.false_and Bool.not_true Bool.not_false FitF FitL LendL wb keys nodupB firstOk tupA op_move op_assign op_pick op_un op_box op_nc op_mf op_ex op_min op_max get put del nth evs evp sets setN ones popTo args0 AV.ren AV.renL rho List.take_succ_cons List.take_zero List.drop_succ_cons List.drop_zero Option.isNone_none Option.isNone_some o_al31 o_bi24 o_bi28 o_bi3 o_bi42 o_bi5 o_bi9 o_cn24 o_cn3 o_cn39 o_cn42 o_cn5 o_cv24_3 o_cv24_39 o_cv39_24 o_cv39_42 o_cv3_24 o_cv42_39 o_fa31_0 o_fa31_1 o_ip28 o_ip45 o_ix9 o_ld28 o_ld29 o_ln29 o_ln9 o_sl29 o_sl9 o_st28 o_st29 o_zb29 I tsI slI renL_ints blk_ren en_live en_dead List.set_cons_zero List.set_cons_succ List.map_cons List.map_nil List.append_nil frzF frzS AV.frz AV.frzL frzL_ints ints_all ints_all' ints_take1 ints_mk ints_mk1 mk_length res_ints resOk_ints plain_ints plainA plainL plainE plainS List.all_cons List.all_nil strT slS renL_strs frzL_strs res_strs resOk_strs plain_strs strs_all strs_all' strs_length
/-! ### The law -/
theorem beq_bytes' (s : ByteArray) : (s.toList == s.toList) = true := beq_self_eq_true _
theorem walk_FnExactPadZeros (s : ByteArray) (n : Int) (h1 : -9223372036854775808 ≤ n) : AC Try.prog 3 [.v (.string s), I n] [] (.v (.bool true)) [] := by
  refine AC.intro (fn := Try.f3) (c := ?_) 19 Try.func3 (by rfl) (by kernel_rfl) (by kernel_rfl) (Nat.le_of_ble_eq_true rfl) fun e hP hf hn h0 hE => ?_
  have hte : TEok e.P te := hP ▸ teOk
  have hmx : e.P.follows .mixedOrders = true := hP ▸ mixedOk
  refine Go.run hte hn 100 ?_; simp only [go_sem, Nat.reduceBEq, Nat.reduceLT, Nat.reduceAdd, Nat.reduceMul, Nat.reduceLeDiff]
  refine Br.mk (fun hz => ?_) (fun hz => ?_)
  · refine Go.retG hte hE hf [] rfl (by simp [go_sem, tsI, slI, I, renL_ints, blk_ren, en_live, en_dead, ints_length, ints_nil, ints_one]) rfl (by rw [h0]; rfl) trivial
  have hs : s.size ≤ 1048576 := by have := of_decide_eq_false hz; omega
  clear hz
  refine Go.call0 hP (spec_PadZeros_c s n hs h1) rfl rfl rfl (by omega) (by simp [go_sem, tsI, slI, I, renL_ints, blk_ren, en_live, en_dead, ints_length, ints_nil, ints_one]) ?_
  refine Go.run hte hn 100 ?_; simp only [go_sem, Nat.reduceBEq, Nat.reduceLT, Nat.reduceAdd, Nat.reduceMul, Nat.reduceLeDiff]
  refine Go.call0 hP (impl_PadZeros_c s n hs h1) rfl rfl rfl (by omega) (by simp [go_sem, tsI, slI, I, renL_ints, blk_ren, en_live, en_dead, ints_length, ints_nil, ints_one]) ?_
  refine Go.run hte hn 100 ?_; simp only [go_sem, Nat.reduceBEq, Nat.reduceLT, Nat.reduceAdd, Nat.reduceMul, Nat.reduceLeDiff, beq_bytes']
  refine Go.retG hte hE hf [] rfl (by simp [go_sem, tsI, slI, I, renL_ints, blk_ren, en_live, en_dead, ints_length, ints_nil, ints_one]) rfl (by rw [h0]; rfl) trivial
theorem law_FnExactPadZeros (x0 : ByteArray) (x1 : Int) (h0 : (fun s : ByteArray => s.size ≤ maxLen) x0) (h1 : (fun n : Int => (Lit.int .i64 n).wf = true) x1) : AC Try.prog 3 [AV.v (.string x0), AV.v (.int .i64 x1)] [] (.v (.bool true)) [] := by
  exact walk_FnExactPadZeros x0 x1 (wf64 h1).1

end Go.Proofs.Ytjnlpomfjlpikaa.Ab
