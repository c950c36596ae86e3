/- Contracts of the given program's functions and of the reference's (walks). -/
import Derived.Test.YtbblhgldfcodfaaAbT
import Derived.Test.YtbblhgldfcodfaaAbP
import Derived.Test.YtbblhgldfcodfaaRunW1
set_option linter.unusedVariables false
set_option linter.unusedSimpArgs false
set_option maxRecDepth 10000
namespace Go.Proofs.Ytbblhgldfcodfaa.Ab
open Go Go.RowKit
attribute [local go_sem] q_run q_seq q_skip q_block q_exit q_cond q_region q_nil q_op q_blk q_loop q_ret q_open q_inv q_fin q_go q_h0 q_h1 q_gskip q_stepC q_brt q_brf q_stepX q_sskip q_sskip0 q_val q_need q_new q_newc q_sv q_sto q_c1 q_c2 q_c3 q_c4 q_c5 q_c6 q_c7 q_c8 q_c9 q_c10 q_c11 q_c12 q_c13 q_c14 q_c15 q_c16 q_c17 q_c18 q_c19 q_c20 q_c21 q_c22 q_g0 q_g1 q_gC q_gD q_gE q_gB1 q_gB2 q_gB3 q_gB4 q_ev1 q_ev2 q_ev3 q_evo0 q_evo1 q_rv q_rva q_o1 q_o2 q_pk1 q_pk2 q_ld1p q_ld1e q_ld1t q_ldnp q_ldne q_ldnt q_sub0 q_sub1 q_subc q_stS q_stT q_box q_bldr q_bld q_fill0 q_fill1 q_fillB q_bsr q_bsl q_fap q_fat q_iasl q_iats q_lnsl q_lnts q_lnv q_lnS q_exA q_mkB q_lo0 q_lo1 q_hi0 q_hi1 q_slcA q_slcU1 q_slcU2 q_slcT1 q_slcT2 q_slsA q_slsU q_slsT q_apA q_apC q_srcE1 q_srcE2 q_srcE3 q_srcA1 q_srcB q_srcA2 q_srcA3 q_fnA q_nc1 q_nc2 q_bin q_bin2 q_bin3 q_bin4 q_bin5 q_bin6 q_bin7 q_bin8 q_bin9 q_bin10 q_i1 q_i2 q_i3 q_i4 q_i5 q_i6 q_i7 q_i8 q_i9 q_i10 q_i11 q_s1 q_s2 q_s3 q_u1 q_u2 q_min q_max q_ce1 q_ce2 q_ce3 q_ce4 q_ce5 q_ce6 q_ce7 q_ce8 q_ce9 q_ce10 q_ce11 q_on2 q_on3 q_on4 q_on5 q_on6 q_on7 q_on8 q_on9 q_on10 q_on11 q_enr1 q_gEt q_zr0 q_zr1 q_zgs q_zgg q_zk1 q_zk2 q_zd q_zv1 q_zv2 q_zv3 q_zp1 q_zp2 q_zf q_zs1 q_zs2 q_za q_za1 q_fi0 q_fi1 q_ln0 q_ln1 q_h01 q_h02 q_h03 q_h04 q_h05 q_h06 q_h07 q_h08 q_h09 q_h10 q_h11 q_h12 q_h13 q_h14 q_h15 q_h16 q_h17 q_h18 q_h19 q_h20 q_h21 q_h22 q_h23 q_h24 q_al q_b0 q_rs1 q_rs2 q_rs3 q_rs4 q_rs5 q_rs6 q_rs7 q_rs8 q_ro1 q_ro2 q_ro3 q_ro4 q_ro5 q_ro6 q_ro7 q_ro8 cond_true cond_false decide_true decide_false List.length_cons List.length_nil List.nil_append List.cons_append true_and and_true List.toList_toArray Option.map_some Nat.zero_add Nat.add_zero Bool.and_self Bool.and_true Bool.true_and Bool.and_false Bool.false_and Bool.not_true Bool.not_false FitF FitL LendL wb keys nodupB firstOk tupA op_move op_assign op_pick op_un op_box op_nc op_mf op_ex op_min op_max get put del nth evs evp sets setN ones popTo args0 AV.ren AV.renL rho List.take_succ_cons List.take_zero List.drop_succ_cons List.drop_zero Option.isNone_none Option.isNone_some o_al28 o_al30 o_al43 o_al80 o_al84 o_ap22 o_ap41 o_bi120 o_bi22 o_bi3 o_bi4 o_bi68 o_bs22_0 o_bs22_1 o_bs22_3 o_bs41_0 o_bs41_1 o_bu28 o_bu30 o_bu43 o_bu80 o_bu98 o_cn120 o_cn3 o_cv120_3 o_cv3_120 o_fa24_0 o_fa24_1 o_fa26_0 o_fa26_1 o_fa28_0 o_fa28_1 o_fa30_0 o_fa30_1 o_fa38_0 o_fa38_1 o_fa38_2 o_fa43_0 o_fa43_1 o_fa43_2 o_fa80_0 o_fa80_1 o_fa80_2 o_fa98_0 o_fa98_1 o_ia22 o_ia36 o_ia41 o_ia78 o_ia84 o_ib4 o_ip68 o_ld22 o_ld24 o_ld26 o_ld28 o_ld3 o_ld30 o_ld36 o_ld38 o_ld4 o_ld41 o_ld43 o_ld68 o_ld78 o_ld80 o_ld84 o_ln22 o_ln36 o_ln41 o_ln78 o_ln84 o_mk22 o_mk41 o_mk78 o_mk84 o_sl22 o_sl41 o_st22 o_st28 o_st3 o_st30 o_st4 o_st41 o_st43 o_st68 o_st80 o_st84 o_zb22 o_zb36 o_zb41 o_zb78 o_zb84 I tsI slI renL_ints blk_ren en_live en_dead List.set_cons_zero List.set_cons_succ List.map_cons List.map_nil List.append_nil frzF frzS AV.frz AV.frzL frzL_ints ints_all ints_all' ints_take1 ints_mk ints_mk1 mk_length res_ints resOk_ints plain_ints plainA plainL plainE plainS List.all_cons List.all_nil bigO bigT ratO ratT
/-! ### The reference: a number with a sign out of int; a whole fraction -/
def bofB (n : Int) : Bool := decide (n < 0)
def bofL (n : Int) : List Int := dg n.natAbs
theorem capped_dg {m : Nat} (hm : m ≤ 18446744073709551615) : capped (dg m) = dg m := by
  have := dg_short (n := m) (by omega)
  unfold capped
  rw [trim_dg, if_neg (by omega)]
theorem dg_min : dg 9223372036854775808 = [854775808, 223372036, 9] := by
  rw [dg_pos (by decide), dg_pos (by decide), dg_pos (by decide), show 9223372036854775808 / 1000000000 / 1000000000 / 1000000000 = 0 by decide, dg_zero]
  rfl
theorem dg_ne {m : Nat} (h : m ≠ 0) : 0 < (dg m).length := by rw [dg_pos h]; simp
theorem spec_BigIntOf_c (n : Int) (h1 : -9223372036854775808 ≤ n) (h2 : n ≤ 9223372036854775807) : AC Try.prog 96 [I n] [] (bigO (bofB n) 0 (bofL n)) [.live ⟨3, ints (bofL n)⟩] := by
  refine AC.intro (fn := Try.f96) (c := ?_) 16 Try.func96 (by rfl) (by kernel_rfl) (by kernel_rfl) (Nat.le_of_ble_eq_true rfl) fun e hP hf hn h0 hE => ?_
  have hte : TEok e.P te := hP ▸ teOk
  have hmx : e.P.follows .mixedOrders = true := hP ▸ mixedOk
  have hl3 := dg_short (n := n.natAbs) (by omega)
  refine Go.run hte hn 100 ?_; simp only [go_sem, Nat.reduceBEq, Nat.reduceLT, Nat.reduceAdd, Nat.reduceMul, Nat.reduceLeDiff]
  refine Br.mk (fun hz => ?_) (fun hz => ?_)
  · have hz : n = -9223372036854775808 := by simpa using hz
    subst hz
    have e1 : bofB (-9223372036854775808) = true := by decide
    have e2 : bofL (-9223372036854775808) = [854775808, 223372036, 9] := dg_min
    have e3 : capped [854775808, 223372036, 9] = [854775808, 223372036, 9] := by rw [← dg_min, capped_dg (by omega)]
    have C := l03Make_c true [854775808, 223372036, 9] (by decide)
    rw [e3] at C
    rw [e1, e2] at hE
    refine Go.callB 2 hP C rfl rfl rfl (by omega) (by simp [go_sem, tsI, slI, I, renL_ints, blk_ren, en_live, en_dead, ints_length, ints_nil, ints_one]) (by simp [go_sem, tsI, slI, I, renL_ints, blk_ren, en_live, en_dead, ints_length, ints_nil, ints_one, ints]) (by simp [go_sem, tsI, slI, I, renL_ints, blk_ren, en_live, en_dead, ints_length, ints_nil, ints_one]) (by simp [go_sem, tsI, slI, I, renL_ints, blk_ren, en_live, en_dead, ints_length, ints_nil, ints_one]) ?_
    refine Go.run hte hn 100 ?_; simp only [go_sem, Nat.reduceBEq, Nat.reduceLT, Nat.reduceAdd, Nat.reduceMul, Nat.reduceLeDiff]
    refine Go.retG hte hE hf [2] rfl (by simp [go_sem, tsI, slI, I, renL_ints, blk_ren, en_live, en_dead, ints_length, ints_nil, ints_one]) rfl (by rw [h0]; rfl) (by simp [go_sem, tsI, slI, I, renL_ints, blk_ren, en_live, en_dead, ints_length, ints_nil, ints_one])
  · have hz : n ≠ -9223372036854775808 := by simpa using hz
    refine Br.mk (fun hy => ?_) (fun hy => ?_)
    · have hy : n < 0 := of_decide_eq_true hy
      have e1 : IntKind.i64.wrap (0 - n) = ((n.natAbs : Nat) : Int) := by rw [W64] <;> omega
      have e2 : bofB n = true := decide_eq_true hy
      have C := l03Make_c true (dg n.natAbs) (by omega)
      rw [capped_dg (by omega), decide_eq_true (dg_ne (show n.natAbs ≠ 0 by omega))] at C
      rw [e2] at hE
      unfold bofL at hE
      simp only [e1]
      refine Go.call0 hP (spec_NatOf_c n.natAbs (by omega)) rfl rfl rfl (by omega) (by simp [go_sem, tsI, slI, I, renL_ints, blk_ren, en_live, en_dead, ints_length, ints_nil, ints_one]) ?_
      refine Go.run hte hn 100 ?_; simp only [go_sem, Nat.reduceBEq, Nat.reduceLT, Nat.reduceAdd, Nat.reduceMul, Nat.reduceLeDiff]
      refine Go.callB 2 hP (C) rfl rfl rfl (by omega) (by first | (simp only [go_sem, Nat.reduceBEq, Nat.reduceLT, Nat.reduceAdd, Nat.reduceMul, Nat.reduceLeDiff]; done) | simp [go_sem, tsI, slI, I, renL_ints, blk_ren, en_live, en_dead, ints_length, ints_nil, ints_one]) (by first | (simp only [go_sem, Nat.reduceBEq, Nat.reduceLT, Nat.reduceAdd, Nat.reduceMul, Nat.reduceLeDiff]; done) | simp [go_sem, tsI, slI, I, renL_ints, blk_ren, en_live, en_dead, ints_length, ints_nil, ints_one]) (by first | (simp only [go_sem, Nat.reduceBEq, Nat.reduceLT, Nat.reduceAdd, Nat.reduceMul, Nat.reduceLeDiff]; done) | simp [go_sem, tsI, slI, I, renL_ints, blk_ren, en_live, en_dead, ints_length, ints_nil, ints_one]) (by first | (simp only [go_sem, Nat.reduceBEq, Nat.reduceLT, Nat.reduceAdd, Nat.reduceMul, Nat.reduceLeDiff]; done) | simp [go_sem, tsI, slI, I, renL_ints, blk_ren, en_live, en_dead, ints_length, ints_nil, ints_one]) ?_
      refine Go.run hte hn 100 ?_; simp only [go_sem, Nat.reduceBEq, Nat.reduceLT, Nat.reduceAdd, Nat.reduceMul, Nat.reduceLeDiff]
      refine Go.retG hte hE hf [2] rfl (by simp [go_sem, tsI, slI, I, renL_ints, blk_ren, en_live, en_dead, ints_length, ints_nil, ints_one]) rfl (by rw [h0]; rfl) (by simp [go_sem, tsI, slI, I, renL_ints, blk_ren, en_live, en_dead, ints_length, ints_nil, ints_one])
    · have hy : ¬ n < 0 := of_decide_eq_false hy
      have e1 : n = ((n.natAbs : Nat) : Int) := by omega
      have e2 : bofB n = false := decide_eq_false hy
      have C := l03Make_c false (dg n.natAbs) (by omega)
      rw [capped_dg (by omega)] at C
      rw [e2] at hE
      unfold bofL at hE
      have CN := spec_NatOf_c n.natAbs (by omega)
      rw [← e1] at CN
      refine Go.call0 hP (CN) rfl rfl rfl (by omega) (by simp [go_sem, tsI, slI, I, renL_ints, blk_ren, en_live, en_dead, ints_length, ints_nil, ints_one]) ?_
      refine Go.run hte hn 100 ?_; simp only [go_sem, Nat.reduceBEq, Nat.reduceLT, Nat.reduceAdd, Nat.reduceMul, Nat.reduceLeDiff]
      refine Go.callB 2 hP (C) rfl rfl rfl (by omega) (by first | (simp only [go_sem, Nat.reduceBEq, Nat.reduceLT, Nat.reduceAdd, Nat.reduceMul, Nat.reduceLeDiff]; done) | simp [go_sem, tsI, slI, I, renL_ints, blk_ren, en_live, en_dead, ints_length, ints_nil, ints_one]) (by first | (simp only [go_sem, Nat.reduceBEq, Nat.reduceLT, Nat.reduceAdd, Nat.reduceMul, Nat.reduceLeDiff]; done) | simp [go_sem, tsI, slI, I, renL_ints, blk_ren, en_live, en_dead, ints_length, ints_nil, ints_one]) (by first | (simp only [go_sem, Nat.reduceBEq, Nat.reduceLT, Nat.reduceAdd, Nat.reduceMul, Nat.reduceLeDiff]; done) | simp [go_sem, tsI, slI, I, renL_ints, blk_ren, en_live, en_dead, ints_length, ints_nil, ints_one]) (by first | (simp only [go_sem, Nat.reduceBEq, Nat.reduceLT, Nat.reduceAdd, Nat.reduceMul, Nat.reduceLeDiff]; done) | simp [go_sem, tsI, slI, I, renL_ints, blk_ren, en_live, en_dead, ints_length, ints_nil, ints_one]) ?_
      refine Go.run hte hn 100 ?_; simp only [go_sem, Nat.reduceBEq, Nat.reduceLT, Nat.reduceAdd, Nat.reduceMul, Nat.reduceLeDiff]
      refine Go.retG hte hE hf [2] rfl (by simp [go_sem, tsI, slI, I, renL_ints, blk_ren, en_live, en_dead, ints_length, ints_nil, ints_one]) rfl (by rw [h0]; rfl) (by simp [go_sem, tsI, slI, I, renL_ints, blk_ren, en_live, en_dead, ints_length, ints_nil, ints_one])
theorem spec_RatFromInt_c (n : Int) (h1 : -9223372036854775808 ≤ n) (h2 : n ≤ 9223372036854775807) : AC Try.prog 70 [I n] [] (ratO (bofB n) 0 1 (bofL n) [1]) [.live ⟨3, ints (bofL n)⟩, .live ⟨3, ints [1]⟩] := by
  refine AC.intro (fn := Try.f70) (c := ?_) 7 Try.func70 (by rfl) (by kernel_rfl) (by kernel_rfl) (Nat.le_of_ble_eq_true rfl) fun e hP hf hn h0 hE => ?_
  have hte : TEok e.P te := hP ▸ teOk
  have hmx : e.P.follows .mixedOrders = true := hP ▸ mixedOk
  refine Go.run hte hn 100 ?_; simp only [go_sem, Nat.reduceBEq, Nat.reduceLT, Nat.reduceAdd, Nat.reduceMul, Nat.reduceLeDiff]
  refine Go.call0 hP (spec_BigIntOf_c n h1 h2) rfl rfl rfl (by omega) (by simp [go_sem, tsI, slI, I, renL_ints, blk_ren, en_live, en_dead, ints_length, ints_nil, ints_one]) ?_
  refine Go.run hte hn 100 ?_; simp only [go_sem, Nat.reduceBEq, Nat.reduceLT, Nat.reduceAdd, Nat.reduceMul, Nat.reduceLeDiff]
  refine Go.retG hte hE hf [1, 2] rfl (by simp [go_sem, tsI, slI, I, renL_ints, blk_ren, en_live, en_dead, ints_length, ints_nil, ints_one]) rfl (by rw [h0]; rfl) (by simp [go_sem, tsI, slI, I, renL_ints, blk_ren, en_live, en_dead, ints_length, ints_nil, ints_one, show ints [1] = [.v (.int .i64 1)] from rfl])

end Go.Proofs.Ytbblhgldfcodfaa.Ab
set_option linter.unusedVariables false
set_option linter.unusedSimpArgs false
set_option maxRecDepth 10000
namespace Go.Proofs.Ytbblhgldfcodfaa.Ab
open Go Go.RowKit
attribute [local go_sem] q_run q_seq q_skip q_block q_exit q_cond q_region q_nil q_op q_blk q_loop q_ret q_open q_inv q_fin q_go q_h0 q_h1 q_gskip q_stepC q_brt q_brf q_stepX q_sskip q_sskip0 q_val q_need q_new q_newc q_sv q_sto q_c1 q_c2 q_c3 q_c4 q_c5 q_c6 q_c7 q_c8 q_c9 q_c10 q_c11 q_c12 q_c13 q_c14 q_c15 q_c16 q_c17 q_c18 q_c19 q_c20 q_c21 q_c22 q_g0 q_g1 q_gC q_gD q_gE q_gB1 q_gB2 q_gB3 q_gB4 q_ev1 q_ev2 q_ev3 q_evo0 q_evo1 q_rv q_rva q_o1 q_o2 q_pk1 q_pk2 q_ld1p q_ld1e q_ld1t q_ldnp q_ldne q_ldnt q_sub0 q_sub1 q_subc q_stS q_stT q_box q_bldr q_bld q_fill0 q_fill1 q_fillB q_bsr q_bsl q_fap q_fat q_iasl q_iats q_lnsl q_lnts q_lnv q_lnS q_exA q_mkB q_lo0 q_lo1 q_hi0 q_hi1 q_slcA q_slcU1 q_slcU2 q_slcT1 q_slcT2 q_slsA q_slsU q_slsT q_apA q_apC q_srcE1 q_srcE2 q_srcE3 q_srcA1 q_srcB q_srcA2 q_srcA3 q_fnA q_nc1 q_nc2 q_bin q_bin2 q_bin3 q_bin4 q_bin5 q_bin6 q_bin7 q_bin8 q_bin9 q_bin10 q_i1 q_i2 q_i3 q_i4 q_i5 q_i6 q_i7 q_i8 q_i9 q_i10 q_i11 q_s1 q_s2 q_s3 q_u1 q_u2 q_min q_max q_ce1 q_ce2 q_ce3 q_ce4 q_ce5 q_ce6 q_ce7 q_ce8 q_ce9 q_ce10 q_ce11 q_on2 q_on3 q_on4 q_on5 q_on6 q_on7 q_on8 q_on9 q_on10 q_on11 q_enr1 q_gEt q_zr0 q_zr1 q_zgs q_zgg q_zk1 q_zk2 q_zd q_zv1 q_zv2 q_zv3 q_zp1 q_zp2 q_zf q_zs1 q_zs2 q_za q_za1 q_fi0 q_fi1 q_ln0 q_ln1 q_h01 q_h02 q_h03 q_h04 q_h05 q_h06 q_h07 q_h08 q_h09 q_h10 q_h11 q_h12 q_h13 q_h14 q_h15 q_h16 q_h17 q_h18 q_h19 q_h20 q_h21 q_h22 q_h23 q_h24 q_al q_b0 q_rs1 q_rs2 q_rs3 q_rs4 q_rs5 q_rs6 q_rs7 q_rs8 q_ro1 q_ro2 q_ro3 q_ro4 q_ro5 q_ro6 q_ro7 q_ro8 cond_true cond_false decide_true decide_false List.length_cons List.length_nil List.nil_append List.cons_append true_and and_true List.toList_toArray Option.map_some Nat.zero_add Nat.add_zero Bool.and_self Bool.and_true Bool.true_and Bool.and_false Bool.false_and Bool.not_true Bool.not_false FitF FitL LendL wb keys nodupB firstOk tupA op_move op_assign op_pick op_un op_box op_nc op_mf op_ex op_min op_max get put del nth evs evp sets setN ones popTo args0 AV.ren AV.renL rho List.take_succ_cons List.take_zero List.drop_succ_cons List.drop_zero Option.isNone_none Option.isNone_some o_al28 o_al30 o_al43 o_al80 o_al84 o_ap22 o_ap41 o_bi120 o_bi22 o_bi3 o_bi4 o_bi68 o_bs22_0 o_bs22_1 o_bs22_3 o_bs41_0 o_bs41_1 o_bu28 o_bu30 o_bu43 o_bu80 o_bu98 o_cn120 o_cn3 o_cv120_3 o_cv3_120 o_fa24_0 o_fa24_1 o_fa26_0 o_fa26_1 o_fa28_0 o_fa28_1 o_fa30_0 o_fa30_1 o_fa38_0 o_fa38_1 o_fa38_2 o_fa43_0 o_fa43_1 o_fa43_2 o_fa80_0 o_fa80_1 o_fa80_2 o_fa98_0 o_fa98_1 o_ia22 o_ia36 o_ia41 o_ia78 o_ia84 o_ib4 o_ip68 o_ld22 o_ld24 o_ld26 o_ld28 o_ld3 o_ld30 o_ld36 o_ld38 o_ld4 o_ld41 o_ld43 o_ld68 o_ld78 o_ld80 o_ld84 o_ln22 o_ln36 o_ln41 o_ln78 o_ln84 o_mk22 o_mk41 o_mk78 o_mk84 o_sl22 o_sl41 o_st22 o_st28 o_st3 o_st30 o_st4 o_st41 o_st43 o_st68 o_st80 o_st84 o_zb22 o_zb36 o_zb41 o_zb78 o_zb84 I tsI slI renL_ints blk_ren en_live en_dead List.set_cons_zero List.set_cons_succ List.map_cons List.map_nil List.append_nil frzF frzS AV.frz AV.frzL frzL_ints ints_all ints_all' ints_take1 ints_mk ints_mk1 mk_length res_ints resOk_ints plain_ints plainA plainL plainE plainS List.all_cons List.all_nil bigO bigT ratO ratT
/-! ### The program's side: copies -/
theorem Clone_c (a : List Int) (ha : a.length ≤ 1048576) : AC Try.prog 85 [tsI a] [] (slI 0 a) [.live ⟨3, ints a⟩] := by
  refine AC.intro (fn := Try.f85) (c := ?_) 8 Try.func85 (by rfl) (by kernel_rfl) (by kernel_rfl) (Nat.le_of_ble_eq_true rfl) fun e hP hf hn h0 hE => ?_
  have hte : TEok e.P te := hP ▸ teOk
  have hmx : e.P.follows .mixedOrders = true := hP ▸ mixedOk
  refine Go.run hte hn 8 ?_
  simp only [go_sem, Nat.reduceBEq, Nat.reduceLT, Nat.reduceAdd, Nat.reduceMul, Nat.reduceLeDiff]
  refine Go.isnil hte (i := t22) rfl rfl rfl rfl rfl rfl rfl (by omega) (fun hz => ?_) ?_
  · have h : a = [] := by
      cases a with
      | nil => rfl
      | cons x r => cases hz
    subst h
    refine Go.run hte hn 100 ?_; simp only [go_sem, Nat.reduceBEq, Nat.reduceLT, Nat.reduceAdd, Nat.reduceMul, Nat.reduceLeDiff]
    refine Go.virt 3 ?_
    refine Go.nilsl 2 0 1 rfl ?_
    refine Go.retG hte hE hf [0] rfl (by simp [go_sem, tsI, slI, I, renL_ints, blk_ren, en_live, en_dead, ints_length, ints_nil, ints_one]) rfl (by rw [h0]; rfl) (by simp [go_sem, tsI, slI, I, renL_ints, blk_ren, en_live, en_dead, ints_length, ints_nil, ints_one])
  · refine Go.run hte hn 100 ?_; simp only [go_sem, Nat.reduceBEq, Nat.reduceLT, Nat.reduceAdd, Nat.reduceMul, Nat.reduceLeDiff]
    refine ⟨copy_ok (by omega), ?_⟩
    refine Go.retG hte hE hf [1] rfl (by simp [go_sem, tsI, slI, I, renL_ints, blk_ren, en_live, en_dead, ints_length, ints_nil, ints_one]) rfl (by rw [h0]; rfl) (by simp [go_sem, tsI, slI, I, renL_ints, blk_ren, en_live, en_dead, ints_length, ints_nil, ints_one])
def fewB (s : Bool) (a : List Int) : Bool := if a.length ≤ 60 then s else false
def fewL (a : List Int) : List Int := if a.length ≤ 60 then a else []
theorem fewL_le (a : List Int) : (fewL a).length ≤ 60 := by
  unfold fewL
  split
  · assumption
  · simp
theorem fewer_c (s : Bool) (a : List Int) (ha : a.length ≤ 1048576) : AC Try.prog 84 [bigT s a] [] (bigO (fewB s a) 0 (fewL a)) [.live ⟨3, ints (fewL a)⟩] := by
  refine AC.intro (fn := Try.f84) (c := ?_) 14 Try.func84 (by rfl) (by kernel_rfl) (by kernel_rfl) (Nat.le_of_ble_eq_true rfl) fun e hP hf hn h0 hE => ?_
  have hte : TEok e.P te := hP ▸ teOk
  have hmx : e.P.follows .mixedOrders = true := hP ▸ mixedOk
  unfold fewB fewL at hE
  by_cases hle : a.length ≤ 60
  · have c : decide ((60 : Int) < (a.length : Int)) = false := decide_eq_false (by omega)
    rw [if_pos hle, if_pos hle] at hE
    refine Go.run hte hn 100 ?_; simp only [go_sem, Nat.reduceBEq, Nat.reduceLT, Nat.reduceAdd, Nat.reduceMul, Nat.reduceLeDiff, c]
    refine Go.freeze (nm := 0) rfl ?_; simp only [go_sem, Nat.reduceBEq, Nat.reduceLT, Nat.reduceAdd, Nat.reduceMul, Nat.reduceLeDiff]
    refine Go.openK 5 [] hte hn hmx (by kernel_rfl) ?_
    simp only [go_sem, Nat.reduceBEq, Nat.reduceLT, Nat.reduceAdd, Nat.reduceMul, Nat.reduceLeDiff]
    refine ZC.call0 hP (Clone_c a (by omega)) rfl rfl rfl (by omega) (by simp [go_sem, tsI, slI, I, renL_ints, blk_ren, en_live, en_dead, ints_length, ints_nil, ints_one]) rfl (by first | trivial | (show _ < _; simp)) ?_
    refine Go.run hte hn 100 ?_; simp only [go_sem, Nat.reduceBEq, Nat.reduceLT, Nat.reduceAdd, Nat.reduceMul, Nat.reduceLeDiff]
    refine Go.retG hte hE hf [2] rfl (by simp [go_sem, tsI, slI, I, renL_ints, blk_ren, en_live, en_dead, ints_length, ints_nil, ints_one]) rfl (by rw [h0]; rfl) (by simp [go_sem, tsI, slI, I, renL_ints, blk_ren, en_live, en_dead, ints_length, ints_nil, ints_one])
  · have c : decide ((60 : Int) < (a.length : Int)) = true := decide_eq_true (by omega)
    rw [if_neg hle, if_neg hle] at hE
    refine Go.run hte hn 100 ?_; simp only [go_sem, Nat.reduceBEq, Nat.reduceLT, Nat.reduceAdd, Nat.reduceMul, Nat.reduceLeDiff, c]
    refine Go.virt 3 ?_
    refine Go.nilcell 1 1 2 1 rfl rfl ?_
    simp only [go_sem, Nat.reduceBEq, Nat.reduceLT, Nat.reduceAdd, Nat.reduceMul, Nat.reduceLeDiff]
    refine Go.retG hte hE hf [2] rfl (by simp [go_sem, tsI, slI, I, renL_ints, blk_ren, en_live, en_dead, ints_length, ints_nil, ints_one]) rfl (by rw [h0]; rfl) (by simp [go_sem, tsI, slI, I, renL_ints, blk_ren, en_live, en_dead, ints_length, ints_nil, ints_one])
theorem signed_c (s : Bool) (l : List Int) : AC Try.prog 117 [.v (.bool s), tsI l] [] (bigT (s && decide (0 < l.length)) l) [] := by
  refine AC.intro (fn := Try.f117) (c := ?_) 13 Try.func117 (by rfl) (by kernel_rfl) (by kernel_rfl) (Nat.le_of_ble_eq_true rfl) fun e hP hf hn h0 hE => ?_
  have hte : TEok e.P te := hP ▸ teOk
  have hmx : e.P.follows .mixedOrders = true := hP ▸ mixedOk
  cases s
  all_goals
    refine Go.run hte hn 100 ?_; simp only [go_sem, Nat.reduceBEq, Nat.reduceLT, Nat.reduceAdd, Nat.reduceMul, Nat.reduceLeDiff, dec_pos]
    refine Go.retG hte hE hf [] rfl (by simp [go_sem, tsI, slI, I, renL_ints, blk_ren, en_live, en_dead, ints_length, ints_nil, ints_one]) rfl (by rw [h0]; rfl) trivial
theorem store_c (s : Bool) (l d : List Int) (hl : l.length ≤ 1048576) (hd : d.length ≤ 1048576) : AC Try.prog 51 [.tp [.v (.bool s), tsI l, tsI d] 0] [] (ratO (fewB s l) 0 1 (fewL l) d) [.live ⟨3, ints (fewL l)⟩, .live ⟨3, ints d⟩] := by
  refine AC.intro (fn := Try.f51) (c := ?_) 17 Try.func51 (by rfl) (by kernel_rfl) (by kernel_rfl) (Nat.le_of_ble_eq_true rfl) fun e hP hf hn h0 hE => ?_
  have hte : TEok e.P te := hP ▸ teOk
  have hmx : e.P.follows .mixedOrders = true := hP ▸ mixedOk
  refine Go.run hte hn 100 ?_; simp only [go_sem, Nat.reduceBEq, Nat.reduceLT, Nat.reduceAdd, Nat.reduceMul, Nat.reduceLeDiff]
  refine Go.openK 9 [] hte hn hmx (by kernel_rfl) ?_
  simp only [go_sem, Nat.reduceBEq, Nat.reduceLT, Nat.reduceAdd, Nat.reduceMul, Nat.reduceLeDiff]
  refine ZC.call0 hP (fewer_c s l hl) rfl rfl rfl (by omega) (by simp [go_sem, tsI, slI, I, renL_ints, blk_ren, en_live, en_dead, ints_length, ints_nil, ints_one]) rfl (by first | trivial | (show _ < _; simp)) ?_
  refine Go.run hte hn 100 ?_; simp only [go_sem, Nat.reduceBEq, Nat.reduceLT, Nat.reduceAdd, Nat.reduceMul, Nat.reduceLeDiff]
  refine Go.call0 hP (Clone_c d hd) rfl rfl rfl (by omega) (by simp [go_sem, tsI, slI, I, renL_ints, blk_ren, en_live, en_dead, ints_length, ints_nil, ints_one]) ?_
  refine Go.run hte hn 100 ?_; simp only [go_sem, Nat.reduceBEq, Nat.reduceLT, Nat.reduceAdd, Nat.reduceMul, Nat.reduceLeDiff]
  refine Go.retG hte hE hf [1, 2] rfl (by simp [go_sem, tsI, slI, I, renL_ints, blk_ren, en_live, en_dead, ints_length, ints_nil, ints_one]) rfl (by rw [h0]; rfl) (by simp [go_sem, tsI, slI, I, renL_ints, blk_ren, en_live, en_dead, ints_length, ints_nil, ints_one])

end Go.Proofs.Ytbblhgldfcodfaa.Ab
set_option linter.unusedVariables false
set_option linter.unusedSimpArgs false
set_option maxRecDepth 10000
namespace Go.Proofs.Ytbblhgldfcodfaa.Ab
open Go Go.RowKit
attribute [local go_sem] q_run q_seq q_skip q_block q_exit q_cond q_region q_nil q_op q_blk q_loop q_ret q_open q_inv q_fin q_go q_h0 q_h1 q_gskip q_stepC q_brt q_brf q_stepX q_sskip q_sskip0 q_val q_need q_new q_newc q_sv q_sto q_c1 q_c2 q_c3 q_c4 q_c5 q_c6 q_c7 q_c8 q_c9 q_c10 q_c11 q_c12 q_c13 q_c14 q_c15 q_c16 q_c17 q_c18 q_c19 q_c20 q_c21 q_c22 q_g0 q_g1 q_gC q_gD q_gE q_gB1 q_gB2 q_gB3 q_gB4 q_ev1 q_ev2 q_ev3 q_evo0 q_evo1 q_rv q_rva q_o1 q_o2 q_pk1 q_pk2 q_ld1p q_ld1e q_ld1t q_ldnp q_ldne q_ldnt q_sub0 q_sub1 q_subc q_stS q_stT q_box q_bldr q_bld q_fill0 q_fill1 q_fillB q_bsr q_bsl q_fap q_fat q_iasl q_iats q_lnsl q_lnts q_lnv q_lnS q_exA q_mkB q_lo0 q_lo1 q_hi0 q_hi1 q_slcA q_slcU1 q_slcU2 q_slcT1 q_slcT2 q_slsA q_slsU q_slsT q_apA q_apC q_srcE1 q_srcE2 q_srcE3 q_srcA1 q_srcB q_srcA2 q_srcA3 q_fnA q_nc1 q_nc2 q_bin q_bin2 q_bin3 q_bin4 q_bin5 q_bin6 q_bin7 q_bin8 q_bin9 q_bin10 q_i1 q_i2 q_i3 q_i4 q_i5 q_i6 q_i7 q_i8 q_i9 q_i10 q_i11 q_s1 q_s2 q_s3 q_u1 q_u2 q_min q_max q_ce1 q_ce2 q_ce3 q_ce4 q_ce5 q_ce6 q_ce7 q_ce8 q_ce9 q_ce10 q_ce11 q_on2 q_on3 q_on4 q_on5 q_on6 q_on7 q_on8 q_on9 q_on10 q_on11 q_enr1 q_gEt q_zr0 q_zr1 q_zgs q_zgg q_zk1 q_zk2 q_zd q_zv1 q_zv2 q_zv3 q_zp1 q_zp2 q_zf q_zs1 q_zs2 q_za q_za1 q_fi0 q_fi1 q_ln0 q_ln1 q_h01 q_h02 q_h03 q_h04 q_h05 q_h06 q_h07 q_h08 q_h09 q_h10 q_h11 q_h12 q_h13 q_h14 q_h15 q_h16 q_h17 q_h18 q_h19 q_h20 q_h21 q_h22 q_h23 q_h24 q_al q_b0 q_rs1 q_rs2 q_rs3 q_rs4 q_rs5 q_rs6 q_rs7 q_rs8 q_ro1 q_ro2 q_ro3 q_ro4 q_ro5 q_ro6 q_ro7 q_ro8 cond_true cond_false decide_true decide_false List.length_cons List.length_nil List.nil_append List.cons_append true_and and_true List.toList_toArray Option.map_some Nat.zero_add Nat.add_zero Bool.and_self Bool.and_true Bool.true_and Bool.and_false Bool.false_and Bool.not_true Bool.not_false FitF FitL LendL wb keys nodupB firstOk tupA op_move op_assign op_pick op_un op_box op_nc op_mf op_ex op_min op_max get put del nth evs evp sets setN ones popTo args0 AV.ren AV.renL rho List.take_succ_cons List.take_zero List.drop_succ_cons List.drop_zero Option.isNone_none Option.isNone_some o_al28 o_al30 o_al43 o_al80 o_al84 o_ap22 o_ap41 o_bi120 o_bi22 o_bi3 o_bi4 o_bi68 o_bs22_0 o_bs22_1 o_bs22_3 o_bs41_0 o_bs41_1 o_bu28 o_bu30 o_bu43 o_bu80 o_bu98 o_cn120 o_cn3 o_cv120_3 o_cv3_120 o_fa24_0 o_fa24_1 o_fa26_0 o_fa26_1 o_fa28_0 o_fa28_1 o_fa30_0 o_fa30_1 o_fa38_0 o_fa38_1 o_fa38_2 o_fa43_0 o_fa43_1 o_fa43_2 o_fa80_0 o_fa80_1 o_fa80_2 o_fa98_0 o_fa98_1 o_ia22 o_ia36 o_ia41 o_ia78 o_ia84 o_ib4 o_ip68 o_ld22 o_ld24 o_ld26 o_ld28 o_ld3 o_ld30 o_ld36 o_ld38 o_ld4 o_ld41 o_ld43 o_ld68 o_ld78 o_ld80 o_ld84 o_ln22 o_ln36 o_ln41 o_ln78 o_ln84 o_mk22 o_mk41 o_mk78 o_mk84 o_sl22 o_sl41 o_st22 o_st28 o_st3 o_st30 o_st4 o_st41 o_st43 o_st68 o_st80 o_st84 o_zb22 o_zb36 o_zb41 o_zb78 o_zb84 I tsI slI renL_ints blk_ren en_live en_dead List.set_cons_zero List.set_cons_succ List.map_cons List.map_nil List.append_nil frzF frzS AV.frz AV.frzL frzL_ints ints_all ints_all' ints_take1 ints_mk ints_mk1 mk_length res_ints resOk_ints plain_ints plainA plainL plainE plainS List.all_cons List.all_nil bigO bigT ratO ratT
/-! ### The program's side: limbs of a number, whole numbers -/
theorem u64_nat {n : Nat} (h : n ≤ 18446744073709551615) : IntKind.u64.wrap (n : Int) = (n : Int) := u64 (by omega) (by omega)
theorem limbsOf_c (n : Nat) (hn' : n ≤ 18446744073709551615) : AC Try.prog 118 [.v (.int .u64 n)] [] (slI 0 (dg n)) [.live ⟨3, ints (dg n)⟩] := by
  refine AC.intro (fn := Try.f118) (c := ?_) 15 Try.func118 (by rfl) (by kernel_rfl) (by kernel_rfl) (Nat.le_of_ble_eq_true rfl) fun e hP hf hn h0 hE => ?_
  have hte : TEok e.P te := hP ▸ teOk
  have hmx : e.P.follows .mixedOrders = true := hP ▸ mixedOk
  refine Go.run hte hn 100 ?_; simp only [go_sem, Nat.reduceBEq, Nat.reduceLT, Nat.reduceAdd, Nat.reduceMul, Nat.reduceLeDiff]
  refine Go.virt 3 ?_
  refine Go.nilsl 3 0 1 rfl ?_
  simp only [go_sem, Nat.reduceBEq, Nat.reduceLT, Nat.reduceAdd, Nat.reduceMul, Nat.reduceLeDiff]
  refine Go.enter (fun x : List Int × Nat => x.1 ++ dg x.2 = dg n ∧ x.2 ≤ n) (fun x => x.2) (fun x => [(0, .v (.int .u64 x.2)), (3, slI 0 x.1)]) (fun x => [.live ⟨3, ints x.1⟩]) ([], n) [0] ⟨rfl, Nat.le_refl _⟩ rfl rfl (by rw [h0]; rfl) ?_ ?_ ?_
  · simp [go_sem, tsI, slI, I, renL_ints, blk_ren, en_live, en_dead, ints_length, ints_nil, ints_one]
  · simp [go_sem, tsI, slI, I, renL_ints, blk_ren, en_live, en_dead, ints_length, ints_nil, ints_one]
  · rintro ⟨p, m⟩ ⟨hp, hm⟩
    simp only at hp hm
    have hlen : p.length ≤ 3 := by
      have h1 := dg_short (n := n) (by omega)
      rw [← hp, List.length_append] at h1
      omega
    refine Go.run hte hn 100 ?_; simp only [go_sem, Nat.reduceBEq, Nat.reduceLT, Nat.reduceAdd, Nat.reduceMul, Nat.reduceLeDiff]
    refine Br.mk (fun hz => ?_) (fun hz => ?_)
    · have hm0 : m ≠ 0 := by have : 0 < m := by simpa using hz
                             omega
      have e1 : IntKind.u64.wrap ((m / 1000000000 : Nat) : Int) = ((m / 1000000000 : Nat) : Int) := u64_nat (by omega)
      have e2 : IntKind.i64.wrap ((m % 1000000000 : Nat) : Int) = ((m % 1000000000 : Nat) : Int) := by rw [W64] <;> omega
      refine ⟨by omega, ⟨by rw [ints_length]; omega, by omega, by omega⟩, by omega, ?_⟩
      simp only [tmod_nat, tdiv_nat, e1, e2, ints_all, ints_snoc]
      refine Go.round (p ++ [((m % 1000000000 : Nat) : Int)], m / 1000000000) [2] ⟨?_, by simp only; omega⟩ (by simp only; omega) rfl rfl (by rw [h0]; rfl) (by simp [go_sem, tsI, slI, I, renL_ints, blk_ren, en_live, en_dead, ints_length, ints_nil, ints_one]) (by simp [go_sem, tsI, slI, I, renL_ints, blk_ren, en_live, en_dead, ints_length, ints_nil, ints_one])
      rw [← hp, dg_step p m hm0]
    · have hm0 : m = 0 := by have : ¬ 0 < m := by simpa using hz
                             omega
      subst hm0
      rw [dg_zero, List.append_nil] at hp
      subst hp
      refine Go.retG hte hE hf [0] rfl (by simp [go_sem, tsI, slI, I, renL_ints, blk_ren, en_live, en_dead, ints_length, ints_nil, ints_one]) rfl (by rw [h0]; rfl) (by simp [go_sem, tsI, slI, I, renL_ints, blk_ren, en_live, en_dead, ints_length, ints_nil, ints_one])
theorem integer_c (n : Int) (h1 : -9223372036854775808 ≤ n) (h2 : n ≤ 9223372036854775807) : AC Try.prog 97 [I n] [] (bigT (bofB n) (bofL n)) [] := by
  refine AC.intro (fn := Try.f97) (c := ?_) 16 Try.func97 (by rfl) (by kernel_rfl) (by kernel_rfl) (Nat.le_of_ble_eq_true rfl) fun e hP hf hn h0 hE => ?_
  have hte : TEok e.P te := hP ▸ teOk
  have hmx : e.P.follows .mixedOrders = true := hP ▸ mixedOk
  refine Go.run hte hn 100 ?_; simp only [go_sem, Nat.reduceBEq, Nat.reduceLT, Nat.reduceAdd, Nat.reduceMul, Nat.reduceLeDiff]
  unfold bofB bofL at hE
  refine Br.mk (fun hy => ?_) (fun hy => ?_)
  · have hy' : n < 0 := of_decide_eq_true hy
    have e1 : IntKind.i64.wrap (n + 1) = n + 1 := by rw [W64] <;> omega
    have e2 : IntKind.i64.wrap (0 - (n + 1)) = -(n + 1) := by rw [W64] <;> omega
    have e3 : IntKind.u64.wrap (-(n + 1)) = -(n + 1) := u64 (by omega) (by omega)
    have e4 : IntKind.u64.wrap (-(n + 1) + 1) = ((n.natAbs : Nat) : Int) := by rw [u64 (by omega) (by omega)]; omega
    simp only [e1, e2, e3, e4]
    refine Go.call0 hP (limbsOf_c n.natAbs (by omega)) rfl rfl rfl (by omega) (by simp [go_sem, tsI, slI, I, renL_ints, blk_ren, en_live, en_dead, ints_length, ints_nil, ints_one]) ?_
    refine Go.run hte hn 100 ?_; simp only [go_sem, Nat.reduceBEq, Nat.reduceLT, Nat.reduceAdd, Nat.reduceMul, Nat.reduceLeDiff]
    refine Go.freeze (nm := 1) rfl ?_; simp only [go_sem, Nat.reduceBEq, Nat.reduceLT, Nat.reduceAdd, Nat.reduceMul, Nat.reduceLeDiff]
    have C := signed_c true (dg n.natAbs)
    rw [decide_eq_true (dg_ne (show n.natAbs ≠ 0 by omega))] at C
    rw [hy] at hE
    refine Go.call0 hP (C) rfl rfl rfl (by omega) (by simp [go_sem, tsI, slI, I, renL_ints, blk_ren, en_live, en_dead, ints_length, ints_nil, ints_one]) ?_
    refine Go.run hte hn 100 ?_; simp only [go_sem, Nat.reduceBEq, Nat.reduceLT, Nat.reduceAdd, Nat.reduceMul, Nat.reduceLeDiff]
    refine Go.retG hte hE hf [] rfl (by simp [go_sem, tsI, slI, I, renL_ints, blk_ren, en_live, en_dead, ints_length, ints_nil, ints_one]) rfl (by rw [h0]; rfl) trivial
  · have hy' : ¬ n < 0 := of_decide_eq_false hy
    have e1 : IntKind.u64.wrap n = ((n.natAbs : Nat) : Int) := by rw [u64 (by omega) (by omega)]; omega
    simp only [e1]
    refine Go.call0 hP (limbsOf_c n.natAbs (by omega)) rfl rfl rfl (by omega) (by simp [go_sem, tsI, slI, I, renL_ints, blk_ren, en_live, en_dead, ints_length, ints_nil, ints_one]) ?_
    refine Go.run hte hn 100 ?_; simp only [go_sem, Nat.reduceBEq, Nat.reduceLT, Nat.reduceAdd, Nat.reduceMul, Nat.reduceLeDiff]
    refine Go.freeze (nm := 1) rfl ?_; simp only [go_sem, Nat.reduceBEq, Nat.reduceLT, Nat.reduceAdd, Nat.reduceMul, Nat.reduceLeDiff]
    rw [hy] at hE
    refine Go.call0 hP (signed_c false (dg n.natAbs)) rfl rfl rfl (by omega) (by simp [go_sem, tsI, slI, I, renL_ints, blk_ren, en_live, en_dead, ints_length, ints_nil, ints_one]) ?_
    refine Go.run hte hn 100 ?_; simp only [go_sem, Nat.reduceBEq, Nat.reduceLT, Nat.reduceAdd, Nat.reduceMul, Nat.reduceLeDiff]
    refine Go.retG hte hE hf [] rfl (by simp [go_sem, tsI, slI, I, renL_ints, blk_ren, en_live, en_dead, ints_length, ints_nil, ints_one]) rfl (by rw [h0]; rfl) trivial
/-- A fraction of the program's own, which nobody writes any more. -/
def ratP (s : Bool) (l d : List Int) : AV := .tp [.v (.bool s), tsI l, tsI d] 0
theorem whole_c (n : Int) (h1 : -9223372036854775808 ≤ n) (h2 : n ≤ 9223372036854775807) : AC Try.prog 74 [I n] [] (ratP (bofB n) (bofL n) [1]) [] := by
  refine AC.intro (fn := Try.f74) (c := ?_) 8 Try.func74 (by rfl) (by kernel_rfl) (by kernel_rfl) (Nat.le_of_ble_eq_true rfl) fun e hP hf hn h0 hE => ?_
  have hte : TEok e.P te := hP ▸ teOk
  have hmx : e.P.follows .mixedOrders = true := hP ▸ mixedOk
  refine Go.run hte hn 100 ?_; simp only [go_sem, Nat.reduceBEq, Nat.reduceLT, Nat.reduceAdd, Nat.reduceMul, Nat.reduceLeDiff]
  refine Go.call0 hP (integer_c n h1 h2) rfl rfl rfl (by omega) (by simp [go_sem, tsI, slI, I, renL_ints, blk_ren, en_live, en_dead, ints_length, ints_nil, ints_one]) ?_
  refine Go.run hte hn 100 ?_; simp only [go_sem, Nat.reduceBEq, Nat.reduceLT, Nat.reduceAdd, Nat.reduceMul, Nat.reduceLeDiff]
  refine Go.freeze (nm := 0) rfl ?_; simp only [go_sem, Nat.reduceBEq, Nat.reduceLT, Nat.reduceAdd, Nat.reduceMul, Nat.reduceLeDiff]
  refine Go.freeze (nm := 1) rfl ?_; simp only [go_sem, Nat.reduceBEq, Nat.reduceLT, Nat.reduceAdd, Nat.reduceMul, Nat.reduceLeDiff]
  refine Go.retG hte hE hf [] rfl (by simp [go_sem, tsI, slI, I, renL_ints, blk_ren, en_live, en_dead, ints_length, ints_nil, ints_one, ratP]) rfl (by rw [h0]; rfl) trivial
theorem bofL_le (n : Int) (h1 : -9223372036854775808 ≤ n) (h2 : n ≤ 9223372036854775807) : (bofL n).length ≤ 3 := dg_short (n := n.natAbs) (by omega)
theorem impl_RatFromInt_c (n : Int) (h1 : -9223372036854775808 ≤ n) (h2 : n ≤ 9223372036854775807) : AC Try.prog 79 [I n] [] (ratO (bofB n) 0 1 (bofL n) [1]) [.live ⟨3, ints (bofL n)⟩, .live ⟨3, ints [1]⟩] := by
  refine AC.intro (fn := Try.f79) (c := ?_) 6 Try.func79 (by rfl) (by kernel_rfl) (by kernel_rfl) (Nat.le_of_ble_eq_true rfl) fun e hP hf hn h0 hE => ?_
  have hte : TEok e.P te := hP ▸ teOk
  have hmx : e.P.follows .mixedOrders = true := hP ▸ mixedOk
  have hl := bofL_le n h1 h2
  have C := store_c (bofB n) (bofL n) [1] (by omega) (by decide)
  unfold fewB fewL at C
  rw [if_pos (by omega), if_pos (by omega)] at C
  refine Go.run hte hn 100 ?_; simp only [go_sem, Nat.reduceBEq, Nat.reduceLT, Nat.reduceAdd, Nat.reduceMul, Nat.reduceLeDiff]
  refine Go.call0 hP (whole_c n h1 h2) rfl rfl rfl (by omega) (by simp [go_sem, tsI, slI, I, renL_ints, blk_ren, en_live, en_dead, ints_length, ints_nil, ints_one]) ?_
  refine Go.run hte hn 100 ?_; simp only [go_sem, Nat.reduceBEq, Nat.reduceLT, Nat.reduceAdd, Nat.reduceMul, Nat.reduceLeDiff, ratP]
  refine Go.call0 hP (C) rfl rfl rfl (by omega) (by simp [go_sem, tsI, slI, I, renL_ints, blk_ren, en_live, en_dead, ints_length, ints_nil, ints_one]) ?_
  refine Go.run hte hn 100 ?_; simp only [go_sem, Nat.reduceBEq, Nat.reduceLT, Nat.reduceAdd, Nat.reduceMul, Nat.reduceLeDiff]
  refine Go.retG hte hE hf [1, 2] rfl (by simp [go_sem, tsI, slI, I, renL_ints, blk_ren, en_live, en_dead, ints_length, ints_nil, ints_one]) rfl (by rw [h0]; rfl) (by simp [go_sem, tsI, slI, I, renL_ints, blk_ren, en_live, en_dead, ints_length, ints_nil, ints_one])

end Go.Proofs.Ytbblhgldfcodfaa.Ab
