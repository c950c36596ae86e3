/- Contracts of the given program's functions and of the reference's (walks). -/
import Derived.Test.YtdcbedkohbmnnaaAbT
import Derived.Test.YtdcbedkohbmnnaaAbP
import Derived.Test.YtdcbedkohbmnnaaAbN
import Derived.Test.YtdcbedkohbmnnaaAbD
import Derived.Test.YtdcbedkohbmnnaaAbK
import Derived.Test.YtdcbedkohbmnnaaW1
import Derived.Test.YtdcbedkohbmnnaaW2
import Derived.Test.YtdcbedkohbmnnaaW3
import Derived.Test.YtdcbedkohbmnnaaW4
import Derived.Test.YtdcbedkohbmnnaaW5
import Derived.Test.YtdcbedkohbmnnaaW6
import Derived.Test.YtdcbedkohbmnnaaW7
import Derived.Test.YtdcbedkohbmnnaaW9
import Derived.Test.YtdcbedkohbmnnaaW10
import Derived.Test.YtdcbedkohbmnnaaT1
import Derived.Test.YtdcbedkohbmnnaaW11
import Derived.Test.YtdcbedkohbmnnaaW12
import Derived.Test.YtdcbedkohbmnnaaW13
import Derived.Test.YtdcbedkohbmnnaaW21
import Derived.Test.YtdcbedkohbmnnaaW22
import Derived.Test.YtdcbedkohbmnnaaW24
import Derived.Test.YtdcbedkohbmnnaaW25
import Derived.Test.YtdcbedkohbmnnaaW26
import Derived.Test.YtdcbedkohbmnnaaW27
import Derived.Test.YtdcbedkohbmnnaaW28
import Derived.Test.YtdcbedkohbmnnaaW30
import Derived.Test.YtdcbedkohbmnnaaW31
import Derived.Test.YtdcbedkohbmnnaaW32
set_option linter.unusedVariables false
set_option linter.unusedSimpArgs false
set_option maxRecDepth 10000
namespace Go.Proofs.Ytdcbedkohbmnnaa.Ab
open Go Go.RowKit
attribute [local go_sem] q_run q_seq q_skip q_block q_exit q_cond q_region q_nil q_op q_blk q_loop q_ret q_open q_inv q_fin q_go q_h0 q_h1 q_gskip q_stepC q_brt q_brf q_stepX q_sskip q_sskip0 q_val q_need q_new q_newc q_sv q_sto q_c1 q_c2 q_c3 q_c4 q_c5 q_c6 q_c7 q_c8 q_c9 q_c10 q_c11 q_c12 q_c13 q_c14 q_c15 q_c16 q_c17 q_c18 q_c19 q_c20 q_c21 q_c22 q_g0 q_g1 q_gC q_gD q_gE q_gB1 q_gB2 q_gB3 q_gB4 q_ev1 q_ev2 q_ev3 q_evo0 q_evo1 q_rv q_rva q_o1 q_o2 q_pk1 q_pk2 q_ld1p q_ld1e q_ld1t q_ldnp q_ldne q_ldnt q_sub0 q_sub1 q_subc q_stS q_stT q_box q_bldr q_bld q_fill0 q_fill1 q_fillB q_bsr q_bsl q_fap q_fat q_iasl q_iats q_lnsl q_lnts q_lnv q_lnS q_exA q_mkB q_lo0 q_lo1 q_hi0 q_hi1 q_slcA q_slcU1 q_slcU2 q_slcT1 q_slcT2 q_slsA q_slsU q_slsT q_apA q_apC q_srcE1 q_srcE2 q_srcE3 q_srcA1 q_srcB q_srcA2 q_srcA3 q_fnA q_nc1 q_nc2 q_bin q_bin2 q_bin3 q_bin4 q_bin5 q_bin6 q_bin7 q_bin8 q_bin9 q_bin10 q_i1 q_i2 q_i3 q_i4 q_i5 q_i6 q_i7 q_i8 q_i9 q_i10 q_i11 q_s1 q_s2 q_s3 q_u1 q_u2 q_min q_max q_ce1 q_ce2 q_ce3 q_ce4 q_ce5 q_ce6 q_ce7 q_ce8 q_ce9 q_ce10 q_ce11 q_on2 q_on3 q_on4 q_on5 q_on6 q_on7 q_on8 q_on9 q_on10 q_on11 q_enr1 q_gEt q_zr0 q_zr1 q_zgs q_zgg q_zk1 q_zk2 q_zd q_zv1 q_zv2 q_zv3 q_zp1 q_zp2 q_zf q_zs1 q_zs2 q_za q_za1 q_fi0 q_fi1 q_ln0 q_ln1 q_h01 q_h02 q_h03 q_h04 q_h05 q_h06 q_h07 q_h08 q_h09 q_h10 q_h11 q_h12 q_h13 q_h14 q_h15 q_h16 q_h17 q_h18 q_h19 q_h20 q_h21 q_h22 q_h23 q_h24 q_al q_b0 q_rs1 q_rs2 q_rs3 q_rs4 q_rs5 q_rs6 q_rs7 q_rs8 q_ro1 q_ro2 q_ro3 q_ro4 q_ro5 q_ro6 q_ro7 q_ro8 cond_true cond_false decide_true decide_false List.length_cons List.length_nil List.nil_append List.cons_append true_and and_true List.toList_toArray Option.map_some Nat.zero_add Nat.add_zero Bool.and_self Bool.and_true Bool.true_and Bool.and_false Bool.false_and Bool.not_true Bool.not_false FitF FitL LendL wb keys nodupB firstOk tupA op_move op_assign op_pick op_un op_box op_nc op_mf op_ex op_min op_max get put del nth evs evp sets setN ones popTo args0 AV.ren AV.renL rho List.take_succ_cons List.take_zero List.drop_succ_cons List.drop_zero Option.isNone_none Option.isNone_some o_al35 o_al37 o_ap22 o_bi22 o_bi3 o_bi4 o_bi69 o_bi88 o_bs22_0 o_bs22_1 o_bs22_3 o_bu35 o_bu37 o_bu95 o_cn3 o_cn88 o_cv3_88 o_cv88_3 o_fa30_0 o_fa30_1 o_fa32_0 o_fa32_1 o_fa35_0 o_fa35_1 o_fa37_0 o_fa37_1 o_fa95_0 o_fa95_1 o_ia22 o_ia58 o_ia61 o_ia78 o_ib4 o_ip69 o_ld22 o_ld3 o_ld30 o_ld32 o_ld35 o_ld37 o_ld4 o_ld69 o_ln22 o_ln58 o_ln61 o_mk22 o_mk61 o_mk78 o_sl22 o_st22 o_st3 o_st35 o_st37 o_st4 o_st69 o_zb22 o_zb58 o_zb61 o_zb78 I tsI slI renL_ints blk_ren en_live en_dead List.set_cons_zero List.set_cons_succ List.map_cons List.map_nil List.append_nil frzF frzS AV.frz AV.frzL frzL_ints ints_all ints_all' ints_take1 ints_mk ints_mk1 mk_length res_ints resOk_ints plain_ints plainA plainL plainE plainS List.all_cons List.all_nil bigO bigT ratO ratT
/-! ### The sign of a fraction turned; which is greater -/
theorem impl_BigIntOf_c (n : Int) (h1 : -9223372036854775808 ≤ n) (h2 : n ≤ 9223372036854775807) : AC Try.prog 79 [I n] [] (bigT (bofB n) (bofL n)) [] := by
  refine AC.intro (fn := Try.f79) (c := ?_) 5 Try.func79 (by rfl) (by kernel_rfl) (by kernel_rfl) (Nat.le_of_ble_eq_true rfl) fun e hP hf hn h0 hE => ?_
  have hte : TEok e.P te := hP ▸ teOk
  have hmx : e.P.follows .mixedOrders = true := hP ▸ mixedOk
  refine Go.run hte hn 100 ?_; simp only [go_sem, Nat.reduceBEq, Nat.reduceLT, Nat.reduceAdd, Nat.reduceMul, Nat.reduceLeDiff]
  refine Go.call0 hP (integer_c n h1 h2) rfl rfl rfl (by omega) (by simp [go_sem, tsI, slI, I, renL_ints, blk_ren, en_live, en_dead, ints_length, ints_nil, ints_one]) ?_
  refine Go.run hte hn 100 ?_; simp only [go_sem, Nat.reduceBEq, Nat.reduceLT, Nat.reduceAdd, Nat.reduceMul, Nat.reduceLeDiff]
  refine Go.retG hte hE hf [] rfl (by simp [go_sem, tsI, slI, I, renL_ints, blk_ren, en_live, en_dead, ints_length, ints_nil, ints_one]) rfl (by rw [h0]; rfl) trivial
def roB (n d : Int) : Bool := rmB (bofB n) (bofB d) (bofL n) (bofL d)
def roN (n d : Int) : List Int := rmN (bofB n) (bofB d) (bofL n) (bofL d)
def roD (n d : Int) : List Int := rmD (bofB n) (bofB d) (bofL n) (bofL d)
theorem roN_le (n d : Int) : (roN n d).length ≤ 24 := rmN_le _ _ _ _
theorem roD_le (n d : Int) : (roD n d).length ≤ 24 := rmD_le _ _ _ _
theorem spec_RatOf_c (n d : Int) (h1 : -9223372036854775808 ≤ n) (h2 : n ≤ 9223372036854775807) (k1 : -9223372036854775808 ≤ d) (k2 : d ≤ 9223372036854775807) : AC Try.prog 39 [I n, I d] [] (ratO (roB n d) 0 1 (roN n d) (roD n d)) [.live ⟨3, ints (roN n d)⟩, .live ⟨3, ints (roD n d)⟩] := by
  refine AC.intro (fn := Try.f39) (c := ?_) 10 Try.func39 (by rfl) (by kernel_rfl) (by kernel_rfl) (Nat.le_of_ble_eq_true rfl) fun e hP hf hn h0 hE => ?_
  have hte : TEok e.P te := hP ▸ teOk
  have hmx : e.P.follows .mixedOrders = true := hP ▸ mixedOk
  have l1 := bofL_le n h1 h2
  have l2 := bofL_le d k1 k2
  refine Go.run hte hn 100 ?_; simp only [go_sem, Nat.reduceBEq, Nat.reduceLT, Nat.reduceAdd, Nat.reduceMul, Nat.reduceLeDiff]
  refine Go.call0 hP (spec_BigIntOf_c n h1 h2) rfl rfl rfl (by omega) (by simp [go_sem, tsI, slI, I, renL_ints, blk_ren, en_live, en_dead, ints_length, ints_nil, ints_one]) ?_
  refine Go.run hte hn 100 ?_; simp only [go_sem, Nat.reduceBEq, Nat.reduceLT, Nat.reduceAdd, Nat.reduceMul, Nat.reduceLeDiff]
  refine Go.call0 hP (spec_BigIntOf_c d k1 k2) rfl rfl rfl (by omega) (by simp [go_sem, tsI, slI, I, renL_ints, blk_ren, en_live, en_dead, ints_length, ints_nil, ints_one]) ?_
  refine Go.run hte hn 100 ?_; simp only [go_sem, Nat.reduceBEq, Nat.reduceLT, Nat.reduceAdd, Nat.reduceMul, Nat.reduceLeDiff]
  refine Go.callB 3 hP (spec_RatMake_c (bofB n) (bofB d) (bofL n) (bofL d) (by omega) (by omega)) rfl rfl rfl (by omega) (by first | (simp only [go_sem, Nat.reduceBEq, Nat.reduceLT, Nat.reduceAdd, Nat.reduceMul, Nat.reduceLeDiff]; done) | simp [go_sem, tsI, slI, I, renL_ints, blk_ren, en_live, en_dead, ints_length, ints_nil, ints_one]) (by first | (simp only [go_sem, Nat.reduceBEq, Nat.reduceLT, Nat.reduceAdd, Nat.reduceMul, Nat.reduceLeDiff]; done) | simp [go_sem, tsI, slI, I, renL_ints, blk_ren, en_live, en_dead, ints_length, ints_nil, ints_one]) (by first | (simp only [go_sem, Nat.reduceBEq, Nat.reduceLT, Nat.reduceAdd, Nat.reduceMul, Nat.reduceLeDiff]; done) | simp [go_sem, tsI, slI, I, renL_ints, blk_ren, en_live, en_dead, ints_length, ints_nil, ints_one]) (by first | (simp only [go_sem, Nat.reduceBEq, Nat.reduceLT, Nat.reduceAdd, Nat.reduceMul, Nat.reduceLeDiff]; done) | simp [go_sem, tsI, slI, I, renL_ints, blk_ren, en_live, en_dead, ints_length, ints_nil, ints_one]) ?_
  refine Go.run hte hn 100 ?_; simp only [go_sem, Nat.reduceBEq, Nat.reduceLT, Nat.reduceAdd, Nat.reduceMul, Nat.reduceLeDiff]
  refine Go.retG hte hE hf [3, 4] rfl (by simp [go_sem, tsI, slI, I, renL_ints, blk_ren, en_live, en_dead, ints_length, ints_nil, ints_one, roB, roN, roD]) rfl (by rw [h0]; rfl) (by simp [go_sem, tsI, slI, I, renL_ints, blk_ren, en_live, en_dead, ints_length, ints_nil, ints_one, roB, roN, roD])
theorem impl_RatOf_c (n d : Int) (h1 : -9223372036854775808 ≤ n) (h2 : n ≤ 9223372036854775807) (k1 : -9223372036854775808 ≤ d) (k2 : d ≤ 9223372036854775807) : AC Try.prog 40 [I n, I d] [] (ratO (roB n d) 0 1 (roN n d) (roD n d)) [.live ⟨3, ints (roN n d)⟩, .live ⟨3, ints (roD n d)⟩] := by
  refine AC.intro (fn := Try.f40) (c := ?_) 10 Try.func40 (by rfl) (by kernel_rfl) (by kernel_rfl) (Nat.le_of_ble_eq_true rfl) fun e hP hf hn h0 hE => ?_
  have hte : TEok e.P te := hP ▸ teOk
  have hmx : e.P.follows .mixedOrders = true := hP ▸ mixedOk
  have l1 := bofL_le n h1 h2
  have l2 := bofL_le d k1 k2
  refine Go.run hte hn 100 ?_; simp only [go_sem, Nat.reduceBEq, Nat.reduceLT, Nat.reduceAdd, Nat.reduceMul, Nat.reduceLeDiff]
  refine Go.call0 hP (impl_BigIntOf_c n h1 h2) rfl rfl rfl (by omega) (by simp [go_sem, tsI, slI, I, renL_ints, blk_ren, en_live, en_dead, ints_length, ints_nil, ints_one]) ?_
  refine Go.run hte hn 100 ?_; simp only [go_sem, Nat.reduceBEq, Nat.reduceLT, Nat.reduceAdd, Nat.reduceMul, Nat.reduceLeDiff]
  refine Go.call0 hP (impl_BigIntOf_c d k1 k2) rfl rfl rfl (by omega) (by simp [go_sem, tsI, slI, I, renL_ints, blk_ren, en_live, en_dead, ints_length, ints_nil, ints_one]) ?_
  refine Go.run hte hn 100 ?_; simp only [go_sem, Nat.reduceBEq, Nat.reduceLT, Nat.reduceAdd, Nat.reduceMul, Nat.reduceLeDiff]
  refine Go.call0 hP (impl_RatMake_c (bofB n) (bofB d) (bofL n) (bofL d) (by omega) (by omega)) rfl rfl rfl (by omega) (by simp [go_sem, tsI, slI, I, renL_ints, blk_ren, en_live, en_dead, ints_length, ints_nil, ints_one]) ?_
  refine Go.run hte hn 100 ?_; simp only [go_sem, Nat.reduceBEq, Nat.reduceLT, Nat.reduceAdd, Nat.reduceMul, Nat.reduceLeDiff]
  refine Go.retG hte hE hf [1, 2] rfl (by simp [go_sem, tsI, slI, I, renL_ints, blk_ren, en_live, en_dead, ints_length, ints_nil, ints_one, roB, roN, roD]) rfl (by rw [h0]; rfl) (by simp [go_sem, tsI, slI, I, renL_ints, blk_ren, en_live, en_dead, ints_length, ints_nil, ints_one, roB, roN, roD])
def rnB (s : Bool) (a d : List Int) : Bool := rok s a d && (!s && decide (0 < a.length))
def rnN (s : Bool) (a d : List Int) : List Int := if rok s a d = true then a else []
def rnD (s : Bool) (a d : List Int) : List Int := if rok s a d = true then d else []
theorem rnN_le (s : Bool) (a d : List Int) : (rnN s a d).length ≤ 24 := by
  unfold rnN
  split
  · rename_i h; exact (rok_iff.mp h).2.2.2.1
  · simp
theorem rnD_le (s : Bool) (a d : List Int) : (rnD s a d).length ≤ 24 := by
  unfold rnD
  split
  · rename_i h; exact (rok_iff.mp h).2.2.2.2.1
  · simp
theorem neg_ok_c (s : Bool) (a d : List Int) : AC Try.prog 85 [ratP s a d] [] (ratP (!s && decide (0 < a.length)) a d) [] := by
  refine AC.intro (fn := Try.f85) (c := ?_) 16 Try.func85 (by rfl) (by kernel_rfl) (by kernel_rfl) (Nat.le_of_ble_eq_true rfl) fun e hP hf hn h0 hE => ?_
  have hte : TEok e.P te := hP ▸ teOk
  have hmx : e.P.follows .mixedOrders = true := hP ▸ mixedOk
  refine Go.run hte hn 100 ?_; simp only [go_sem, Nat.reduceBEq, Nat.reduceLT, Nat.reduceAdd, Nat.reduceMul, Nat.reduceLeDiff, ratP]
  refine Go.openK 9 [] hte hn hmx (by kernel_rfl) ?_
  simp only [go_sem, Nat.reduceBEq, Nat.reduceLT, Nat.reduceAdd, Nat.reduceMul, Nat.reduceLeDiff]
  refine ZC.call0 hP (opposite_c s a) rfl rfl rfl (by omega) (by simp [go_sem, tsI, slI, I, renL_ints, blk_ren, en_live, en_dead, ints_length, ints_nil, ints_one]) rfl (by first | trivial | (show _ < _; simp)) ?_
  refine Go.run hte hn 100 ?_; simp only [go_sem, Nat.reduceBEq, Nat.reduceLT, Nat.reduceAdd, Nat.reduceMul, Nat.reduceLeDiff]
  refine Go.freeze (nm := 0) rfl ?_; simp only [go_sem, Nat.reduceBEq, Nat.reduceLT, Nat.reduceAdd, Nat.reduceMul, Nat.reduceLeDiff]
  refine Go.retG hte hE hf [] rfl (by simp [go_sem, tsI, slI, I, renL_ints, blk_ren, en_live, en_dead, ints_length, ints_nil, ints_one, ratP]) rfl (by rw [h0]; rfl) trivial
theorem neg_no_c : AC Try.prog 85 [.v (.pointer none)] [] (.v (.pointer none)) [] := by
  refine AC.intro (fn := Try.f85) (c := ?_) 16 Try.func85 (by rfl) (by kernel_rfl) (by kernel_rfl) (Nat.le_of_ble_eq_true rfl) fun e hP hf hn h0 hE => ?_
  have hte : TEok e.P te := hP ▸ teOk
  have hmx : e.P.follows .mixedOrders = true := hP ▸ mixedOk
  refine Go.run hte hn 100 ?_; simp only [go_sem, Nat.reduceBEq, Nat.reduceLT, Nat.reduceAdd, Nat.reduceMul, Nat.reduceLeDiff]
  refine Go.retG hte hE hf [] rfl (by simp [go_sem, tsI, slI, I, renL_ints, blk_ren, en_live, en_dead, ints_length, ints_nil, ints_one]) rfl (by rw [h0]; rfl) trivial
theorem impl_RatNeg_c (s : Bool) (a d : List Int) (ha : a.length ≤ 1152921504606846976) (hd : d.length ≤ 1152921504606846976) : AC Try.prog 46 [ratT s a d] [] (ratO (rnB s a d) 0 1 (rnN s a d) (rnD s a d)) [.live ⟨3, ints (rnN s a d)⟩, .live ⟨3, ints (rnD s a d)⟩] := by
  refine AC.intro (fn := Try.f46) (c := ?_) 7 Try.func46 (by rfl) (by kernel_rfl) (by kernel_rfl) (Nat.le_of_ble_eq_true rfl) fun e hP hf hn h0 hE => ?_
  have hte : TEok e.P te := hP ▸ teOk
  have hmx : e.P.follows .mixedOrders = true := hP ▸ mixedOk
  unfold rnB rnN rnD at hE
  refine Go.run hte hn 100 ?_; simp only [go_sem, Nat.reduceBEq, Nat.reduceLT, Nat.reduceAdd, Nat.reduceMul, Nat.reduceLeDiff]
  cases h : rok s a d
  · rw [h, Bool.false_and, if_neg (by simp), if_neg (by simp)] at hE
    refine Go.call0 hP (load_no_c s a d ha hd h) rfl rfl rfl (by omega) (by simp [go_sem, tsI, slI, I, renL_ints, blk_ren, en_live, en_dead, ints_length, ints_nil, ints_one]) ?_
    refine Go.run hte hn 100 ?_; simp only [go_sem, Nat.reduceBEq, Nat.reduceLT, Nat.reduceAdd, Nat.reduceMul, Nat.reduceLeDiff]
    refine Go.call0 hP (neg_no_c) rfl rfl rfl (by omega) (by simp [go_sem, tsI, slI, I, renL_ints, blk_ren, en_live, en_dead, ints_length, ints_nil, ints_one]) ?_
    refine Go.run hte hn 100 ?_; simp only [go_sem, Nat.reduceBEq, Nat.reduceLT, Nat.reduceAdd, Nat.reduceMul, Nat.reduceLeDiff]
    refine Go.call0 hP (store_no_c) rfl rfl rfl (by omega) (by simp [go_sem, tsI, slI, I, renL_ints, blk_ren, en_live, en_dead, ints_length, ints_nil, ints_one]) ?_
    refine Go.run hte hn 100 ?_; simp only [go_sem, Nat.reduceBEq, Nat.reduceLT, Nat.reduceAdd, Nat.reduceMul, Nat.reduceLeDiff]
    refine Go.retG hte hE hf [2, 3] rfl (by simp [go_sem, tsI, slI, I, renL_ints, blk_ren, en_live, en_dead, ints_length, ints_nil, ints_one]) rfl (by rw [h0]; rfl) (by simp [go_sem, tsI, slI, I, renL_ints, blk_ren, en_live, en_dead, ints_length, ints_nil, ints_one])
  · have hr := rok_iff.mp h
    rw [h, Bool.true_and, if_pos rfl, if_pos rfl] at hE
    refine Go.call0 hP (load_ok_c s a d ha hd h) rfl rfl rfl (by omega) (by simp [go_sem, tsI, slI, I, renL_ints, blk_ren, en_live, en_dead, ints_length, ints_nil, ints_one]) ?_
    refine Go.run hte hn 100 ?_; simp only [go_sem, Nat.reduceBEq, Nat.reduceLT, Nat.reduceAdd, Nat.reduceMul, Nat.reduceLeDiff]
    refine Go.call0 hP (neg_ok_c s a d) rfl rfl rfl (by omega) (by simp [go_sem, tsI, slI, I, renL_ints, blk_ren, en_live, en_dead, ints_length, ints_nil, ints_one]) ?_
    refine Go.run hte hn 100 ?_; simp only [go_sem, Nat.reduceBEq, Nat.reduceLT, Nat.reduceAdd, Nat.reduceMul, Nat.reduceLeDiff]
    refine Go.call0 hP (store_ok_c (!s && decide (0 < a.length)) a d hr.2.2.2.1 hr.2.2.2.2.1) rfl rfl rfl (by omega) (by simp [go_sem, tsI, slI, I, renL_ints, blk_ren, en_live, en_dead, ints_length, ints_nil, ints_one]) ?_
    refine Go.run hte hn 100 ?_; simp only [go_sem, Nat.reduceBEq, Nat.reduceLT, Nat.reduceAdd, Nat.reduceMul, Nat.reduceLeDiff]
    refine Go.retG hte hE hf [2, 3] rfl (by simp [go_sem, tsI, slI, I, renL_ints, blk_ren, en_live, en_dead, ints_length, ints_nil, ints_one]) rfl (by rw [h0]; rfl) (by simp [go_sem, tsI, slI, I, renL_ints, blk_ren, en_live, en_dead, ints_length, ints_nil, ints_one])
theorem l04Neg_c (s : Bool) (a d : List Int) (h : rok s a d = true) : AC Try.prog 84 [ratT s a d] [] (ratO (!s && decide (0 < a.length)) 0 1 a d) [.live ⟨3, ints a⟩, .live ⟨3, ints d⟩] := by
  refine AC.intro (fn := Try.f84) (c := ?_) 16 Try.func84 (by rfl) (by kernel_rfl) (by kernel_rfl) (Nat.le_of_ble_eq_true rfl) fun e hP hf hn h0 hE => ?_
  have hte : TEok e.P te := hP ▸ teOk
  have hmx : e.P.follows .mixedOrders = true := hP ▸ mixedOk
  obtain ⟨r1, r2, r3, r4, r5, r6⟩ := rok_iff.mp h
  have hcap := (bok_capped r1).1
  have C := l03Make_c (!s) a (by omega)
  rw [hcap] at C
  refine Go.run hte hn 100 ?_; simp only [go_sem, Nat.reduceBEq, Nat.reduceLT, Nat.reduceAdd, Nat.reduceMul, Nat.reduceLeDiff]
  refine Go.freeze (nm := 0) rfl ?_; simp only [go_sem, Nat.reduceBEq, Nat.reduceLT, Nat.reduceAdd, Nat.reduceMul, Nat.reduceLeDiff]
  refine Go.virt 3 ?_
  refine Go.openK 12 [(8, 2)] hte hn hmx (by kernel_rfl) ?_
  simp only [go_sem, Nat.reduceBEq, Nat.reduceLT, Nat.reduceAdd, Nat.reduceMul, Nat.reduceLeDiff]
  refine ZC.call0 hP (C) rfl rfl rfl (by omega) (by simp [go_sem, tsI, slI, I, renL_ints, blk_ren, en_live, en_dead, ints_length, ints_nil, ints_one]) rfl (by first | trivial | (show _ < _; simp)) ?_
  simp only [go_sem, Nat.reduceBEq, Nat.reduceLT, Nat.reduceAdd, Nat.reduceMul, Nat.reduceLeDiff]
  refine ⟨⟨by rw [ints_length]; omega, ones_ints _, by omega, by omega⟩, ?_⟩
  refine Go.run hte hn 100 ?_; simp only [go_sem, Nat.reduceBEq, Nat.reduceLT, Nat.reduceAdd, Nat.reduceMul, Nat.reduceLeDiff]
  refine Go.retG hte hE hf [3, 4] rfl (by simp [go_sem, tsI, slI, I, renL_ints, blk_ren, en_live, en_dead, ints_length, ints_nil, ints_one]) rfl (by rw [h0]; rfl) (by simp [go_sem, tsI, slI, I, renL_ints, blk_ren, en_live, en_dead, ints_length, ints_nil, ints_one])
theorem spec_RatNeg_c (s : Bool) (a d : List Int) (ha : a.length ≤ 1152921504606846976) (hd : d.length ≤ 1152921504606846976) : AC Try.prog 45 [ratT s a d] [] (ratO (rnB s a d) 0 1 (rnN s a d) (rnD s a d)) [.live ⟨3, ints (rnN s a d)⟩, .live ⟨3, ints (rnD s a d)⟩] := by
  refine AC.intro (fn := Try.f45) (c := ?_) 9 Try.func45 (by rfl) (by kernel_rfl) (by kernel_rfl) (Nat.le_of_ble_eq_true rfl) fun e hP hf hn h0 hE => ?_
  have hte : TEok e.P te := hP ▸ teOk
  have hmx : e.P.follows .mixedOrders = true := hP ▸ mixedOk
  unfold rnB rnN rnD at hE
  have C := spec_RatOk_c s a d ha hd
  cases h : rok s a d
  · rw [h] at C
    rw [h, Bool.false_and, if_neg (by simp), if_neg (by simp)] at hE
    refine Go.run hte hn 100 ?_; simp only [go_sem, Nat.reduceBEq, Nat.reduceLT, Nat.reduceAdd, Nat.reduceMul, Nat.reduceLeDiff]
    refine Go.call0 hP (C) rfl rfl rfl (by omega) (by simp [go_sem, tsI, slI, I, renL_ints, blk_ren, en_live, en_dead, ints_length, ints_nil, ints_one]) ?_
    refine Go.run hte hn 100 ?_; simp only [go_sem, Nat.reduceBEq, Nat.reduceLT, Nat.reduceAdd, Nat.reduceMul, Nat.reduceLeDiff]
    refine Go.virt 3 ?_
    refine Go.nilcell 1 1 2 1 rfl rfl ?_
    refine Go.virt 3 ?_
    refine Go.nilcell 1 2 3 1 rfl rfl ?_
    simp only [go_sem, Nat.reduceBEq, Nat.reduceLT, Nat.reduceAdd, Nat.reduceMul, Nat.reduceLeDiff]
    refine Go.retG hte hE hf [2, 3] rfl (by simp [go_sem, tsI, slI, I, renL_ints, blk_ren, en_live, en_dead, ints_length, ints_nil, ints_one]) rfl (by rw [h0]; rfl) (by simp [go_sem, tsI, slI, I, renL_ints, blk_ren, en_live, en_dead, ints_length, ints_nil, ints_one])
  · rw [h] at C
    rw [h, Bool.true_and, if_pos rfl, if_pos rfl] at hE
    refine Go.run hte hn 100 ?_; simp only [go_sem, Nat.reduceBEq, Nat.reduceLT, Nat.reduceAdd, Nat.reduceMul, Nat.reduceLeDiff]
    refine Go.call0 hP (C) rfl rfl rfl (by omega) (by simp [go_sem, tsI, slI, I, renL_ints, blk_ren, en_live, en_dead, ints_length, ints_nil, ints_one]) ?_
    refine Go.run hte hn 100 ?_; simp only [go_sem, Nat.reduceBEq, Nat.reduceLT, Nat.reduceAdd, Nat.reduceMul, Nat.reduceLeDiff]
    refine Go.call0 hP (l04Neg_c s a d h) rfl rfl rfl (by omega) (by simp [go_sem, tsI, slI, I, renL_ints, blk_ren, en_live, en_dead, ints_length, ints_nil, ints_one]) ?_
    refine Go.run hte hn 100 ?_; simp only [go_sem, Nat.reduceBEq, Nat.reduceLT, Nat.reduceAdd, Nat.reduceMul, Nat.reduceLeDiff]
    refine Go.retG hte hE hf [2, 3] rfl (by simp [go_sem, tsI, slI, I, renL_ints, blk_ren, en_live, en_dead, ints_length, ints_nil, ints_one]) rfl (by rw [h0]; rfl) (by simp [go_sem, tsI, slI, I, renL_ints, blk_ren, en_live, en_dead, ints_length, ints_nil, ints_one])
theorem l04Copy_c (s : Bool) (a d : List Int) (ha : a.length ≤ 1000) (hd : d.length ≤ 1000) : AC Try.prog 86 [ratT s a d] [] (ratO s 0 1 a d) [.live ⟨3, ints a⟩, .live ⟨3, ints d⟩] := by
  refine AC.intro (fn := Try.f86) (c := ?_) 17 Try.func86 (by rfl) (by kernel_rfl) (by kernel_rfl) (Nat.le_of_ble_eq_true rfl) fun e hP hf hn h0 hE => ?_
  have hte : TEok e.P te := hP ▸ teOk
  have hmx : e.P.follows .mixedOrders = true := hP ▸ mixedOk
  refine Go.run hte hn 100 ?_; simp only [go_sem, Nat.reduceBEq, Nat.reduceLT, Nat.reduceAdd, Nat.reduceMul, Nat.reduceLeDiff]
  refine Go.freeze (nm := 0) rfl ?_; simp only [go_sem, Nat.reduceBEq, Nat.reduceLT, Nat.reduceAdd, Nat.reduceMul, Nat.reduceLeDiff]
  refine Go.virt 3 ?_
  refine Go.virt 3 ?_
  refine Go.openK 13 [(3, 2), (9, 3)] hte hn hmx (by kernel_rfl) ?_
  simp only [go_sem, Nat.reduceBEq, Nat.reduceLT, Nat.reduceAdd, Nat.reduceMul, Nat.reduceLeDiff]
  refine ⟨⟨by rw [ints_length]; omega, ones_ints _, by omega, by omega⟩, ?_⟩
  refine ⟨⟨by rw [ints_length]; omega, ones_ints _, by omega, by omega⟩, ?_⟩
  refine Go.run hte hn 100 ?_; simp only [go_sem, Nat.reduceBEq, Nat.reduceLT, Nat.reduceAdd, Nat.reduceMul, Nat.reduceLeDiff]
  refine Go.retG hte hE hf [4, 5] rfl (by simp [go_sem, tsI, slI, I, renL_ints, blk_ren, en_live, en_dead, ints_length, ints_nil, ints_one]) rfl (by rw [h0]; rfl) (by simp [go_sem, tsI, slI, I, renL_ints, blk_ren, en_live, en_dead, ints_length, ints_nil, ints_one])
/-! Which is greater -/
def cmpN (A B : Nat) : Int := if A < B then -1 else if A > B then 1 else 0
def icmp (s t : Bool) (A B : Nat) : Int := if s = true then (if t = true then cmpN B A else -1) else if t = true then 1 else cmpN A B
theorem cmpN_anti (A B : Nat) : cmpN B A = - cmpN A B := by
  unfold cmpN
  split <;> split <;> (try split) <;> omega
theorem icmp_anti (s t : Bool) (A B : Nat) : icmp t s B A = - icmp s t A B := by
  unfold icmp
  cases s <;> cases t <;> simp [cmpN_anti A B]
theorem cmpL_N (A B : Nat) : cmpL (dg A) (dg B) = cmpN A B := cmpL_dg A B
theorem l03Cmp_c (s t : Bool) (A B : Nat) (ha : (dg A).length ≤ 1152921504606846976) (hb : (dg B).length ≤ 1152921504606846976) : AC Try.prog 107 [bigT s (dg A), bigT t (dg B)] [] (I (icmp s t A B)) [] := by
  refine AC.intro (fn := Try.f107) (c := ?_) 34 Try.func107 (by rfl) (by kernel_rfl) (by kernel_rfl) (Nat.le_of_ble_eq_true rfl) fun e hP hf hn h0 hE => ?_
  have hte : TEok e.P te := hP ▸ teOk
  have hmx : e.P.follows .mixedOrders = true := hP ▸ mixedOk
  unfold icmp at hE
  have C1 := l02Cmp_c (dg A) (dg B) ha hb
  have C2 := l02Cmp_c (dg B) (dg A) hb ha
  rw [cmpL_N] at C1 C2
  cases s
  · cases t
    · refine Go.run hte hn 100 ?_; simp only [go_sem, Nat.reduceBEq, Nat.reduceLT, Nat.reduceAdd, Nat.reduceMul, Nat.reduceLeDiff]
      refine Go.call0 hP (C1) rfl rfl rfl (by omega) (by simp [go_sem, tsI, slI, I, renL_ints, blk_ren, en_live, en_dead, ints_length, ints_nil, ints_one]) ?_
      refine Go.run hte hn 100 ?_; simp only [go_sem, Nat.reduceBEq, Nat.reduceLT, Nat.reduceAdd, Nat.reduceMul, Nat.reduceLeDiff]
      refine Go.retG hte hE hf [] rfl (by simp [go_sem, tsI, slI, I, renL_ints, blk_ren, en_live, en_dead, ints_length, ints_nil, ints_one]) rfl (by rw [h0]; rfl) trivial
    · refine Go.run hte hn 100 ?_; simp only [go_sem, Nat.reduceBEq, Nat.reduceLT, Nat.reduceAdd, Nat.reduceMul, Nat.reduceLeDiff]
      refine Go.retG hte hE hf [] rfl (by simp [go_sem, tsI, slI, I, renL_ints, blk_ren, en_live, en_dead, ints_length, ints_nil, ints_one]) rfl (by rw [h0]; rfl) trivial
  · cases t
    · refine Go.run hte hn 100 ?_; simp only [go_sem, Nat.reduceBEq, Nat.reduceLT, Nat.reduceAdd, Nat.reduceMul, Nat.reduceLeDiff]
      refine Go.retG hte hE hf [] rfl (by simp [go_sem, tsI, slI, I, renL_ints, blk_ren, en_live, en_dead, ints_length, ints_nil, ints_one]) rfl (by rw [h0]; rfl) trivial
    · refine Go.run hte hn 100 ?_; simp only [go_sem, Nat.reduceBEq, Nat.reduceLT, Nat.reduceAdd, Nat.reduceMul, Nat.reduceLeDiff]
      refine Go.call0 hP (C2) rfl rfl rfl (by omega) (by simp [go_sem, tsI, slI, I, renL_ints, blk_ren, en_live, en_dead, ints_length, ints_nil, ints_one]) ?_
      refine Go.run hte hn 100 ?_; simp only [go_sem, Nat.reduceBEq, Nat.reduceLT, Nat.reduceAdd, Nat.reduceMul, Nat.reduceLeDiff]
      refine Go.retG hte hE hf [] rfl (by simp [go_sem, tsI, slI, I, renL_ints, blk_ren, en_live, en_dead, ints_length, ints_nil, ints_one]) rfl (by rw [h0]; rfl) trivial
theorem bcompare_c (s t : Bool) (A B : Nat) (ha : (dg A).length ≤ 1152921504606846976) (hb : (dg B).length ≤ 1152921504606846976) : AC Try.prog 109 [bigT s (dg A), bigT t (dg B)] [] (I (icmp s t A B)) [] := by
  refine AC.intro (fn := Try.f109) (c := ?_) 34 Try.func109 (by rfl) (by kernel_rfl) (by kernel_rfl) (Nat.le_of_ble_eq_true rfl) fun e hP hf hn h0 hE => ?_
  have hte : TEok e.P te := hP ▸ teOk
  have hmx : e.P.follows .mixedOrders = true := hP ▸ mixedOk
  unfold icmp at hE
  have C1 := compare_c (dg A) (dg B) ha hb
  have C2 := compare_c (dg B) (dg A) hb ha
  rw [cmpL_N] at C1 C2
  cases s
  · cases t
    · refine Go.run hte hn 100 ?_; simp only [go_sem, Nat.reduceBEq, Nat.reduceLT, Nat.reduceAdd, Nat.reduceMul, Nat.reduceLeDiff, beq_self_eq_true]
      refine Go.call0 hP (C1) rfl rfl rfl (by omega) (by simp [go_sem, tsI, slI, I, renL_ints, blk_ren, en_live, en_dead, ints_length, ints_nil, ints_one]) ?_
      refine Go.run hte hn 100 ?_; simp only [go_sem, Nat.reduceBEq, Nat.reduceLT, Nat.reduceAdd, Nat.reduceMul, Nat.reduceLeDiff]
      refine Go.retG hte hE hf [] rfl (by simp [go_sem, tsI, slI, I, renL_ints, blk_ren, en_live, en_dead, ints_length, ints_nil, ints_one]) rfl (by rw [h0]; rfl) trivial
    · refine Go.run hte hn 100 ?_; simp only [go_sem, Nat.reduceBEq, Nat.reduceLT, Nat.reduceAdd, Nat.reduceMul, Nat.reduceLeDiff, show (false == true) = false from rfl, show (true == false) = false from rfl]
      refine Go.retG hte hE hf [] rfl (by simp [go_sem, tsI, slI, I, renL_ints, blk_ren, en_live, en_dead, ints_length, ints_nil, ints_one]) rfl (by rw [h0]; rfl) trivial
  · cases t
    · refine Go.run hte hn 100 ?_; simp only [go_sem, Nat.reduceBEq, Nat.reduceLT, Nat.reduceAdd, Nat.reduceMul, Nat.reduceLeDiff, show (false == true) = false from rfl, show (true == false) = false from rfl]
      refine Go.retG hte hE hf [] rfl (by simp [go_sem, tsI, slI, I, renL_ints, blk_ren, en_live, en_dead, ints_length, ints_nil, ints_one]) rfl (by rw [h0]; rfl) trivial
    · refine Go.run hte hn 100 ?_; simp only [go_sem, Nat.reduceBEq, Nat.reduceLT, Nat.reduceAdd, Nat.reduceMul, Nat.reduceLeDiff, beq_self_eq_true]
      refine Go.call0 hP (C2) rfl rfl rfl (by omega) (by simp [go_sem, tsI, slI, I, renL_ints, blk_ren, en_live, en_dead, ints_length, ints_nil, ints_one]) ?_
      refine Go.run hte hn 100 ?_; simp only [go_sem, Nat.reduceBEq, Nat.reduceLT, Nat.reduceAdd, Nat.reduceMul, Nat.reduceLeDiff]
      refine Go.retG hte hE hf [] rfl (by simp [go_sem, tsI, slI, I, renL_ints, blk_ren, en_live, en_dead, ints_length, ints_nil, ints_one]) rfl (by rw [h0]; rfl) trivial
theorem mul_len2 {a e : List Int} (ha : Dig a) (he : Dig e) (la : a.length ≤ 24) (le : e.length ≤ 24) : (dg (val a * val e)).length ≤ 48 := by
  refine dg_length 48 _ ?_
  have h1 : val a < 1000000000 ^ 24 := Nat.lt_of_lt_of_le (val_lt ha) (Nat.pow_le_pow_right (by decide) la)
  have h2 : val e < 1000000000 ^ 24 := Nat.lt_of_lt_of_le (val_lt he) (Nat.pow_le_pow_right (by decide) le)
  rw [show 1000000000 ^ 48 = 1000000000 ^ 24 * 1000000000 ^ 24 by rw [← Nat.pow_add]]
  exact Nat.mul_lt_mul'' h1 h2
def rc (s : Bool) (a d : List Int) (t : Bool) (b e : List Int) : Int := icmp (s && decide (0 < (dg (val a * val e)).length)) (t && decide (0 < (dg (val b * val d)).length)) (val a * val e) (val b * val d)
theorem rc_anti (s : Bool) (a d : List Int) (t : Bool) (b e : List Int) : rc t b e s a d = - rc s a d t b e := icmp_anti _ _ _ _
theorem l04Cmp_c (s : Bool) (a d : List Int) (t : Bool) (b f : List Int) (h : rok s a d = true) (k : rok t b f = true) : AC Try.prog 76 [ratT s a d, ratT t b f] [] (I (rc s a d t b f)) [] := by
  refine AC.intro (fn := Try.f76) (c := ?_) 26 Try.func76 (by rfl) (by kernel_rfl) (by kernel_rfl) (Nat.le_of_ble_eq_true rfl) fun e hP hf hn h0 hE => ?_
  have hte : TEok e.P te := hP ▸ teOk
  have hmx : e.P.follows .mixedOrders = true := hP ▸ mixedOk
  obtain ⟨r1, r2, r3, r4, r5, r6⟩ := rok_iff.mp h
  obtain ⟨q1, q2, q3, q4, q5, q6⟩ := rok_iff.mp k
  have Da := nok_Dig (bok_nok' r1)
  have Db := nok_Dig (bok_nok' q1)
  have Dd := nok_Dig r2
  have Df := nok_Dig q2
  have l1 := mul_len2 Da Df r4 q5
  have l2 := mul_len2 Db Dd q4 r5
  have C1 := l02Mul_c a f Da Df (by omega) (by omega)
  have C2 := l02Mul_c b d Db Dd (by omega) (by omega)
  have C3 := l03Make_c s (dg (val a * val f)) (by omega)
  have C4 := l03Make_c t (dg (val b * val d)) (by omega)
  have e1 : capped (dg (val a * val f)) = dg (val a * val f) := by unfold capped; rw [trim_dg, if_neg (by omega)]
  have e2 : capped (dg (val b * val d)) = dg (val b * val d) := by unfold capped; rw [trim_dg, if_neg (by omega)]
  rw [e1] at C3
  rw [e2] at C4
  have C5 := l03Cmp_c (s && decide (0 < (dg (val a * val f)).length)) (t && decide (0 < (dg (val b * val d)).length)) (val a * val f) (val b * val d) (by omega) (by omega)
  unfold rc at hE
  refine Go.run hte hn 100 ?_; simp only [go_sem, Nat.reduceBEq, Nat.reduceLT, Nat.reduceAdd, Nat.reduceMul, Nat.reduceLeDiff]
  refine Go.freeze (nm := 0) rfl ?_; simp only [go_sem, Nat.reduceBEq, Nat.reduceLT, Nat.reduceAdd, Nat.reduceMul, Nat.reduceLeDiff]
  refine Go.freeze (nm := 1) rfl ?_; simp only [go_sem, Nat.reduceBEq, Nat.reduceLT, Nat.reduceAdd, Nat.reduceMul, Nat.reduceLeDiff]
  refine Go.openK 19 [] hte hn hmx (by kernel_rfl) ?_
  simp only [go_sem, Nat.reduceBEq, Nat.reduceLT, Nat.reduceAdd, Nat.reduceMul, Nat.reduceLeDiff]
  refine ZC.call0 hP (C1) rfl rfl rfl (by omega) (by simp [go_sem, tsI, slI, I, renL_ints, blk_ren, en_live, en_dead, ints_length, ints_nil, ints_one]) rfl (by first | trivial | (show _ < _; simp)) ?_
  simp only [go_sem, Nat.reduceBEq, Nat.reduceLT, Nat.reduceAdd, Nat.reduceMul, Nat.reduceLeDiff]
  refine ZC.call0 hP (C3) rfl rfl rfl (by omega) (by simp [go_sem, tsI, slI, I, renL_ints, blk_ren, en_live, en_dead, ints_length, ints_nil, ints_one]) rfl (by first | trivial | (show _ < _; simp)) ?_
  simp only [go_sem, Nat.reduceBEq, Nat.reduceLT, Nat.reduceAdd, Nat.reduceMul, Nat.reduceLeDiff]
  refine ZC.call0 hP (C2) rfl rfl rfl (by omega) (by simp [go_sem, tsI, slI, I, renL_ints, blk_ren, en_live, en_dead, ints_length, ints_nil, ints_one]) rfl (by first | trivial | (show _ < _; simp)) ?_
  refine Go.run hte hn 100 ?_; simp only [go_sem, Nat.reduceBEq, Nat.reduceLT, Nat.reduceAdd, Nat.reduceMul, Nat.reduceLeDiff]
  refine Go.call0 hP (C4) rfl rfl rfl (by omega) (by simp [go_sem, tsI, slI, I, renL_ints, blk_ren, en_live, en_dead, ints_length, ints_nil, ints_one]) ?_
  refine Go.run hte hn 100 ?_; simp only [go_sem, Nat.reduceBEq, Nat.reduceLT, Nat.reduceAdd, Nat.reduceMul, Nat.reduceLeDiff]
  refine Go.callB 3 hP (C5) rfl rfl rfl (by omega) (by first | (simp only [go_sem, Nat.reduceBEq, Nat.reduceLT, Nat.reduceAdd, Nat.reduceMul, Nat.reduceLeDiff]; done) | simp [go_sem, tsI, slI, I, renL_ints, blk_ren, en_live, en_dead, ints_length, ints_nil, ints_one]) (by first | (simp only [go_sem, Nat.reduceBEq, Nat.reduceLT, Nat.reduceAdd, Nat.reduceMul, Nat.reduceLeDiff]; done) | simp [go_sem, tsI, slI, I, renL_ints, blk_ren, en_live, en_dead, ints_length, ints_nil, ints_one]) (by first | (simp only [go_sem, Nat.reduceBEq, Nat.reduceLT, Nat.reduceAdd, Nat.reduceMul, Nat.reduceLeDiff]; done) | simp [go_sem, tsI, slI, I, renL_ints, blk_ren, en_live, en_dead, ints_length, ints_nil, ints_one]) (by first | (simp only [go_sem, Nat.reduceBEq, Nat.reduceLT, Nat.reduceAdd, Nat.reduceMul, Nat.reduceLeDiff]; done) | simp [go_sem, tsI, slI, I, renL_ints, blk_ren, en_live, en_dead, ints_length, ints_nil, ints_one]) ?_
  refine Go.run hte hn 100 ?_; simp only [go_sem, Nat.reduceBEq, Nat.reduceLT, Nat.reduceAdd, Nat.reduceMul, Nat.reduceLeDiff]
  refine Go.retG hte hE hf [] rfl (by simp [go_sem, tsI, slI, I, renL_ints, blk_ren, en_live, en_dead, ints_length, ints_nil, ints_one]) rfl (by rw [h0]; rfl) trivial
theorem scaled_c (s : Bool) (a d f : List Int) (Da : Dig a) (Df : Dig f) (la : a.length ≤ 24) (lf : f.length ≤ 24) : AC Try.prog 108 [ratP s a d, tsI f] [] (bigT (s && decide (0 < (dg (val a * val f)).length)) (dg (val a * val f))) [] := by
  refine AC.intro (fn := Try.f108) (c := ?_) 18 Try.func108 (by rfl) (by kernel_rfl) (by kernel_rfl) (Nat.le_of_ble_eq_true rfl) fun e hP hf hn h0 hE => ?_
  have hte : TEok e.P te := hP ▸ teOk
  have hmx : e.P.follows .mixedOrders = true := hP ▸ mixedOk
  refine Go.run hte hn 100 ?_; simp only [go_sem, Nat.reduceBEq, Nat.reduceLT, Nat.reduceAdd, Nat.reduceMul, Nat.reduceLeDiff, ratP]
  refine Go.openK 12 [] hte hn hmx (by kernel_rfl) ?_
  simp only [go_sem, Nat.reduceBEq, Nat.reduceLT, Nat.reduceAdd, Nat.reduceMul, Nat.reduceLeDiff]
  refine ZC.call0 hP (times_c a f Da Df (by omega) (by omega)) rfl rfl rfl (by omega) (by simp [go_sem, tsI, slI, I, renL_ints, blk_ren, en_live, en_dead, ints_length, ints_nil, ints_one]) rfl (by first | trivial | (show _ < _; simp)) ?_
  refine Go.run hte hn 100 ?_; simp only [go_sem, Nat.reduceBEq, Nat.reduceLT, Nat.reduceAdd, Nat.reduceMul, Nat.reduceLeDiff]
  refine Go.freeze (nm := 1) rfl ?_; simp only [go_sem, Nat.reduceBEq, Nat.reduceLT, Nat.reduceAdd, Nat.reduceMul, Nat.reduceLeDiff]
  refine Go.call0 hP (signed_c s (dg (val a * val f))) rfl rfl rfl (by omega) (by simp [go_sem, tsI, slI, I, renL_ints, blk_ren, en_live, en_dead, ints_length, ints_nil, ints_one]) ?_
  refine Go.run hte hn 100 ?_; simp only [go_sem, Nat.reduceBEq, Nat.reduceLT, Nat.reduceAdd, Nat.reduceMul, Nat.reduceLeDiff]
  refine Go.retG hte hE hf [] rfl (by simp [go_sem, tsI, slI, I, renL_ints, blk_ren, en_live, en_dead, ints_length, ints_nil, ints_one]) rfl (by rw [h0]; rfl) trivial
theorem Cmp_c (s : Bool) (a d : List Int) (t : Bool) (b f : List Int) (h : rok s a d = true) (k : rok t b f = true) : AC Try.prog 77 [ratP s a d, ratP t b f] [] (I (rc s a d t b f)) [] := by
  refine AC.intro (fn := Try.f77) (c := ?_) 18 Try.func77 (by rfl) (by kernel_rfl) (by kernel_rfl) (Nat.le_of_ble_eq_true rfl) fun e hP hf hn h0 hE => ?_
  have hte : TEok e.P te := hP ▸ teOk
  have hmx : e.P.follows .mixedOrders = true := hP ▸ mixedOk
  obtain ⟨r1, r2, r3, r4, r5, r6⟩ := rok_iff.mp h
  obtain ⟨q1, q2, q3, q4, q5, q6⟩ := rok_iff.mp k
  have Da := nok_Dig (bok_nok' r1)
  have Db := nok_Dig (bok_nok' q1)
  have Dd := nok_Dig r2
  have Df := nok_Dig q2
  have l1 := mul_len2 Da Df r4 q5
  have l2 := mul_len2 Db Dd q4 r5
  unfold rc at hE
  refine Go.run hte hn 100 ?_; simp only [go_sem, Nat.reduceBEq, Nat.reduceLT, Nat.reduceAdd, Nat.reduceMul, Nat.reduceLeDiff, ratP]
  refine Go.openK 11 [] hte hn hmx (by kernel_rfl) ?_
  simp only [go_sem, Nat.reduceBEq, Nat.reduceLT, Nat.reduceAdd, Nat.reduceMul, Nat.reduceLeDiff]
  refine ZC.call0 hP (by have := scaled_c s a d f Da Df r4 q5; unfold ratP at this; exact this) rfl rfl rfl (by omega) (by simp [go_sem, tsI, slI, I, renL_ints, blk_ren, en_live, en_dead, ints_length, ints_nil, ints_one]) rfl (by first | trivial | (show _ < _; simp)) ?_
  refine Go.run hte hn 100 ?_; simp only [go_sem, Nat.reduceBEq, Nat.reduceLT, Nat.reduceAdd, Nat.reduceMul, Nat.reduceLeDiff]
  refine Go.call0 hP (by have := scaled_c t b f d Db Dd q4 r5; unfold ratP at this; exact this) rfl rfl rfl (by omega) (by simp [go_sem, tsI, slI, I, renL_ints, blk_ren, en_live, en_dead, ints_length, ints_nil, ints_one]) ?_
  refine Go.run hte hn 100 ?_; simp only [go_sem, Nat.reduceBEq, Nat.reduceLT, Nat.reduceAdd, Nat.reduceMul, Nat.reduceLeDiff]
  refine Go.call0 hP (bcompare_c (s && decide (0 < (dg (val a * val f)).length)) (t && decide (0 < (dg (val b * val d)).length)) (val a * val f) (val b * val d) (by omega) (by omega)) rfl rfl rfl (by omega) (by simp [go_sem, tsI, slI, I, renL_ints, blk_ren, en_live, en_dead, ints_length, ints_nil, ints_one]) ?_
  refine Go.run hte hn 100 ?_; simp only [go_sem, Nat.reduceBEq, Nat.reduceLT, Nat.reduceAdd, Nat.reduceMul, Nat.reduceLeDiff]
  refine Go.retG hte hE hf [] rfl (by simp [go_sem, tsI, slI, I, renL_ints, blk_ren, en_live, en_dead, ints_length, ints_nil, ints_one]) rfl (by rw [h0]; rfl) trivial

end Go.Proofs.Ytdcbedkohbmnnaa.Ab
