/- Contracts of the given program's functions and of the reference's (walks). -/
import Derived.Test.YtjnlpomfjlpikaaDoorAbT
import Derived.Test.YtjnlpomfjlpikaaDoorAbP
import Derived.Test.YtjnlpomfjlpikaaDoorAbQ
import Derived.Test.YtjnlpomfjlpikaaDoorAbS
import Derived.Test.YtjnlpomfjlpikaaDoorAbI
import Derived.Test.YtjnlpomfjlpikaaDoorW1
import Derived.Test.YtjnlpomfjlpikaaDoorW2
import Derived.Test.YtjnlpomfjlpikaaDoorW4
import Derived.Test.YtjnlpomfjlpikaaDoorW8
import Derived.Test.YtjnlpomfjlpikaaDoorW9
import Derived.Test.YtjnlpomfjlpikaaDoorT1
import Derived.Test.YtjnlpomfjlpikaaDoorW54
import Derived.Test.YtjnlpomfjlpikaaDoorW60
import Derived.Test.YtjnlpomfjlpikaaDoorW61
import Derived.Test.YtjnlpomfjlpikaaDoorW62
import Derived.Test.YtjnlpomfjlpikaaDoorW63
import Derived.Test.YtjnlpomfjlpikaaDoorW64
import Derived.Test.YtjnlpomfjlpikaaDoorW65
import Derived.Test.YtjnlpomfjlpikaaDoorW66
import Derived.Test.YtjnlpomfjlpikaaDoorW72
import Derived.Test.YtjnlpomfjlpikaaDoorW73
import Derived.Test.YtjnlpomfjlpikaaDoorW74
import Derived.Test.YtjnlpomfjlpikaaDoorW75
import Derived.Test.YtjnlpomfjlpikaaDoorW76
import Derived.Test.YtjnlpomfjlpikaaDoorW77
import Derived.Shelf.Small.Wraps
set_option linter.unusedVariables false
set_option linter.unusedSimpArgs false
set_option maxRecDepth 10000
namespace Go.Proofs.YtjnlpomfjlpikaaDoor.Ab
open Go Go.RowKit
attribute [local go_sem] q_run q_seq q_skip q_block q_exit q_cond q_region q_nil q_op q_blk q_loop q_ret q_open q_inv q_fin q_go q_h0 q_h1 q_gskip q_stepC q_brt q_brf q_stepX q_sskip q_sskip0 q_val q_need q_new q_newc q_sv q_sto q_c1 q_c2 q_c3 q_c4 q_c5 q_c6 q_c7 q_c8 q_c9 q_c10 q_c11 q_c12 q_c13 q_c14 q_c15 q_c16 q_c17 q_c18 q_c19 q_c20 q_c21 q_c22 q_g0 q_g1 q_gC q_gD q_gE q_gB1 q_gB2 q_gB3 q_gB4 q_ev1 q_ev2 q_ev3 q_evo0 q_evo1 q_rv q_rva q_o1 q_o2 q_pk1 q_pk2 q_ld1p q_ld1e q_ld1t q_ldnp q_ldne q_ldnt q_sub0 q_sub1 q_subc q_stS q_stT q_box q_bldr q_bld q_fill0 q_fill1 q_fillB q_bsr q_bsl q_fap q_fat q_iasl q_iats q_lnsl q_lnts q_lnv q_lnS q_exA q_mkB q_lo0 q_lo1 q_hi0 q_hi1 q_slcA q_slcU1 q_slcU2 q_slcT1 q_slcT2 q_slsA q_slsU q_slsT q_apA q_apC q_srcE1 q_srcE2 q_srcE3 q_srcA1 q_srcB q_srcA2 q_srcA3 q_fnA q_nc1 q_nc2 q_bin q_bin2 q_bin3 q_bin4 q_bin5 q_bin6 q_bin7 q_bin8 q_bin9 q_bin10 q_i1 q_i2 q_i3 q_i4 q_i5 q_i6 q_i7 q_i8 q_i9 q_i10 q_i11 q_s1 q_s2 q_s3 q_u1 q_u2 q_min q_max q_ce1 q_ce2 q_ce3 q_ce4 q_ce5 q_ce6 q_ce7 q_ce8 q_ce9 q_ce10 q_ce11 q_on2 q_on3 q_on4 q_on5 q_on6 q_on7 q_on8 q_on9 q_on10 q_on11 q_enr1 q_gEt q_zr0 q_zr1 q_zgs q_zgg q_zk1 q_zk2 q_zd q_zv1 q_zv2 q_zv3 q_zp1 q_zp2 q_zf q_zs1 q_zs2 q_za q_za1 q_fi0 q_fi1 q_ln0 q_ln1 q_h01 q_h02 q_h03 q_h04 q_h05 q_h06 q_h07 q_h08 q_h09 q_h10 q_h11 q_h12 q_h13 q_h14 q_h15 q_h16 q_h17 q_h18 q_h19 q_h20 q_h21 q_h22 q_h23 q_h24 q_al q_b0 q_rs1 q_rs2 q_rs3 q_rs4 q_rs5 q_rs6 q_rs7 q_rs8 q_ro1 q_ro2 q_ro3 q_ro4 q_ro5 q_ro6 q_ro7 q_ro8 q_ixS q_cvS1 q_cvN q_u8s0 q_u8s1 q_u8s2 q_strS q_h25 q_shr q_i12 q_i13 q_bn q_bn0 q_bn1 q_zbn q_zn cond_true cond_false decide_true decide_false List.length_cons List.length_nil List.nil_append List.cons_append true_and and_true List.toList_toArray Option.map_some Nat.zero_add Nat.add_zero Bool.and_self Bool.and_true Bool.true_and Bool.and_false Bool.false_and Bool.not_true Bool.not_false FitF FitL LendL wb keys nodupB firstOk tupA op_move op_assign op_pick op_un op_box op_nc op_mf op_ex op_min op_max get put del nth evs evp sets setN ones popTo args0 AV.ren AV.renL rho List.take_succ_cons List.take_zero List.drop_succ_cons List.drop_zero Option.isNone_none Option.isNone_some o_al134 o_al29 o_al75 o_ap22 o_ap34 o_ap41 o_bi121 o_bi2 o_bi21 o_bi3 o_bi4 o_bi5 o_bi73 o_bi79 o_bi9 o_bi96 o_bs22_0 o_bs22_1 o_bs34_1 o_bs41_0 o_bs41_1 o_bs41_5 o_bu120 o_bu134 o_bu29 o_bu78 o_cn121 o_cn2 o_cn21 o_cn3 o_cn5 o_cn79 o_cn96 o_cv121_5 o_cv121_79 o_cv121_96 o_cv2_96 o_cv34_9 o_cv3_5 o_cv3_79 o_cv3_96 o_cv5_121 o_cv5_21 o_cv5_3 o_cv5_96 o_cv79_121 o_cv79_3 o_cv96_121 o_cv96_2 o_cv96_5 o_fa134_0 o_fa134_1 o_fa29_0 o_fa29_1 o_fa51_0 o_fa51_1 o_fa75_0 o_fa75_1 o_fa78_0 o_fa78_1 o_fa78_2 o_ia22 o_ia34 o_ia41 o_ib4 o_ip73 o_ip90 o_ix9 o_ld134 o_ld22 o_ld29 o_ld3 o_ld34 o_ld4 o_ld5 o_ld51 o_ld73 o_ld9 o_ld96 o_ln22 o_ln34 o_ln41 o_ln9 o_mk22 o_mk34 o_mk41 o_sl22 o_sl34 o_sl41 o_sl9 o_st134 o_st22 o_st29 o_st3 o_st34 o_st4 o_st5 o_st73 o_st9 o_zb22 o_zb34 o_zb41 I tsI slI renL_ints blk_ren en_live en_dead List.set_cons_zero List.set_cons_succ List.map_cons List.map_nil List.append_nil frzF frzS AV.frz AV.frzL frzL_ints ints_all ints_all' ints_take1 ints_mk ints_mk1 mk_length res_ints resOk_ints plain_ints plainA plainL plainE plainS List.all_cons List.all_nil bigO bigT ratO ratT strT slS renL_strs frzL_strs res_strs resOk_strs plain_strs strs_all strs_all' strs_length
/-! ### ParseBigInt -/
open Go.Shelf
def laysCut_ren : Go.Shelf.Ren := ⟨fun | 103 => 48 | 210 => 74 | 206 => 89 | n => n, fun | 9 => 9 | 4 => 4 | 24 => 60 | 3 => 3 | n => n, fun | n => n⟩
theorem laysCut : Go.Proofs.Lays.n103 Tryd.prog laysCut_ren := {
  mixed := by kernel_rfl
  f103 := Tryd.func48.trans (congrArg some (by kernel_rfl))
  f206 := Tryd.func89.trans (congrArg some (by kernel_rfl))
  f210 := Tryd.func74.trans (congrArg some (by kernel_rfl))
  t3 := Tryd.underlying3
  a3 := Tryd.isAgg3
  z3 := Tryd.sizeOf3
  v3 := Tryd.zeroValue3
  t4 := Tryd.underlying4
  a4 := Tryd.isAgg4
  z4 := Tryd.sizeOf4
  v4 := Tryd.zeroValue4
  t9 := Tryd.underlying9
  a9 := Tryd.isAgg9
  z9 := Tryd.sizeOf9
  v9 := Tryd.zeroValue9
  t24 := Tryd.underlying60
  a24 := Tryd.isAgg60
  z24 := Tryd.sizeOf60
  v24 := Tryd.zeroValue60 }
def tlS (s : ByteArray) : ByteArray := if ngL s.data.toList = true then s.extract 1 s.size else s
theorem tlS_list (s : ByteArray) : (tlS s).data.toList = tlL s.data.toList := by
  unfold tlS tlL
  split
  · rw [ext_list, size_eq, List.take_of_length_le (by rw [List.length_drop]; omega)]
  · rfl
theorem tlS_size (s : ByteArray) : (tlS s).size ≤ s.size := by
  rw [size_eq, tlS_list, size_eq]
  unfold tlL
  split
  · rw [List.length_drop]; omega
  · exact Nat.le_refl _
theorem cut_ng (l : List UInt8) : Lib.hasPrefix l [45] = ngL l := by
  unfold Lib.hasPrefix ngL
  cases l with
  | nil => rfl
  | cons c r =>
    simp only [List.isPrefixOf, Bool.and_true]
    by_cases h : c = 45
    · subst h; rfl
    · have h2 : ¬ c.toNat = 45 := fun e => h (UInt8.toNat_inj.1 e)
      rw [decide_eq_false h2]
      exact beq_eq_false_iff_ne.2 (Ne.symm h)
theorem cut_tl (s : ByteArray) : (⟨(Lib.trimPrefix s.data.toList [45]).toArray⟩ : ByteArray) = tlS s := by
  refine WideShapes.bytes_inj ?_
  rw [tlS_list]
  unfold Lib.trimPrefix tlL
  rw [cut_ng]
  simp
theorem strings_CutPrefix_c (s : ByteArray) : AC Tryd.prog 48 [.v (.string s), .v (.string ⟨#[45]⟩)] [] (.tup [.v (.string (tlS s)), .v (.bool (ngL s.data.toList))]) [] := by
  refine ⟨⟨_, Tryd.func48, by kernel_rfl, by kernel_rfl⟩, fun ι S w us hs ha => ?_⟩
  simp only [VRe, VR] at ha
  obtain ⟨u, r, rfl, rfl, v, r', rfl, rfl, rfl⟩ := ha
  refine Calls.mono (Any.strings_CutPrefix laysCut s ⟨#[45]⟩ w) ?_
  rintro o w' ⟨rfl, rfl⟩
  have e1 := cut_tl s
  have e2 := cut_ng s.data.toList
  refine ⟨_, ι, S, rfl, ?_, hs, Ext.refl⟩
  show VR ι S _ _ (.tuple #[.string ⟨(Lib.trimPrefix s.data.toList [45]).toArray⟩, .bool (Lib.hasPrefix s.data.toList [45])])
  rw [e1, e2]
  exact vr_pair _ _
/-- What both answer. -/
def pbB (s : ByteArray) : Bool := pnB (tlS s) && (!ngL s.data.toList || decide (0 < (pnL (tlS s)).length))
def pbN (s : ByteArray) : Bool := pbB s && ngL s.data.toList
def pbL (s : ByteArray) : List Int := if pbB s = true then pnL (tlS s) else []
theorem pnL_nok {s : ByteArray} (h : pnB s = true) : nok (pnL s) = true := by
  unfold pnL
  rw [if_pos h]
  unfold pnB at h
  simp only [Bool.and_eq_true, decide_eq_true_eq] at h
  obtain ⟨⟨h1, h2⟩, _⟩ := h
  obtain ⟨hd, hne⟩ := (isDig_iff s).1 h1
  obtain ⟨g1, g2, g3⟩ := cw_facts hd s.size (Nat.le_of_eq (size_eq s))
  have h3 := trim_le (cw s.data.toList s.size)
  rw [trim_dg_val g1, g2, List.take_of_length_le (Nat.le_of_eq (size_eq s).symm)] at h3
  exact nok_iff.mpr ⟨by omega, dg_Dig _, dg_last _⟩
theorem spec_ParseBigInt_c (s : ByteArray) (hs : s.size ≤ 1048576) : AC Tryd.prog 16 [.v (.string s)] [] (.tup [bigT (pbN s) (pbL s), .v (.bool (pbB s))]) [] := by
  have hts := tlS_size s
  have CP := spec_ParseNat_c (tlS s) (by omega)
  have hsz : s.size = s.data.toList.length := size_eq s
  have t0 : Int.toNat 0 = 0 := rfl
  have t1 : Int.toNat 1 = 1 := rfl
  refine AC.intro (fn := Tryd.f16) (c := ?_) 39 Tryd.func16 (by rfl) (by kernel_rfl) (by kernel_rfl) (Nat.le_of_ble_eq_true rfl) fun e hP hf hn h0 hE => ?_
  have hte : TEok e.P te := hP ▸ teOk
  have hmx : e.P.follows .mixedOrders = true := hP ▸ mixedOk
  by_cases hnl : s.data.toList = []
  · have d1 : decide ((0 : Int) < (s.size : Int)) = false := decide_eq_false (by rw [hsz, hnl]; simp)
    have hng : ngL s.data.toList = false := by rw [hnl]; rfl
    have htl : tlS s = s := by unfold tlS; rw [hng, if_neg (by decide)]
    have hB : pbB s = pnB (tlS s) := by unfold pbB; rw [hng]; simp
    have hN : pbN s = false := by unfold pbN; rw [hng, Bool.and_false]
    have hL : pbL s = if pnB (tlS s) = true then pnL (tlS s) else [] := by unfold pbL; rw [hB]
    rw [htl] at CP hB hL
    refine Go.run hte hn 100 ?_; simp only [go_sem, Nat.reduceBEq, Nat.reduceLT, Nat.reduceAdd, Nat.reduceMul, Nat.reduceLeDiff, d1]
    cases hb : pnB s <;> rw [hb] at CP hB
    · rw [hb, if_neg (by decide)] at hL
      rw [hN, hL, hB] at hE
      generalize pnL s = l at CP
      refine Go.call0 hP (CP) rfl rfl rfl (by omega) (by simp [go_sem, tsI, slI, I, renL_ints, blk_ren, en_live, en_dead, ints_length, ints_nil, ints_one]) ?_
      refine Go.run hte hn 100 ?_; simp only [go_sem, Nat.reduceBEq, Nat.reduceLT, Nat.reduceAdd, Nat.reduceMul, Nat.reduceLeDiff]
      refine Go.nilcellT 0 1 rfl rfl ?_
      simp only [go_sem, Nat.reduceBEq, Nat.reduceLT, Nat.reduceAdd, Nat.reduceMul, Nat.reduceLeDiff]
      refine Go.retG hte hE hf [] rfl (by simp [go_sem, tsI, slI, I, renL_ints, blk_ren, en_live, en_dead, ints_length, ints_nil, ints_one]) rfl (by rw [h0]; rfl) trivial
    · rw [hb, if_pos rfl] at hL
      rw [hN, hL, hB] at hE
      generalize pnL s = l at CP hE
      refine Go.call0 hP (CP) rfl rfl rfl (by omega) (by simp [go_sem, tsI, slI, I, renL_ints, blk_ren, en_live, en_dead, ints_length, ints_nil, ints_one]) ?_
      refine Go.run hte hn 100 ?_; simp only [go_sem, Nat.reduceBEq, Nat.reduceLT, Nat.reduceAdd, Nat.reduceMul, Nat.reduceLeDiff]
      refine Go.retG hte hE hf [] rfl (by simp [go_sem, tsI, slI, I, renL_ints, blk_ren, en_live, en_dead, ints_length, ints_nil, ints_one]) rfl (by rw [h0]; rfl) trivial
  obtain ⟨c0, r0, hl⟩ := List.exists_cons_of_ne_nil hnl
  have hp : 1 ≤ s.size := by rw [hsz, hl]; simp
  have d1 : decide ((0 : Int) < (s.size : Int)) = true := decide_eq_true (by omega)
  have hb0 : byteAt s 0 = (c0.toNat : Int) := by unfold byteAt; rw [hl]; rfl
  have d2 : decide ((c0.toNat : Int) = 45) = ngL s.data.toList := by rw [hl]; exact decide_eq_decide.2 (by omega)
  cases hng : ngL s.data.toList <;> rw [hng] at d2
  · have htl : tlS s = s := by unfold tlS; rw [hng, if_neg (by decide)]
    have hB : pbB s = pnB (tlS s) := by unfold pbB; rw [hng]; simp
    have hN : pbN s = false := by unfold pbN; rw [hng, Bool.and_false]
    have hL : pbL s = if pnB (tlS s) = true then pnL (tlS s) else [] := by unfold pbL; rw [hB]
    rw [htl] at CP hB hL
    refine Go.run hte hn 100 ?_; simp only [go_sem, Nat.reduceBEq, Nat.reduceLT, Nat.reduceAdd, Nat.reduceMul, Nat.reduceLeDiff, d1, t0, hb0, d2]
    refine ⟨⟨by omega, by omega⟩, ?_⟩
    cases hb : pnB s <;> rw [hb] at CP hB
    · rw [hb, if_neg (by decide)] at hL
      rw [hN, hL, hB] at hE
      generalize pnL s = l at CP
      refine Go.call0 hP (CP) rfl rfl rfl (by omega) (by simp [go_sem, tsI, slI, I, renL_ints, blk_ren, en_live, en_dead, ints_length, ints_nil, ints_one]) ?_
      refine Go.run hte hn 100 ?_; simp only [go_sem, Nat.reduceBEq, Nat.reduceLT, Nat.reduceAdd, Nat.reduceMul, Nat.reduceLeDiff]
      refine Go.nilcellT 0 1 rfl rfl ?_
      simp only [go_sem, Nat.reduceBEq, Nat.reduceLT, Nat.reduceAdd, Nat.reduceMul, Nat.reduceLeDiff]
      refine Go.retG hte hE hf [] rfl (by simp [go_sem, tsI, slI, I, renL_ints, blk_ren, en_live, en_dead, ints_length, ints_nil, ints_one]) rfl (by rw [h0]; rfl) trivial
    · rw [hb, if_pos rfl] at hL
      rw [hN, hL, hB] at hE
      generalize pnL s = l at CP hE
      refine Go.call0 hP (CP) rfl rfl rfl (by omega) (by simp [go_sem, tsI, slI, I, renL_ints, blk_ren, en_live, en_dead, ints_length, ints_nil, ints_one]) ?_
      refine Go.run hte hn 100 ?_; simp only [go_sem, Nat.reduceBEq, Nat.reduceLT, Nat.reduceAdd, Nat.reduceMul, Nat.reduceLeDiff]
      refine Go.retG hte hE hf [] rfl (by simp [go_sem, tsI, slI, I, renL_ints, blk_ren, en_live, en_dead, ints_length, ints_nil, ints_one]) rfl (by rw [h0]; rfl) trivial
  · have htl : s.extract 1 s.size = tlS s := by unfold tlS; rw [hng, if_pos rfl]
    have hB : pbB s = (pnB (tlS s) && decide (0 < (pnL (tlS s)).length)) := by unfold pbB; rw [hng]; simp
    have hN : pbN s = pbB s := by unfold pbN; rw [hng, Bool.and_true]
    have hL : pbL s = if pbB s = true then pnL (tlS s) else [] := rfl
    refine Go.run hte hn 100 ?_; simp only [go_sem, Nat.reduceBEq, Nat.reduceLT, Nat.reduceAdd, Nat.reduceMul, Nat.reduceLeDiff, d1, t0, t1, Int.toNat_natCast, hb0, d2, htl]
    refine ⟨⟨by omega, by omega⟩, ⟨by omega, by omega, by omega⟩, ?_⟩
    cases hb : pnB (tlS s) <;> rw [hb] at CP hB
    · rw [Bool.false_and] at hB
      rw [hB, if_neg (by decide)] at hL
      rw [hN, hL, hB] at hE
      generalize pnL (tlS s) = l at CP
      refine Go.call0 hP (CP) rfl rfl rfl (by omega) (by simp [go_sem, tsI, slI, I, renL_ints, blk_ren, en_live, en_dead, ints_length, ints_nil, ints_one]) ?_
      refine Go.run hte hn 100 ?_; simp only [go_sem, Nat.reduceBEq, Nat.reduceLT, Nat.reduceAdd, Nat.reduceMul, Nat.reduceLeDiff]
      refine Go.nilcellT 0 1 rfl rfl ?_
      simp only [go_sem, Nat.reduceBEq, Nat.reduceLT, Nat.reduceAdd, Nat.reduceMul, Nat.reduceLeDiff]
      refine Go.retG hte hE hf [] rfl (by simp [go_sem, tsI, slI, I, renL_ints, blk_ren, en_live, en_dead, ints_length, ints_nil, ints_one]) rfl (by rw [h0]; rfl) trivial
    · rw [Bool.true_and] at hB
      by_cases hl0 : (pnL (tlS s)).length = 0
      · rw [decide_eq_false (by omega)] at hB
        rw [hB, if_neg (by decide)] at hL
        rw [hN, hL, hB] at hE
        generalize pnL (tlS s) = l at CP hl0
        have d5 : decide ((l.length : Int) = 0) = true := decide_eq_true (by omega)
        refine Go.call0 hP (CP) rfl rfl rfl (by omega) (by simp [go_sem, tsI, slI, I, renL_ints, blk_ren, en_live, en_dead, ints_length, ints_nil, ints_one]) ?_
        refine Go.run hte hn 100 ?_; simp only [go_sem, Nat.reduceBEq, Nat.reduceLT, Nat.reduceAdd, Nat.reduceMul, Nat.reduceLeDiff, d5]
        refine Go.nilcellT 0 1 rfl rfl ?_
        simp only [go_sem, Nat.reduceBEq, Nat.reduceLT, Nat.reduceAdd, Nat.reduceMul, Nat.reduceLeDiff]
        refine Go.retG hte hE hf [] rfl (by simp [go_sem, tsI, slI, I, renL_ints, blk_ren, en_live, en_dead, ints_length, ints_nil, ints_one]) rfl (by rw [h0]; rfl) trivial
      · rw [decide_eq_true (by omega)] at hB
        rw [hB, if_pos rfl] at hL
        rw [hN, hL, hB] at hE
        generalize pnL (tlS s) = l at CP hl0 hE
        have d5 : decide ((l.length : Int) = 0) = false := decide_eq_false (by omega)
        refine Go.call0 hP (CP) rfl rfl rfl (by omega) (by simp [go_sem, tsI, slI, I, renL_ints, blk_ren, en_live, en_dead, ints_length, ints_nil, ints_one]) ?_
        refine Go.run hte hn 100 ?_; simp only [go_sem, Nat.reduceBEq, Nat.reduceLT, Nat.reduceAdd, Nat.reduceMul, Nat.reduceLeDiff, d5]
        refine Go.retG hte hE hf [] rfl (by simp [go_sem, tsI, slI, I, renL_ints, blk_ren, en_live, en_dead, ints_length, ints_nil, ints_one]) rfl (by rw [h0]; rfl) trivial

end Go.Proofs.YtjnlpomfjlpikaaDoor.Ab
