/- Contracts of the given program's functions and of the reference's (walks). -/
import Derived.Test.YtjnlpomfjlpikaaDoorAbT
import Derived.Test.YtjnlpomfjlpikaaDoorAbP
import Derived.Test.YtjnlpomfjlpikaaDoorW1
import Derived.Test.YtjnlpomfjlpikaaDoorW2
set_option linter.unusedVariables false
set_option linter.unusedSimpArgs false
set_option maxRecDepth 10000
namespace Go.Proofs.YtjnlpomfjlpikaaDoor.Ab
open Go Go.RowKit
attribute [local go_sem] q_run q_seq q_skip q_block q_exit q_cond q_region q_nil q_op q_blk q_loop q_ret q_open q_inv q_fin q_go q_h0 q_h1 q_gskip q_stepC q_brt q_brf q_stepX q_sskip q_sskip0 q_val q_need q_new q_newc q_sv q_sto q_c1 q_c2 q_c3 q_c4 q_c5 q_c6 q_c7 q_c8 q_c9 q_c10 q_c11 q_c12 q_c13 q_c14 q_c15 q_c16 q_c17 q_c18 q_c19 q_c20 q_c21 q_c22 q_g0 q_g1 q_gC q_gD q_gE q_gB1 q_gB2 q_gB3 q_gB4 q_ev1 q_ev2 q_ev3 q_evo0 q_evo1 q_rv q_rva q_o1 q_o2 q_pk1 q_pk2 q_ld1p q_ld1e q_ld1t q_ldnp q_ldne q_ldnt q_sub0 q_sub1 q_subc q_stS q_stT q_box q_bldr q_bld q_fill0 q_fill1 q_fillB q_bsr q_bsl q_fap q_fat q_iasl q_iats q_lnsl q_lnts q_lnv q_lnS q_exA q_mkB q_lo0 q_lo1 q_hi0 q_hi1 q_slcA q_slcU1 q_slcU2 q_slcT1 q_slcT2 q_slsA q_slsU q_slsT q_apA q_apC q_srcE1 q_srcE2 q_srcE3 q_srcA1 q_srcB q_srcA2 q_srcA3 q_fnA q_nc1 q_nc2 q_bin q_bin2 q_bin3 q_bin4 q_bin5 q_bin6 q_bin7 q_bin8 q_bin9 q_bin10 q_i1 q_i2 q_i3 q_i4 q_i5 q_i6 q_i7 q_i8 q_i9 q_i10 q_i11 q_s1 q_s2 q_s3 q_u1 q_u2 q_min q_max q_ce1 q_ce2 q_ce3 q_ce4 q_ce5 q_ce6 q_ce7 q_ce8 q_ce9 q_ce10 q_ce11 q_on2 q_on3 q_on4 q_on5 q_on6 q_on7 q_on8 q_on9 q_on10 q_on11 q_enr1 q_gEt q_zr0 q_zr1 q_zgs q_zgg q_zk1 q_zk2 q_zd q_zv1 q_zv2 q_zv3 q_zp1 q_zp2 q_zf q_zs1 q_zs2 q_za q_za1 q_fi0 q_fi1 q_ln0 q_ln1 q_h01 q_h02 q_h03 q_h04 q_h05 q_h06 q_h07 q_h08 q_h09 q_h10 q_h11 q_h12 q_h13 q_h14 q_h15 q_h16 q_h17 q_h18 q_h19 q_h20 q_h21 q_h22 q_h23 q_h24 q_al q_b0 q_rs1 q_rs2 q_rs3 q_rs4 q_rs5 q_rs6 q_rs7 q_rs8 q_ro1 q_ro2 q_ro3 q_ro4 q_ro5 q_ro6 q_ro7 q_ro8 q_ixS q_cvS1 q_cvN q_u8s0 q_u8s1 q_u8s2 q_strS q_h25 q_bn q_bn0 q_bn1 q_zbn q_zn cond_true cond_false decide_true decide_false List.length_cons List.length_nil List.nil_append List.cons_append true_and and_true List.toList_toArray Option.map_some Nat.zero_add Nat.add_zero Bool.and_self Bool.and_true Bool.true_and Bool.and_false Bool.false_and Bool.not_true Bool.not_false FitF FitL LendL wb keys nodupB firstOk tupA op_move op_assign op_pick op_un op_box op_nc op_mf op_ex op_min op_max get put del nth evs evp sets setN ones popTo args0 AV.ren AV.renL rho List.take_succ_cons List.take_zero List.drop_succ_cons List.drop_zero Option.isNone_none Option.isNone_some o_al134 o_al29 o_al75 o_ap22 o_ap34 o_ap41 o_bi121 o_bi2 o_bi21 o_bi3 o_bi4 o_bi5 o_bi73 o_bi79 o_bi9 o_bi96 o_bs22_0 o_bs22_1 o_bs34_1 o_bs41_0 o_bs41_1 o_bs41_5 o_bu120 o_bu134 o_bu29 o_bu78 o_cn121 o_cn2 o_cn21 o_cn3 o_cn5 o_cn79 o_cn96 o_cv121_5 o_cv121_79 o_cv121_96 o_cv2_96 o_cv34_9 o_cv3_5 o_cv3_79 o_cv3_96 o_cv5_121 o_cv5_21 o_cv5_3 o_cv5_96 o_cv79_121 o_cv79_3 o_cv96_121 o_cv96_2 o_cv96_5 o_fa134_0 o_fa134_1 o_fa29_0 o_fa29_1 o_fa51_0 o_fa51_1 o_fa75_0 o_fa75_1 o_fa78_0 o_fa78_1 o_fa78_2 o_ia22 o_ia34 o_ia41 o_ib4 o_ip73 o_ip90 o_ix9 o_ld134 o_ld22 o_ld29 o_ld3 o_ld34 o_ld4 o_ld5 o_ld51 o_ld73 o_ld9 o_ld96 o_ln22 o_ln34 o_ln41 o_ln9 o_mk22 o_mk34 o_mk41 o_sl22 o_sl34 o_sl41 o_sl9 o_st134 o_st22 o_st29 o_st3 o_st34 o_st4 o_st5 o_st73 o_st9 o_zb22 o_zb34 o_zb41 I tsI slI renL_ints blk_ren en_live en_dead List.set_cons_zero List.set_cons_succ List.map_cons List.map_nil List.append_nil frzF frzS AV.frz AV.frzL frzL_ints ints_all ints_all' ints_take1 ints_mk ints_mk1 mk_length res_ints resOk_ints plain_ints plainA plainL plainE plainS List.all_cons List.all_nil bigO bigT ratO ratT
/-! ### Is it a number? -/
theorem l01In_c (x a b : Int) : AC Tryd.prog 79 [I x, I a, I b] [] (.v (.bool (decide (x ≥ a) && decide (x ≤ b)))) [] := by
  refine AC.intro (fn := Tryd.f79) (c := ?_) 15 Tryd.func79 (by rfl) (by kernel_rfl) (by kernel_rfl) (Nat.le_of_ble_eq_true rfl) fun e hP hf hn h0 hE => ?_
  have hte : TEok e.P te := hP ▸ teOk
  have hmx : e.P.follows .mixedOrders = true := hP ▸ mixedOk
  refine Go.run hte hn 100 ?_; simp only [go_sem, Nat.reduceBEq, Nat.reduceLT, Nat.reduceAdd, Nat.reduceMul, Nat.reduceLeDiff]
  refine gd_split (fun hz => ?_) (fun hz => ?_)
  all_goals
    rw [hz] at hE
    simp only [go_sem, Nat.reduceBEq, Nat.reduceLT, Nat.reduceAdd, Nat.reduceMul, Nat.reduceLeDiff, hz]
    refine Go.retG hte hE hf [] rfl (by simp [go_sem, tsI, slI, I, renL_ints, blk_ren, en_live, en_dead, ints_length, ints_nil, ints_one]) rfl (by rw [h0]; rfl) trivial
def ends0 (a : List Int) : Bool := decide (a.length ≤ 60) && (a.isEmpty || !decide (rd a ((a.length : Int) - 1) = 0))
theorem nok_eq (a : List Int) : nok a = (ends0 a && a.all inB) := rfl
theorem all_drop (a : List Int) (i : Nat) (h : i < a.length) : (a.drop i).all inB = (inB (rd a (i : Int)) && (a.drop (i + 1)).all inB) := by rw [drop_rd a i h, List.all_cons]
theorem spec_NatOk_c (a : List Int) (ha : a.length ≤ 1152921504606846976) : AC Tryd.prog 63 [tsI a] [] (.v (.bool (nok a))) [] := by
  refine AC.intro (fn := Tryd.f63) (c := ?_) 32 Tryd.func63 (by rfl) (by kernel_rfl) (by kernel_rfl) (Nat.le_of_ble_eq_true rfl) fun e hP hf hn h0 hE => ?_
  have hte : TEok e.P te := hP ▸ teOk
  have hmx : e.P.follows .mixedOrders = true := hP ▸ mixedOk
  refine Go.run hte hn 100 ?_; simp only [go_sem, Nat.reduceBEq, Nat.reduceLT, Nat.reduceAdd, Nat.reduceMul, Nat.reduceLeDiff]
  refine Go.enter (fun i : Nat => i ≤ a.length ∧ (a.drop i).all inB = a.all inB) (fun i => a.length - i) (fun i => [(0, tsI a), (5, tsI a), (6, I a.length), (7, I i)]) (fun i => []) 0 [] ⟨Nat.zero_le _, rfl⟩ rfl rfl (by rw [h0]; rfl) (by simp [go_sem, tsI, slI, I, renL_ints, blk_ren, en_live, en_dead, ints_length, ints_nil, ints_one]) trivial ?_
  rintro i ⟨hi, hv⟩
  refine Go.run hte hn 100 ?_; simp only [go_sem, Nat.reduceBEq, Nat.reduceLT, Nat.reduceAdd, Nat.reduceMul, Nat.reduceLeDiff]
  refine Br.mk (fun hz => ?_) (fun hz => ?_)
  · have hlt : i < a.length := by have := of_decide_eq_true hz; omega
    have e1 : IntKind.i64.wrap ((i : Int) + 1) = ((i + 1 : Nat) : Int) := by rw [W64] <;> omega
    have c0 : (0 ≤ (i : Int)) = True := eq_true (by omega)
    have c1 : ((i : Int) < (a.length : Int)) = True := eq_true (by omega)
    have c2 : (0 < (ints a).length) = True := eq_true (by rw [ints_length]; omega)
    simp only [go_sem, Nat.reduceBEq, Nat.reduceLT, Nat.reduceAdd, Nat.reduceMul, Nat.reduceLeDiff, c0, c1, c2, Int.toNat_natCast, Nat.mul_one, nth_ints hlt]
    refine Go.call0 hP (l01In_c (rd a i) 0 999999999) rfl rfl rfl (by omega) (by simp [go_sem, tsI, slI, I, renL_ints, blk_ren, en_live, en_dead, ints_length, ints_nil, ints_one]) ?_
    have hst := all_drop a i hlt
    rw [hv] at hst
    cases hb : inB (rd a (i : Int))
    · rw [hb, Bool.false_and] at hst
      unfold inB at hb
      rw [nok_eq, hst, Bool.and_false] at hE
      refine Go.run hte hn 100 ?_; simp only [go_sem, Nat.reduceBEq, Nat.reduceLT, Nat.reduceAdd, Nat.reduceMul, Nat.reduceLeDiff, hb]
      refine Go.retG hte hE hf [] rfl (by simp [go_sem, tsI, slI, I, renL_ints, blk_ren, en_live, en_dead, ints_length, ints_nil, ints_one]) rfl (by rw [h0]; rfl) trivial
    · rw [hb, Bool.true_and] at hst
      unfold inB at hb
      refine Go.run hte hn 100 ?_; simp only [go_sem, Nat.reduceBEq, Nat.reduceLT, Nat.reduceAdd, Nat.reduceMul, Nat.reduceLeDiff, hb, e1]
      refine Go.round (i + 1) [] ⟨hlt, hst.symm⟩ (by omega) rfl rfl (by rw [h0]; rfl) (by simp [go_sem, tsI, slI, I, renL_ints, blk_ren, en_live, en_dead, ints_length, ints_nil, ints_one]) trivial
  · have hlt : i = a.length := by have := of_decide_eq_false hz; omega
    subst hlt
    rw [List.drop_length, List.all_nil] at hv
    rw [nok_eq, ← hv, Bool.and_true] at hE
    unfold ends0 at hE
    by_cases h60 : a.length ≤ 60
    · have d1 : decide ((a.length : Int) ≤ 60) = true := decide_eq_true (by omega)
      rw [decide_eq_true h60, Bool.true_and] at hE
      by_cases h00 : a.length = 0
      · have d2 : decide ((a.length : Int) = 0) = true := decide_eq_true (by omega)
        have : a = [] := List.length_eq_zero_iff.mp h00
        rw [show a.isEmpty = true by rw [this]; rfl, Bool.true_or] at hE
        simp only [go_sem, Nat.reduceBEq, Nat.reduceLT, Nat.reduceAdd, Nat.reduceMul, Nat.reduceLeDiff, d1, d2]
        refine Go.retG hte hE hf [] rfl (by simp [go_sem, tsI, slI, I, renL_ints, blk_ren, en_live, en_dead, ints_length, ints_nil, ints_one]) rfl (by rw [h0]; rfl) trivial
      · have d2 : decide ((a.length : Int) = 0) = false := decide_eq_false (by omega)
        have e1 : IntKind.i64.wrap ((a.length : Int) - 1) = ((a.length - 1 : Nat) : Int) := by rw [W64] <;> omega
        have e2 : (a.length : Int) - 1 = ((a.length - 1 : Nat) : Int) := by omega
        have c0 : (0 ≤ ((a.length - 1 : Nat) : Int)) = True := eq_true (by omega)
        have c1 : (((a.length - 1 : Nat) : Int) < (a.length : Int)) = True := eq_true (by omega)
        have c2 : (0 < (ints a).length) = True := eq_true (by rw [ints_length]; omega)
        have hem : a.isEmpty = false := by
          cases a with
          | nil => exact absurd rfl h00
          | cons x r => rfl
        rw [hem, Bool.false_or, e2] at hE
        simp only [go_sem, Nat.reduceBEq, Nat.reduceLT, Nat.reduceAdd, Nat.reduceMul, Nat.reduceLeDiff, d1, d2, e1, c0, c1, c2, Int.toNat_natCast, Nat.mul_one, nth_ints (show a.length - 1 < a.length by omega)]
        refine Go.retG hte hE hf [] rfl (by simp [go_sem, tsI, slI, I, renL_ints, blk_ren, en_live, en_dead, ints_length, ints_nil, ints_one]) rfl (by rw [h0]; rfl) trivial
    · have d1 : decide ((a.length : Int) ≤ 60) = false := decide_eq_false (by omega)
      rw [decide_eq_false h60, Bool.false_and] at hE
      simp only [go_sem, Nat.reduceBEq, Nat.reduceLT, Nat.reduceAdd, Nat.reduceMul, Nat.reduceLeDiff, d1]
      refine Go.retG hte hE hf [] rfl (by simp [go_sem, tsI, slI, I, renL_ints, blk_ren, en_live, en_dead, ints_length, ints_nil, ints_one]) rfl (by rw [h0]; rfl) trivial
theorem spec_BigIntOk_c (s : Bool) (a : List Int) (ha : a.length ≤ 1152921504606846976) : AC Tryd.prog 67 [bigT s a] [] (.v (.bool (bok s a))) [] := by
  refine AC.intro (fn := Tryd.f67) (c := ?_) 17 Tryd.func67 (by rfl) (by kernel_rfl) (by kernel_rfl) (Nat.le_of_ble_eq_true rfl) fun e hP hf hn h0 hE => ?_
  have hte : TEok e.P te := hP ▸ teOk
  have hmx : e.P.follows .mixedOrders = true := hP ▸ mixedOk
  unfold bok at hE
  refine Go.run hte hn 100 ?_; simp only [go_sem, Nat.reduceBEq, Nat.reduceLT, Nat.reduceAdd, Nat.reduceMul, Nat.reduceLeDiff]
  refine Go.call0 hP (spec_NatOk_c a ha) rfl rfl rfl (by omega) (by simp [go_sem, tsI, slI, I, renL_ints, blk_ren, en_live, en_dead, ints_length, ints_nil, ints_one]) ?_
  cases hn' : nok a
  · rw [hn', Bool.false_and] at hE
    refine Go.run hte hn 100 ?_; simp only [go_sem, Nat.reduceBEq, Nat.reduceLT, Nat.reduceAdd, Nat.reduceMul, Nat.reduceLeDiff, hn']
    refine Go.retG hte hE hf [] rfl (by simp [go_sem, tsI, slI, I, renL_ints, blk_ren, en_live, en_dead, ints_length, ints_nil, ints_one]) rfl (by rw [h0]; rfl) trivial
  · rw [hn', Bool.true_and] at hE
    cases s
    · refine Go.run hte hn 100 ?_; simp only [go_sem, Nat.reduceBEq, Nat.reduceLT, Nat.reduceAdd, Nat.reduceMul, Nat.reduceLeDiff, hn']
      refine Go.retG hte hE hf [] rfl (by simp [go_sem, tsI, slI, I, renL_ints, blk_ren, en_live, en_dead, ints_length, ints_nil, ints_one]) rfl (by rw [h0]; rfl) trivial
    · refine Go.run hte hn 100 ?_; simp only [go_sem, Nat.reduceBEq, Nat.reduceLT, Nat.reduceAdd, Nat.reduceMul, Nat.reduceLeDiff, hn', dec_pos]
      refine Go.retG hte hE hf [] rfl (by simp [go_sem, tsI, slI, I, renL_ints, blk_ren, en_live, en_dead, ints_length, ints_nil, ints_one]) rfl (by rw [h0]; rfl) trivial
theorem NatOk1_c (x : Int) : AC Tryd.prog 81 [I x] [] (.v (.bool (!inB x))) [] := by
  refine AC.intro (fn := Tryd.f81) (c := ?_) 9 Tryd.func81 (by rfl) (by kernel_rfl) (by kernel_rfl) (Nat.le_of_ble_eq_true rfl) fun e hP hf hn h0 hE => ?_
  have hte : TEok e.P te := hP ▸ teOk
  have hmx : e.P.follows .mixedOrders = true := hP ▸ mixedOk
  refine Go.run hte hn 100 ?_; simp only [go_sem, Nat.reduceBEq, Nat.reduceLT, Nat.reduceAdd, Nat.reduceMul, Nat.reduceLeDiff]
  unfold inB at hE
  refine gd_split (fun hz => ?_) (fun hz => ?_)
  · have hx := of_decide_eq_true hz
    rw [show decide (x ≥ 0) = false from decide_eq_false (by omega)] at hE
    simp only [go_sem, Nat.reduceBEq, Nat.reduceLT, Nat.reduceAdd, Nat.reduceMul, Nat.reduceLeDiff, hz]
    refine Go.retG hte hE hf [] rfl (by simp [go_sem, tsI, slI, I, renL_ints, blk_ren, en_live, en_dead, ints_length, ints_nil, ints_one]) rfl (by rw [h0]; rfl) trivial
  · have hx := of_decide_eq_false hz
    have h2 : decide (x ≤ 999999999) = !decide (x ≥ 1000000000) := by
      by_cases h : x ≤ 999999999
      · rw [decide_eq_true h, decide_eq_false (by omega)]; rfl
      · rw [decide_eq_false h, decide_eq_true (by omega)]; rfl
    rw [show decide (x ≥ 0) = true from decide_eq_true (by omega), h2] at hE
    simp only [go_sem, Nat.reduceBEq, Nat.reduceLT, Nat.reduceAdd, Nat.reduceMul, Nat.reduceLeDiff, hz]
    refine Go.retG hte hE hf [] rfl (by simp [go_sem, tsI, slI, I, renL_ints, blk_ren, en_live, en_dead, ints_length, ints_nil, ints_one]) rfl (by rw [h0]; rfl) trivial
/-- The first place from the last d on that is no limb; -1: none. -/
def idxB (a : List Int) : Nat → Int
  | 0 => -1
  | d + 1 => if inB (rd a ((a.length - (d + 1) : Nat) : Int)) then idxB a d else ((a.length - (d + 1) : Nat) : Int)
theorem idxB_all (a : List Int) : ∀ d, d ≤ a.length → decide (idxB a d ≥ 0) = !(a.drop (a.length - d)).all inB
  | 0, _ => by simp [idxB]
  | d + 1, h => by
    rw [all_drop a _ (by omega), show a.length - (d + 1) + 1 = a.length - d by omega]
    unfold idxB
    cases hb : inB (rd a ((a.length - (d + 1) : Nat) : Int))
    · rw [if_neg (by simp), Bool.false_and]
      exact decide_eq_true (by omega)
    · rw [if_pos rfl, Bool.true_and]
      exact idxB_all a d (by omega)
theorem IndexFunc_c (a : List Int) (ha : a.length ≤ 1152921504606846976) : AC Tryd.prog 96 [tsI a, .fn (.func 81) [] []] [] (I (idxB a a.length)) [] := by
  refine AC.intro (fn := Tryd.f96) (c := ?_) 19 Tryd.func96 (by rfl) (by kernel_rfl) (by kernel_rfl) (Nat.le_of_ble_eq_true rfl) fun e hP hf hn h0 hE => ?_
  have hte : TEok e.P te := hP ▸ teOk
  have hmx : e.P.follows .mixedOrders = true := hP ▸ mixedOk
  refine Go.run hte hn 100 ?_; simp only [go_sem, Nat.reduceBEq, Nat.reduceLT, Nat.reduceAdd, Nat.reduceMul, Nat.reduceLeDiff]
  refine Go.enter (fun i : Nat => i ≤ a.length ∧ idxB a (a.length - i) = idxB a a.length) (fun i => a.length - i) (fun i => [(0, tsI a), (1, .fn (.func 81) [] []), (7, I a.length), (8, I i)]) (fun i => []) 0 [] ⟨Nat.zero_le _, rfl⟩ rfl rfl (by rw [h0]; rfl) (by simp [go_sem, tsI, slI, I, renL_ints, blk_ren, en_live, en_dead, ints_length, ints_nil, ints_one]) trivial ?_
  rintro i ⟨hi, hv⟩
  refine Go.run hte hn 100 ?_; simp only [go_sem, Nat.reduceBEq, Nat.reduceLT, Nat.reduceAdd, Nat.reduceMul, Nat.reduceLeDiff]
  refine Br.mk (fun hz => ?_) (fun hz => ?_)
  · have hlt : i < a.length := by have := of_decide_eq_true hz; omega
    have e1 : IntKind.i64.wrap ((i : Int) + 1) = ((i + 1 : Nat) : Int) := by rw [W64] <;> omega
    have c0 : (0 ≤ (i : Int)) = True := eq_true (by omega)
    have c1 : ((i : Int) < (a.length : Int)) = True := eq_true (by omega)
    have c2 : (0 < (ints a).length) = True := eq_true (by rw [ints_length]; omega)
    simp only [go_sem, Nat.reduceBEq, Nat.reduceLT, Nat.reduceAdd, Nat.reduceMul, Nat.reduceLeDiff, c0, c1, c2, Int.toNat_natCast, Nat.mul_one, nth_ints hlt]
    refine Go.call0 hP (NatOk1_c (rd a i)) rfl rfl rfl (by omega) (by simp [go_sem, tsI, slI, I, renL_ints, blk_ren, en_live, en_dead, ints_length, ints_nil, ints_one]) ?_
    have hst : idxB a (a.length - i) = if inB (rd a (i : Int)) then idxB a (a.length - (i + 1)) else (i : Int) := by
      obtain ⟨d, hd⟩ : ∃ d, a.length - i = d + 1 := ⟨a.length - i - 1, by omega⟩
      rw [hd, idxB, show a.length - (d + 1) = i by omega, show a.length - (i + 1) = d by omega]
    rw [hv] at hst
    cases hb : inB (rd a (i : Int))
    · rw [hb, if_neg (by simp)] at hst
      rw [hst] at hE
      refine Go.run hte hn 100 ?_; simp only [go_sem, Nat.reduceBEq, Nat.reduceLT, Nat.reduceAdd, Nat.reduceMul, Nat.reduceLeDiff, hb]
      refine Go.retG hte hE hf [] rfl (by simp [go_sem, tsI, slI, I, renL_ints, blk_ren, en_live, en_dead, ints_length, ints_nil, ints_one]) rfl (by rw [h0]; rfl) trivial
    · rw [hb, if_pos rfl] at hst
      refine Go.run hte hn 100 ?_; simp only [go_sem, Nat.reduceBEq, Nat.reduceLT, Nat.reduceAdd, Nat.reduceMul, Nat.reduceLeDiff, hb, e1]
      refine Go.round (i + 1) [] ⟨hlt, hst.symm⟩ (by omega) rfl rfl (by rw [h0]; rfl) (by simp [go_sem, tsI, slI, I, renL_ints, blk_ren, en_live, en_dead, ints_length, ints_nil, ints_one]) trivial
  · have hlt : i = a.length := by have := of_decide_eq_false hz; omega
    subst hlt
    rw [Nat.sub_self] at hv
    rw [← hv] at hE
    unfold idxB at hE
    refine Go.retG hte hE hf [] rfl (by simp [go_sem, tsI, slI, I, renL_ints, blk_ren, en_live, en_dead, ints_length, ints_nil, ints_one]) rfl (by rw [h0]; rfl) trivial
theorem ContainsFunc_c (a : List Int) (ha : a.length ≤ 1152921504606846976) : AC Tryd.prog 80 [tsI a, .fn (.func 81) [] []] [] (.v (.bool (!a.all inB))) [] := by
  refine AC.intro (fn := Tryd.f80) (c := ?_) 9 Tryd.func80 (by rfl) (by kernel_rfl) (by kernel_rfl) (Nat.le_of_ble_eq_true rfl) fun e hP hf hn h0 hE => ?_
  have hte : TEok e.P te := hP ▸ teOk
  have hmx : e.P.follows .mixedOrders = true := hP ▸ mixedOk
  refine Go.run hte hn 100 ?_; simp only [go_sem, Nat.reduceBEq, Nat.reduceLT, Nat.reduceAdd, Nat.reduceMul, Nat.reduceLeDiff]
  refine Go.call0 hP (IndexFunc_c a ha) rfl rfl rfl (by omega) (by simp [go_sem, tsI, slI, I, renL_ints, blk_ren, en_live, en_dead, ints_length, ints_nil, ints_one]) ?_
  have h := idxB_all a a.length (Nat.le_refl _)
  rw [Nat.sub_self, List.drop_zero] at h
  rw [← h] at hE
  refine Go.run hte hn 100 ?_; simp only [go_sem, Nat.reduceBEq, Nat.reduceLT, Nat.reduceAdd, Nat.reduceMul, Nat.reduceLeDiff]
  refine Go.retG hte hE hf [] rfl (by simp [go_sem, tsI, slI, I, renL_ints, blk_ren, en_live, en_dead, ints_length, ints_nil, ints_one]) rfl (by rw [h0]; rfl) trivial
theorem impl_NatOk_c (a : List Int) (ha : a.length ≤ 1152921504606846976) : AC Tryd.prog 65 [tsI a] [] (.v (.bool (nok a))) [] := by
  refine AC.intro (fn := Tryd.f65) (c := ?_) 23 Tryd.func65 (by rfl) (by kernel_rfl) (by kernel_rfl) (Nat.le_of_ble_eq_true rfl) fun e hP hf hn h0 hE => ?_
  have hte : TEok e.P te := hP ▸ teOk
  have hmx : e.P.follows .mixedOrders = true := hP ▸ mixedOk
  rw [nok_eq] at hE
  unfold ends0 at hE
  have fin : ∀ fr : Fr, True := fun _ => trivial
  by_cases h60 : a.length ≤ 60
  · have d1 : decide ((60 : Int) < (a.length : Int)) = false := decide_eq_false (by omega)
    rw [decide_eq_true h60, Bool.true_and] at hE
    by_cases h00 : a.length = 0
    · have d2 : decide ((0 : Int) < (a.length : Int)) = false := decide_eq_false (by omega)
      have hem : a.isEmpty = true := by rw [List.length_eq_zero_iff.mp h00]; rfl
      rw [hem, Bool.true_or, Bool.true_and] at hE
      refine Go.run hte hn 100 ?_; simp only [go_sem, Nat.reduceBEq, Nat.reduceLT, Nat.reduceAdd, Nat.reduceMul, Nat.reduceLeDiff, d1, d2]
      refine Go.call0 hP (ContainsFunc_c a ha) rfl rfl rfl (by omega) (by simp [go_sem, tsI, slI, I, renL_ints, blk_ren, en_live, en_dead, ints_length, ints_nil, ints_one]) ?_
      refine Go.run hte hn 100 ?_; simp only [go_sem, Nat.reduceBEq, Nat.reduceLT, Nat.reduceAdd, Nat.reduceMul, Nat.reduceLeDiff, Bool.not_not]
      refine Go.retG hte hE hf [] rfl (by simp [go_sem, tsI, slI, I, renL_ints, blk_ren, en_live, en_dead, ints_length, ints_nil, ints_one]) rfl (by rw [h0]; rfl) trivial
    · have d2 : decide ((0 : Int) < (a.length : Int)) = true := decide_eq_true (by omega)
      have e1 : IntKind.i64.wrap ((a.length : Int) - 1) = ((a.length - 1 : Nat) : Int) := by rw [W64] <;> omega
      have e2 : (a.length : Int) - 1 = ((a.length - 1 : Nat) : Int) := by omega
      have c0 : (0 ≤ ((a.length - 1 : Nat) : Int)) = True := eq_true (by omega)
      have c1 : (((a.length - 1 : Nat) : Int) < (a.length : Int)) = True := eq_true (by omega)
      have c2 : (0 < (ints a).length) = True := eq_true (by rw [ints_length]; omega)
      have hem : a.isEmpty = false := by
        cases a with
        | nil => exact absurd rfl h00
        | cons x r => rfl
      rw [hem, Bool.false_or, e2] at hE
      refine Go.run hte hn 100 ?_; simp only [go_sem, Nat.reduceBEq, Nat.reduceLT, Nat.reduceAdd, Nat.reduceMul, Nat.reduceLeDiff, d1, d2, e1, c0, c1, c2, Int.toNat_natCast, Nat.mul_one, nth_ints (show a.length - 1 < a.length by omega)]
      refine Br.mk (fun hz => ?_) (fun hz => ?_)
      · rw [hz, Bool.not_true, Bool.false_and] at hE
        refine Go.retG hte hE hf [] rfl (by simp [go_sem, tsI, slI, I, renL_ints, blk_ren, en_live, en_dead, ints_length, ints_nil, ints_one]) rfl (by rw [h0]; rfl) trivial
      · rw [hz, Bool.not_false, Bool.true_and] at hE
        refine Go.call0 hP (ContainsFunc_c a ha) rfl rfl rfl (by omega) (by simp [go_sem, tsI, slI, I, renL_ints, blk_ren, en_live, en_dead, ints_length, ints_nil, ints_one]) ?_
        refine Go.run hte hn 100 ?_; simp only [go_sem, Nat.reduceBEq, Nat.reduceLT, Nat.reduceAdd, Nat.reduceMul, Nat.reduceLeDiff, Bool.not_not]
        refine Go.retG hte hE hf [] rfl (by simp [go_sem, tsI, slI, I, renL_ints, blk_ren, en_live, en_dead, ints_length, ints_nil, ints_one]) rfl (by rw [h0]; rfl) trivial
  · have d1 : decide ((60 : Int) < (a.length : Int)) = true := decide_eq_true (by omega)
    rw [decide_eq_false h60, Bool.false_and, Bool.false_and] at hE
    refine Go.run hte hn 100 ?_; simp only [go_sem, Nat.reduceBEq, Nat.reduceLT, Nat.reduceAdd, Nat.reduceMul, Nat.reduceLeDiff, d1]
    refine Go.retG hte hE hf [] rfl (by simp [go_sem, tsI, slI, I, renL_ints, blk_ren, en_live, en_dead, ints_length, ints_nil, ints_one]) rfl (by rw [h0]; rfl) trivial
theorem impl_BigIntOk_c (s : Bool) (a : List Int) (ha : a.length ≤ 1152921504606846976) : AC Tryd.prog 49 [bigT s a] [] (.v (.bool (bok s a))) [] := by
  refine AC.intro (fn := Tryd.f49) (c := ?_) 17 Tryd.func49 (by rfl) (by kernel_rfl) (by kernel_rfl) (Nat.le_of_ble_eq_true rfl) fun e hP hf hn h0 hE => ?_
  have hte : TEok e.P te := hP ▸ teOk
  have hmx : e.P.follows .mixedOrders = true := hP ▸ mixedOk
  unfold bok at hE
  refine Go.run hte hn 100 ?_; simp only [go_sem, Nat.reduceBEq, Nat.reduceLT, Nat.reduceAdd, Nat.reduceMul, Nat.reduceLeDiff]
  refine Go.call0 hP (impl_NatOk_c a ha) rfl rfl rfl (by omega) (by simp [go_sem, tsI, slI, I, renL_ints, blk_ren, en_live, en_dead, ints_length, ints_nil, ints_one]) ?_
  cases hn' : nok a
  · rw [hn', Bool.false_and] at hE
    refine Go.run hte hn 100 ?_; simp only [go_sem, Nat.reduceBEq, Nat.reduceLT, Nat.reduceAdd, Nat.reduceMul, Nat.reduceLeDiff, hn']
    refine Go.retG hte hE hf [] rfl (by simp [go_sem, tsI, slI, I, renL_ints, blk_ren, en_live, en_dead, ints_length, ints_nil, ints_one]) rfl (by rw [h0]; rfl) trivial
  · rw [hn', Bool.true_and] at hE
    cases s
    · refine Go.run hte hn 100 ?_; simp only [go_sem, Nat.reduceBEq, Nat.reduceLT, Nat.reduceAdd, Nat.reduceMul, Nat.reduceLeDiff, hn']
      refine Go.retG hte hE hf [] rfl (by simp [go_sem, tsI, slI, I, renL_ints, blk_ren, en_live, en_dead, ints_length, ints_nil, ints_one]) rfl (by rw [h0]; rfl) trivial
    · have h : decide (0 < a.length) = !decide ((a.length : Int) = 0) := by by_cases h : a.length = 0 <;> simp [h] <;> omega
      rw [h] at hE
      refine Go.run hte hn 100 ?_; simp only [go_sem, Nat.reduceBEq, Nat.reduceLT, Nat.reduceAdd, Nat.reduceMul, Nat.reduceLeDiff, hn']
      refine Go.retG hte hE hf [] rfl (by simp [go_sem, tsI, slI, I, renL_ints, blk_ren, en_live, en_dead, ints_length, ints_nil, ints_one]) rfl (by rw [h0]; rfl) trivial

end Go.Proofs.YtjnlpomfjlpikaaDoor.Ab
