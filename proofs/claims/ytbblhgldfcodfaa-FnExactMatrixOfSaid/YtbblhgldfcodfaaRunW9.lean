/- Contracts of the given program's functions and of the reference's (walks). -/
import Derived.Test.YtbblhgldfcodfaaAbT
import Derived.Test.YtbblhgldfcodfaaAbP
import Derived.Test.YtbblhgldfcodfaaRunW1
import Derived.Test.YtbblhgldfcodfaaAbN
set_option linter.unusedVariables false
set_option linter.unusedSimpArgs false
set_option maxRecDepth 10000
namespace Go.Proofs.Ytbblhgldfcodfaa.Ab
open Go Go.RowKit
attribute [local go_sem] q_run q_seq q_skip q_block q_exit q_cond q_region q_nil q_op q_blk q_loop q_ret q_open q_inv q_fin q_go q_h0 q_h1 q_gskip q_stepC q_brt q_brf q_stepX q_sskip q_sskip0 q_val q_need q_new q_newc q_sv q_sto q_c1 q_c2 q_c3 q_c4 q_c5 q_c6 q_c7 q_c8 q_c9 q_c10 q_c11 q_c12 q_c13 q_c14 q_c15 q_c16 q_c17 q_c18 q_c19 q_c20 q_c21 q_c22 q_g0 q_g1 q_gC q_gD q_gE q_gB1 q_gB2 q_gB3 q_gB4 q_ev1 q_ev2 q_ev3 q_evo0 q_evo1 q_rv q_rva q_o1 q_o2 q_pk1 q_pk2 q_ld1p q_ld1e q_ld1t q_ldnp q_ldne q_ldnt q_sub0 q_sub1 q_subc q_stS q_stT q_box q_bldr q_bld q_fill0 q_fill1 q_fillB q_bsr q_bsl q_fap q_fat q_iasl q_iats q_lnsl q_lnts q_lnv q_lnS q_exA q_mkB q_lo0 q_lo1 q_hi0 q_hi1 q_slcA q_slcU1 q_slcU2 q_slcT1 q_slcT2 q_slsA q_slsU q_slsT q_apA q_apC q_srcE1 q_srcE2 q_srcE3 q_srcA1 q_srcB q_srcA2 q_srcA3 q_fnA q_nc1 q_nc2 q_bin q_bin2 q_bin3 q_bin4 q_bin5 q_bin6 q_bin7 q_bin8 q_bin9 q_bin10 q_i1 q_i2 q_i3 q_i4 q_i5 q_i6 q_i7 q_i8 q_i9 q_i10 q_i11 q_s1 q_s2 q_s3 q_u1 q_u2 q_min q_max q_ce1 q_ce2 q_ce3 q_ce4 q_ce5 q_ce6 q_ce7 q_ce8 q_ce9 q_ce10 q_ce11 q_on2 q_on3 q_on4 q_on5 q_on6 q_on7 q_on8 q_on9 q_on10 q_on11 q_enr1 q_gEt q_zr0 q_zr1 q_zgs q_zgg q_zk1 q_zk2 q_zd q_zv1 q_zv2 q_zv3 q_zp1 q_zp2 q_zf q_zs1 q_zs2 q_za q_za1 q_fi0 q_fi1 q_ln0 q_ln1 q_h01 q_h02 q_h03 q_h04 q_h05 q_h06 q_h07 q_h08 q_h09 q_h10 q_h11 q_h12 q_h13 q_h14 q_h15 q_h16 q_h17 q_h18 q_h19 q_h20 q_h21 q_h22 q_h23 q_h24 q_al q_b0 q_rs1 q_rs2 q_rs3 q_rs4 q_rs5 q_rs6 q_rs7 q_rs8 q_ro1 q_ro2 q_ro3 q_ro4 q_ro5 q_ro6 q_ro7 q_ro8 cond_true cond_false decide_true decide_false List.length_cons List.length_nil List.nil_append List.cons_append true_and and_true List.toList_toArray Option.map_some Nat.zero_add Nat.add_zero Bool.and_self Bool.and_true Bool.true_and Bool.and_false Bool.false_and Bool.not_true Bool.not_false FitF FitL LendL wb keys nodupB firstOk tupA op_move op_assign op_pick op_un op_box op_nc op_mf op_ex op_min op_max get put del nth evs evp sets setN ones popTo args0 AV.ren AV.renL rho List.take_succ_cons List.take_zero List.drop_succ_cons List.drop_zero Option.isNone_none Option.isNone_some o_al28 o_al30 o_al43 o_al80 o_al84 o_ap22 o_ap41 o_bi120 o_bi22 o_bi3 o_bi4 o_bi68 o_bs22_0 o_bs22_1 o_bs22_3 o_bs41_0 o_bs41_1 o_bu28 o_bu30 o_bu43 o_bu80 o_bu98 o_cn120 o_cn3 o_cv120_3 o_cv3_120 o_fa24_0 o_fa24_1 o_fa26_0 o_fa26_1 o_fa28_0 o_fa28_1 o_fa30_0 o_fa30_1 o_fa38_0 o_fa38_1 o_fa38_2 o_fa43_0 o_fa43_1 o_fa43_2 o_fa80_0 o_fa80_1 o_fa80_2 o_fa98_0 o_fa98_1 o_ia22 o_ia36 o_ia41 o_ia78 o_ia84 o_ib4 o_ip68 o_ld22 o_ld24 o_ld26 o_ld28 o_ld3 o_ld30 o_ld36 o_ld38 o_ld4 o_ld41 o_ld43 o_ld68 o_ld78 o_ld80 o_ld84 o_ln22 o_ln36 o_ln41 o_ln78 o_ln84 o_mk22 o_mk41 o_mk78 o_mk84 o_sl22 o_sl41 o_st22 o_st28 o_st3 o_st30 o_st4 o_st41 o_st43 o_st68 o_st80 o_st84 o_zb22 o_zb36 o_zb41 o_zb78 o_zb84 I tsI slI renL_ints blk_ren en_live en_dead List.set_cons_zero List.set_cons_succ List.map_cons List.map_nil List.append_nil frzF frzS AV.frz AV.frzL frzL_ints ints_all ints_all' ints_take1 ints_mk ints_mk1 mk_length res_ints resOk_ints plain_ints plainA plainL plainE plainS List.all_cons List.all_nil bigO bigT ratO ratT
/-! ### Is it a number? -/
theorem l01In_c (x a b : Int) : AC Try.prog 62 [I x, I a, I b] [] (.v (.bool (decide (x ≥ a) && decide (x ≤ b)))) [] := by
  refine AC.intro (fn := Try.f62) (c := ?_) 15 Try.func62 (by rfl) (by kernel_rfl) (by kernel_rfl) (Nat.le_of_ble_eq_true rfl) fun e hP hf hn h0 hE => ?_
  have hte : TEok e.P te := hP ▸ teOk
  have hmx : e.P.follows .mixedOrders = true := hP ▸ mixedOk
  refine Go.run hte hn 100 ?_; simp only [go_sem, Nat.reduceBEq, Nat.reduceLT, Nat.reduceAdd, Nat.reduceMul, Nat.reduceLeDiff]
  refine gd_split (fun hz => ?_) (fun hz => ?_)
  all_goals
    rw [hz] at hE
    simp only [go_sem, Nat.reduceBEq, Nat.reduceLT, Nat.reduceAdd, Nat.reduceMul, Nat.reduceLeDiff, hz]
    refine Go.retG hte hE hf [] rfl (by simp [go_sem, tsI, slI, I, renL_ints, blk_ren, en_live, en_dead, ints_length, ints_nil, ints_one]) rfl (by rw [h0]; rfl) trivial
def ends0 (a : List Int) : Bool := decide (a.length ≤ 60) && (a.isEmpty || !decide (rd a ((a.length : Int) - 1) = 0))
theorem nok_eq (a : List Int) : nok a = (ends0 a && a.all inB) := rfl
theorem all_drop (a : List Int) (i : Nat) (h : i < a.length) : (a.drop i).all inB = (inB (rd a (i : Int)) && (a.drop (i + 1)).all inB) := by rw [drop_rd a i h, List.all_cons]
theorem spec_NatOk_c (a : List Int) (ha : a.length ≤ 1152921504606846976) : AC Try.prog 81 [tsI a] [] (.v (.bool (nok a))) [] := by
  refine AC.intro (fn := Try.f81) (c := ?_) 32 Try.func81 (by rfl) (by kernel_rfl) (by kernel_rfl) (Nat.le_of_ble_eq_true rfl) fun e hP hf hn h0 hE => ?_
  have hte : TEok e.P te := hP ▸ teOk
  have hmx : e.P.follows .mixedOrders = true := hP ▸ mixedOk
  refine Go.run hte hn 100 ?_; simp only [go_sem, Nat.reduceBEq, Nat.reduceLT, Nat.reduceAdd, Nat.reduceMul, Nat.reduceLeDiff]
  refine Go.enter (fun i : Nat => i ≤ a.length ∧ (a.drop i).all inB = a.all inB) (fun i => a.length - i) (fun i => [(0, tsI a), (5, tsI a), (6, I a.length), (7, I i)]) (fun i => []) 0 [] ⟨Nat.zero_le _, rfl⟩ rfl rfl (by rw [h0]; rfl) (by simp [go_sem, tsI, slI, I, renL_ints, blk_ren, en_live, en_dead, ints_length, ints_nil, ints_one]) trivial ?_
  rintro i ⟨hi, hv⟩
  refine Go.run hte hn 100 ?_; simp only [go_sem, Nat.reduceBEq, Nat.reduceLT, Nat.reduceAdd, Nat.reduceMul, Nat.reduceLeDiff]
  refine Br.mk (fun hz => ?_) (fun hz => ?_)
  · have hlt : i < a.length := by have := of_decide_eq_true hz; omega
    have e1 : IntKind.i64.wrap ((i : Int) + 1) = ((i + 1 : Nat) : Int) := by rw [W64] <;> omega
    have c0 : (0 ≤ (i : Int)) = True := eq_true (by omega)
    have c1 : ((i : Int) < (a.length : Int)) = True := eq_true (by omega)
    have c2 : (0 < (ints a).length) = True := eq_true (by rw [ints_length]; omega)
    simp only [go_sem, Nat.reduceBEq, Nat.reduceLT, Nat.reduceAdd, Nat.reduceMul, Nat.reduceLeDiff, c0, c1, c2, Int.toNat_natCast, Nat.mul_one, nth_ints hlt]
    refine Go.call0 hP (l01In_c (rd a i) 0 999999999) rfl rfl rfl (by omega) (by simp [go_sem, tsI, slI, I, renL_ints, blk_ren, en_live, en_dead, ints_length, ints_nil, ints_one]) ?_
    have hst := all_drop a i hlt
    rw [hv] at hst
    cases hb : inB (rd a (i : Int))
    · rw [hb, Bool.false_and] at hst
      unfold inB at hb
      rw [nok_eq, hst, Bool.and_false] at hE
      refine Go.run hte hn 100 ?_; simp only [go_sem, Nat.reduceBEq, Nat.reduceLT, Nat.reduceAdd, Nat.reduceMul, Nat.reduceLeDiff, hb]
      refine Go.retG hte hE hf [] rfl (by simp [go_sem, tsI, slI, I, renL_ints, blk_ren, en_live, en_dead, ints_length, ints_nil, ints_one]) rfl (by rw [h0]; rfl) trivial
    · rw [hb, Bool.true_and] at hst
      unfold inB at hb
      refine Go.run hte hn 100 ?_; simp only [go_sem, Nat.reduceBEq, Nat.reduceLT, Nat.reduceAdd, Nat.reduceMul, Nat.reduceLeDiff, hb, e1]
      refine Go.round (i + 1) [] ⟨hlt, hst.symm⟩ (by omega) rfl rfl (by rw [h0]; rfl) (by simp [go_sem, tsI, slI, I, renL_ints, blk_ren, en_live, en_dead, ints_length, ints_nil, ints_one]) trivial
  · have hlt : i = a.length := by have := of_decide_eq_false hz; omega
    subst hlt
    rw [List.drop_length, List.all_nil] at hv
    rw [nok_eq, ← hv, Bool.and_true] at hE
    unfold ends0 at hE
    by_cases h60 : a.length ≤ 60
    · have d1 : decide ((a.length : Int) ≤ 60) = true := decide_eq_true (by omega)
      rw [decide_eq_true h60, Bool.true_and] at hE
      by_cases h00 : a.length = 0
      · have d2 : decide ((a.length : Int) = 0) = true := decide_eq_true (by omega)
        have : a = [] := List.length_eq_zero_iff.mp h00
        rw [show a.isEmpty = true by rw [this]; rfl, Bool.true_or] at hE
        simp only [go_sem, Nat.reduceBEq, Nat.reduceLT, Nat.reduceAdd, Nat.reduceMul, Nat.reduceLeDiff, d1, d2]
        refine Go.retG hte hE hf [] rfl (by simp [go_sem, tsI, slI, I, renL_ints, blk_ren, en_live, en_dead, ints_length, ints_nil, ints_one]) rfl (by rw [h0]; rfl) trivial
      · have d2 : decide ((a.length : Int) = 0) = false := decide_eq_false (by omega)
        have e1 : IntKind.i64.wrap ((a.length : Int) - 1) = ((a.length - 1 : Nat) : Int) := by rw [W64] <;> omega
        have e2 : (a.length : Int) - 1 = ((a.length - 1 : Nat) : Int) := by omega
        have c0 : (0 ≤ ((a.length - 1 : Nat) : Int)) = True := eq_true (by omega)
        have c1 : (((a.length - 1 : Nat) : Int) < (a.length : Int)) = True := eq_true (by omega)
        have c2 : (0 < (ints a).length) = True := eq_true (by rw [ints_length]; omega)
        have hem : a.isEmpty = false := by
          cases a with
          | nil => exact absurd rfl h00
          | cons x r => rfl
        rw [hem, Bool.false_or, e2] at hE
        simp only [go_sem, Nat.reduceBEq, Nat.reduceLT, Nat.reduceAdd, Nat.reduceMul, Nat.reduceLeDiff, d1, d2, e1, c0, c1, c2, Int.toNat_natCast, Nat.mul_one, nth_ints (show a.length - 1 < a.length by omega)]
        refine Go.retG hte hE hf [] rfl (by simp [go_sem, tsI, slI, I, renL_ints, blk_ren, en_live, en_dead, ints_length, ints_nil, ints_one]) rfl (by rw [h0]; rfl) trivial
    · have d1 : decide ((a.length : Int) ≤ 60) = false := decide_eq_false (by omega)
      rw [decide_eq_false h60, Bool.false_and] at hE
      simp only [go_sem, Nat.reduceBEq, Nat.reduceLT, Nat.reduceAdd, Nat.reduceMul, Nat.reduceLeDiff, d1]
      refine Go.retG hte hE hf [] rfl (by simp [go_sem, tsI, slI, I, renL_ints, blk_ren, en_live, en_dead, ints_length, ints_nil, ints_one]) rfl (by rw [h0]; rfl) trivial
theorem spec_BigIntOk_c (s : Bool) (a : List Int) (ha : a.length ≤ 1152921504606846976) : AC Try.prog 80 [bigT s a] [] (.v (.bool (bok s a))) [] := by
  refine AC.intro (fn := Try.f80) (c := ?_) 17 Try.func80 (by rfl) (by kernel_rfl) (by kernel_rfl) (Nat.le_of_ble_eq_true rfl) fun e hP hf hn h0 hE => ?_
  have hte : TEok e.P te := hP ▸ teOk
  have hmx : e.P.follows .mixedOrders = true := hP ▸ mixedOk
  unfold bok at hE
  refine Go.run hte hn 100 ?_; simp only [go_sem, Nat.reduceBEq, Nat.reduceLT, Nat.reduceAdd, Nat.reduceMul, Nat.reduceLeDiff]
  refine Go.call0 hP (spec_NatOk_c a ha) rfl rfl rfl (by omega) (by simp [go_sem, tsI, slI, I, renL_ints, blk_ren, en_live, en_dead, ints_length, ints_nil, ints_one]) ?_
  cases hn' : nok a
  · rw [hn', Bool.false_and] at hE
    refine Go.run hte hn 100 ?_; simp only [go_sem, Nat.reduceBEq, Nat.reduceLT, Nat.reduceAdd, Nat.reduceMul, Nat.reduceLeDiff, hn']
    refine Go.retG hte hE hf [] rfl (by simp [go_sem, tsI, slI, I, renL_ints, blk_ren, en_live, en_dead, ints_length, ints_nil, ints_one]) rfl (by rw [h0]; rfl) trivial
  · rw [hn', Bool.true_and] at hE
    cases s
    · refine Go.run hte hn 100 ?_; simp only [go_sem, Nat.reduceBEq, Nat.reduceLT, Nat.reduceAdd, Nat.reduceMul, Nat.reduceLeDiff, hn']
      refine Go.retG hte hE hf [] rfl (by simp [go_sem, tsI, slI, I, renL_ints, blk_ren, en_live, en_dead, ints_length, ints_nil, ints_one]) rfl (by rw [h0]; rfl) trivial
    · refine Go.run hte hn 100 ?_; simp only [go_sem, Nat.reduceBEq, Nat.reduceLT, Nat.reduceAdd, Nat.reduceMul, Nat.reduceLeDiff, hn', dec_pos]
      refine Go.retG hte hE hf [] rfl (by simp [go_sem, tsI, slI, I, renL_ints, blk_ren, en_live, en_dead, ints_length, ints_nil, ints_one]) rfl (by rw [h0]; rfl) trivial
theorem NatOk1_c (x : Int) : AC Try.prog 122 [I x] [] (.v (.bool (!inB x))) [] := by
  refine AC.intro (fn := Try.f122) (c := ?_) 9 Try.func122 (by rfl) (by kernel_rfl) (by kernel_rfl) (Nat.le_of_ble_eq_true rfl) fun e hP hf hn h0 hE => ?_
  have hte : TEok e.P te := hP ▸ teOk
  have hmx : e.P.follows .mixedOrders = true := hP ▸ mixedOk
  refine Go.run hte hn 100 ?_; simp only [go_sem, Nat.reduceBEq, Nat.reduceLT, Nat.reduceAdd, Nat.reduceMul, Nat.reduceLeDiff]
  unfold inB at hE
  refine gd_split (fun hz => ?_) (fun hz => ?_)
  · have hx := of_decide_eq_true hz
    rw [show decide (x ≥ 0) = false from decide_eq_false (by omega)] at hE
    simp only [go_sem, Nat.reduceBEq, Nat.reduceLT, Nat.reduceAdd, Nat.reduceMul, Nat.reduceLeDiff, hz]
    refine Go.retG hte hE hf [] rfl (by simp [go_sem, tsI, slI, I, renL_ints, blk_ren, en_live, en_dead, ints_length, ints_nil, ints_one]) rfl (by rw [h0]; rfl) trivial
  · have hx := of_decide_eq_false hz
    have h2 : decide (x ≤ 999999999) = !decide (x ≥ 1000000000) := by
      by_cases h : x ≤ 999999999
      · rw [decide_eq_true h, decide_eq_false (by omega)]; rfl
      · rw [decide_eq_false h, decide_eq_true (by omega)]; rfl
    rw [show decide (x ≥ 0) = true from decide_eq_true (by omega), h2] at hE
    simp only [go_sem, Nat.reduceBEq, Nat.reduceLT, Nat.reduceAdd, Nat.reduceMul, Nat.reduceLeDiff, hz]
    refine Go.retG hte hE hf [] rfl (by simp [go_sem, tsI, slI, I, renL_ints, blk_ren, en_live, en_dead, ints_length, ints_nil, ints_one]) rfl (by rw [h0]; rfl) trivial
/-- The first place from the last d on that is no limb; -1: none. -/
def idxB (a : List Int) : Nat → Int
  | 0 => -1
  | d + 1 => if inB (rd a ((a.length - (d + 1) : Nat) : Int)) then idxB a d else ((a.length - (d + 1) : Nat) : Int)
theorem idxB_all (a : List Int) : ∀ d, d ≤ a.length → decide (idxB a d ≥ 0) = !(a.drop (a.length - d)).all inB
  | 0, _ => by simp [idxB]
  | d + 1, h => by
    rw [all_drop a _ (by omega), show a.length - (d + 1) + 1 = a.length - d by omega]
    unfold idxB
    cases hb : inB (rd a ((a.length - (d + 1) : Nat) : Int))
    · rw [if_neg (by simp), Bool.false_and]
      exact decide_eq_true (by omega)
    · rw [if_pos rfl, Bool.true_and]
      exact idxB_all a d (by omega)
theorem IndexFunc_c (a : List Int) (ha : a.length ≤ 1152921504606846976) : AC Try.prog 126 [tsI a, .fn (.func 122) [] []] [] (I (idxB a a.length)) [] := by
  refine AC.intro (fn := Try.f126) (c := ?_) 19 Try.func126 (by rfl) (by kernel_rfl) (by kernel_rfl) (Nat.le_of_ble_eq_true rfl) fun e hP hf hn h0 hE => ?_
  have hte : TEok e.P te := hP ▸ teOk
  have hmx : e.P.follows .mixedOrders = true := hP ▸ mixedOk
  refine Go.run hte hn 100 ?_; simp only [go_sem, Nat.reduceBEq, Nat.reduceLT, Nat.reduceAdd, Nat.reduceMul, Nat.reduceLeDiff]
  refine Go.enter (fun i : Nat => i ≤ a.length ∧ idxB a (a.length - i) = idxB a a.length) (fun i => a.length - i) (fun i => [(0, tsI a), (1, .fn (.func 122) [] []), (7, I a.length), (8, I i)]) (fun i => []) 0 [] ⟨Nat.zero_le _, rfl⟩ rfl rfl (by rw [h0]; rfl) (by simp [go_sem, tsI, slI, I, renL_ints, blk_ren, en_live, en_dead, ints_length, ints_nil, ints_one]) trivial ?_
  rintro i ⟨hi, hv⟩
  refine Go.run hte hn 100 ?_; simp only [go_sem, Nat.reduceBEq, Nat.reduceLT, Nat.reduceAdd, Nat.reduceMul, Nat.reduceLeDiff]
  refine Br.mk (fun hz => ?_) (fun hz => ?_)
  · have hlt : i < a.length := by have := of_decide_eq_true hz; omega
    have e1 : IntKind.i64.wrap ((i : Int) + 1) = ((i + 1 : Nat) : Int) := by rw [W64] <;> omega
    have c0 : (0 ≤ (i : Int)) = True := eq_true (by omega)
    have c1 : ((i : Int) < (a.length : Int)) = True := eq_true (by omega)
    have c2 : (0 < (ints a).length) = True := eq_true (by rw [ints_length]; omega)
    simp only [go_sem, Nat.reduceBEq, Nat.reduceLT, Nat.reduceAdd, Nat.reduceMul, Nat.reduceLeDiff, c0, c1, c2, Int.toNat_natCast, Nat.mul_one, nth_ints hlt]
    refine Go.call0 hP (NatOk1_c (rd a i)) rfl rfl rfl (by omega) (by simp [go_sem, tsI, slI, I, renL_ints, blk_ren, en_live, en_dead, ints_length, ints_nil, ints_one]) ?_
    have hst : idxB a (a.length - i) = if inB (rd a (i : Int)) then idxB a (a.length - (i + 1)) else (i : Int) := by
      obtain ⟨d, hd⟩ : ∃ d, a.length - i = d + 1 := ⟨a.length - i - 1, by omega⟩
      rw [hd, idxB, show a.length - (d + 1) = i by omega, show a.length - (i + 1) = d by omega]
    rw [hv] at hst
    cases hb : inB (rd a (i : Int))
    · rw [hb, if_neg (by simp)] at hst
      rw [hst] at hE
      refine Go.run hte hn 100 ?_; simp only [go_sem, Nat.reduceBEq, Nat.reduceLT, Nat.reduceAdd, Nat.reduceMul, Nat.reduceLeDiff, hb]
      refine Go.retG hte hE hf [] rfl (by simp [go_sem, tsI, slI, I, renL_ints, blk_ren, en_live, en_dead, ints_length, ints_nil, ints_one]) rfl (by rw [h0]; rfl) trivial
    · rw [hb, if_pos rfl] at hst
      refine Go.run hte hn 100 ?_; simp only [go_sem, Nat.reduceBEq, Nat.reduceLT, Nat.reduceAdd, Nat.reduceMul, Nat.reduceLeDiff, hb, e1]
      refine Go.round (i + 1) [] ⟨hlt, hst.symm⟩ (by omega) rfl rfl (by rw [h0]; rfl) (by simp [go_sem, tsI, slI, I, renL_ints, blk_ren, en_live, en_dead, ints_length, ints_nil, ints_one]) trivial
  · have hlt : i = a.length := by have := of_decide_eq_false hz; omega
    subst hlt
    rw [Nat.sub_self] at hv
    rw [← hv] at hE
    unfold idxB at hE
    refine Go.retG hte hE hf [] rfl (by simp [go_sem, tsI, slI, I, renL_ints, blk_ren, en_live, en_dead, ints_length, ints_nil, ints_one]) rfl (by rw [h0]; rfl) trivial
theorem ContainsFunc_c (a : List Int) (ha : a.length ≤ 1152921504606846976) : AC Try.prog 121 [tsI a, .fn (.func 122) [] []] [] (.v (.bool (!a.all inB))) [] := by
  refine AC.intro (fn := Try.f121) (c := ?_) 9 Try.func121 (by rfl) (by kernel_rfl) (by kernel_rfl) (Nat.le_of_ble_eq_true rfl) fun e hP hf hn h0 hE => ?_
  have hte : TEok e.P te := hP ▸ teOk
  have hmx : e.P.follows .mixedOrders = true := hP ▸ mixedOk
  refine Go.run hte hn 100 ?_; simp only [go_sem, Nat.reduceBEq, Nat.reduceLT, Nat.reduceAdd, Nat.reduceMul, Nat.reduceLeDiff]
  refine Go.call0 hP (IndexFunc_c a ha) rfl rfl rfl (by omega) (by simp [go_sem, tsI, slI, I, renL_ints, blk_ren, en_live, en_dead, ints_length, ints_nil, ints_one]) ?_
  have h := idxB_all a a.length (Nat.le_refl _)
  rw [Nat.sub_self, List.drop_zero] at h
  rw [← h] at hE
  refine Go.run hte hn 100 ?_; simp only [go_sem, Nat.reduceBEq, Nat.reduceLT, Nat.reduceAdd, Nat.reduceMul, Nat.reduceLeDiff]
  refine Go.retG hte hE hf [] rfl (by simp [go_sem, tsI, slI, I, renL_ints, blk_ren, en_live, en_dead, ints_length, ints_nil, ints_one]) rfl (by rw [h0]; rfl) trivial
theorem impl_NatOk_c (a : List Int) (ha : a.length ≤ 1152921504606846976) : AC Try.prog 107 [tsI a] [] (.v (.bool (nok a))) [] := by
  refine AC.intro (fn := Try.f107) (c := ?_) 23 Try.func107 (by rfl) (by kernel_rfl) (by kernel_rfl) (Nat.le_of_ble_eq_true rfl) fun e hP hf hn h0 hE => ?_
  have hte : TEok e.P te := hP ▸ teOk
  have hmx : e.P.follows .mixedOrders = true := hP ▸ mixedOk
  rw [nok_eq] at hE
  unfold ends0 at hE
  have fin : ∀ fr : Fr, True := fun _ => trivial
  by_cases h60 : a.length ≤ 60
  · have d1 : decide ((60 : Int) < (a.length : Int)) = false := decide_eq_false (by omega)
    rw [decide_eq_true h60, Bool.true_and] at hE
    by_cases h00 : a.length = 0
    · have d2 : decide ((0 : Int) < (a.length : Int)) = false := decide_eq_false (by omega)
      have hem : a.isEmpty = true := by rw [List.length_eq_zero_iff.mp h00]; rfl
      rw [hem, Bool.true_or, Bool.true_and] at hE
      refine Go.run hte hn 100 ?_; simp only [go_sem, Nat.reduceBEq, Nat.reduceLT, Nat.reduceAdd, Nat.reduceMul, Nat.reduceLeDiff, d1, d2]
      refine Go.call0 hP (ContainsFunc_c a ha) rfl rfl rfl (by omega) (by simp [go_sem, tsI, slI, I, renL_ints, blk_ren, en_live, en_dead, ints_length, ints_nil, ints_one]) ?_
      refine Go.run hte hn 100 ?_; simp only [go_sem, Nat.reduceBEq, Nat.reduceLT, Nat.reduceAdd, Nat.reduceMul, Nat.reduceLeDiff, Bool.not_not]
      refine Go.retG hte hE hf [] rfl (by simp [go_sem, tsI, slI, I, renL_ints, blk_ren, en_live, en_dead, ints_length, ints_nil, ints_one]) rfl (by rw [h0]; rfl) trivial
    · have d2 : decide ((0 : Int) < (a.length : Int)) = true := decide_eq_true (by omega)
      have e1 : IntKind.i64.wrap ((a.length : Int) - 1) = ((a.length - 1 : Nat) : Int) := by rw [W64] <;> omega
      have e2 : (a.length : Int) - 1 = ((a.length - 1 : Nat) : Int) := by omega
      have c0 : (0 ≤ ((a.length - 1 : Nat) : Int)) = True := eq_true (by omega)
      have c1 : (((a.length - 1 : Nat) : Int) < (a.length : Int)) = True := eq_true (by omega)
      have c2 : (0 < (ints a).length) = True := eq_true (by rw [ints_length]; omega)
      have hem : a.isEmpty = false := by
        cases a with
        | nil => exact absurd rfl h00
        | cons x r => rfl
      rw [hem, Bool.false_or, e2] at hE
      refine Go.run hte hn 100 ?_; simp only [go_sem, Nat.reduceBEq, Nat.reduceLT, Nat.reduceAdd, Nat.reduceMul, Nat.reduceLeDiff, d1, d2, e1, c0, c1, c2, Int.toNat_natCast, Nat.mul_one, nth_ints (show a.length - 1 < a.length by omega)]
      refine Br.mk (fun hz => ?_) (fun hz => ?_)
      · rw [hz, Bool.not_true, Bool.false_and] at hE
        refine Go.retG hte hE hf [] rfl (by simp [go_sem, tsI, slI, I, renL_ints, blk_ren, en_live, en_dead, ints_length, ints_nil, ints_one]) rfl (by rw [h0]; rfl) trivial
      · rw [hz, Bool.not_false, Bool.true_and] at hE
        refine Go.call0 hP (ContainsFunc_c a ha) rfl rfl rfl (by omega) (by simp [go_sem, tsI, slI, I, renL_ints, blk_ren, en_live, en_dead, ints_length, ints_nil, ints_one]) ?_
        refine Go.run hte hn 100 ?_; simp only [go_sem, Nat.reduceBEq, Nat.reduceLT, Nat.reduceAdd, Nat.reduceMul, Nat.reduceLeDiff, Bool.not_not]
        refine Go.retG hte hE hf [] rfl (by simp [go_sem, tsI, slI, I, renL_ints, blk_ren, en_live, en_dead, ints_length, ints_nil, ints_one]) rfl (by rw [h0]; rfl) trivial
  · have d1 : decide ((60 : Int) < (a.length : Int)) = true := decide_eq_true (by omega)
    rw [decide_eq_false h60, Bool.false_and, Bool.false_and] at hE
    refine Go.run hte hn 100 ?_; simp only [go_sem, Nat.reduceBEq, Nat.reduceLT, Nat.reduceAdd, Nat.reduceMul, Nat.reduceLeDiff, d1]
    refine Go.retG hte hE hf [] rfl (by simp [go_sem, tsI, slI, I, renL_ints, blk_ren, en_live, en_dead, ints_length, ints_nil, ints_one]) rfl (by rw [h0]; rfl) trivial
theorem impl_BigIntOk_c (s : Bool) (a : List Int) (ha : a.length ≤ 1152921504606846976) : AC Try.prog 106 [bigT s a] [] (.v (.bool (bok s a))) [] := by
  refine AC.intro (fn := Try.f106) (c := ?_) 17 Try.func106 (by rfl) (by kernel_rfl) (by kernel_rfl) (Nat.le_of_ble_eq_true rfl) fun e hP hf hn h0 hE => ?_
  have hte : TEok e.P te := hP ▸ teOk
  have hmx : e.P.follows .mixedOrders = true := hP ▸ mixedOk
  unfold bok at hE
  refine Go.run hte hn 100 ?_; simp only [go_sem, Nat.reduceBEq, Nat.reduceLT, Nat.reduceAdd, Nat.reduceMul, Nat.reduceLeDiff]
  refine Go.call0 hP (impl_NatOk_c a ha) rfl rfl rfl (by omega) (by simp [go_sem, tsI, slI, I, renL_ints, blk_ren, en_live, en_dead, ints_length, ints_nil, ints_one]) ?_
  cases hn' : nok a
  · rw [hn', Bool.false_and] at hE
    refine Go.run hte hn 100 ?_; simp only [go_sem, Nat.reduceBEq, Nat.reduceLT, Nat.reduceAdd, Nat.reduceMul, Nat.reduceLeDiff, hn']
    refine Go.retG hte hE hf [] rfl (by simp [go_sem, tsI, slI, I, renL_ints, blk_ren, en_live, en_dead, ints_length, ints_nil, ints_one]) rfl (by rw [h0]; rfl) trivial
  · rw [hn', Bool.true_and] at hE
    cases s
    · refine Go.run hte hn 100 ?_; simp only [go_sem, Nat.reduceBEq, Nat.reduceLT, Nat.reduceAdd, Nat.reduceMul, Nat.reduceLeDiff, hn']
      refine Go.retG hte hE hf [] rfl (by simp [go_sem, tsI, slI, I, renL_ints, blk_ren, en_live, en_dead, ints_length, ints_nil, ints_one]) rfl (by rw [h0]; rfl) trivial
    · have h : decide (0 < a.length) = !decide ((a.length : Int) = 0) := by by_cases h : a.length = 0 <;> simp [h] <;> omega
      rw [h] at hE
      refine Go.run hte hn 100 ?_; simp only [go_sem, Nat.reduceBEq, Nat.reduceLT, Nat.reduceAdd, Nat.reduceMul, Nat.reduceLeDiff, hn']
      refine Go.retG hte hE hf [] rfl (by simp [go_sem, tsI, slI, I, renL_ints, blk_ren, en_live, en_dead, ints_length, ints_nil, ints_one]) rfl (by rw [h0]; rfl) trivial

end Go.Proofs.Ytbblhgldfcodfaa.Ab
set_option linter.unusedVariables false
set_option linter.unusedSimpArgs false
set_option maxRecDepth 10000
namespace Go.Proofs.Ytbblhgldfcodfaa.Ab
open Go Go.RowKit
attribute [local go_sem] q_run q_seq q_skip q_block q_exit q_cond q_region q_nil q_op q_blk q_loop q_ret q_open q_inv q_fin q_go q_h0 q_h1 q_gskip q_stepC q_brt q_brf q_stepX q_sskip q_sskip0 q_val q_need q_new q_newc q_sv q_sto q_c1 q_c2 q_c3 q_c4 q_c5 q_c6 q_c7 q_c8 q_c9 q_c10 q_c11 q_c12 q_c13 q_c14 q_c15 q_c16 q_c17 q_c18 q_c19 q_c20 q_c21 q_c22 q_g0 q_g1 q_gC q_gD q_gE q_gB1 q_gB2 q_gB3 q_gB4 q_ev1 q_ev2 q_ev3 q_evo0 q_evo1 q_rv q_rva q_o1 q_o2 q_pk1 q_pk2 q_ld1p q_ld1e q_ld1t q_ldnp q_ldne q_ldnt q_sub0 q_sub1 q_subc q_stS q_stT q_box q_bldr q_bld q_fill0 q_fill1 q_fillB q_bsr q_bsl q_fap q_fat q_iasl q_iats q_lnsl q_lnts q_lnv q_lnS q_exA q_mkB q_lo0 q_lo1 q_hi0 q_hi1 q_slcA q_slcU1 q_slcU2 q_slcT1 q_slcT2 q_slsA q_slsU q_slsT q_apA q_apC q_srcE1 q_srcE2 q_srcE3 q_srcA1 q_srcB q_srcA2 q_srcA3 q_fnA q_nc1 q_nc2 q_bin q_bin2 q_bin3 q_bin4 q_bin5 q_bin6 q_bin7 q_bin8 q_bin9 q_bin10 q_i1 q_i2 q_i3 q_i4 q_i5 q_i6 q_i7 q_i8 q_i9 q_i10 q_i11 q_s1 q_s2 q_s3 q_u1 q_u2 q_min q_max q_ce1 q_ce2 q_ce3 q_ce4 q_ce5 q_ce6 q_ce7 q_ce8 q_ce9 q_ce10 q_ce11 q_on2 q_on3 q_on4 q_on5 q_on6 q_on7 q_on8 q_on9 q_on10 q_on11 q_enr1 q_gEt q_zr0 q_zr1 q_zgs q_zgg q_zk1 q_zk2 q_zd q_zv1 q_zv2 q_zv3 q_zp1 q_zp2 q_zf q_zs1 q_zs2 q_za q_za1 q_fi0 q_fi1 q_ln0 q_ln1 q_h01 q_h02 q_h03 q_h04 q_h05 q_h06 q_h07 q_h08 q_h09 q_h10 q_h11 q_h12 q_h13 q_h14 q_h15 q_h16 q_h17 q_h18 q_h19 q_h20 q_h21 q_h22 q_h23 q_h24 q_al q_b0 q_rs1 q_rs2 q_rs3 q_rs4 q_rs5 q_rs6 q_rs7 q_rs8 q_ro1 q_ro2 q_ro3 q_ro4 q_ro5 q_ro6 q_ro7 q_ro8 cond_true cond_false decide_true decide_false List.length_cons List.length_nil List.nil_append List.cons_append true_and and_true List.toList_toArray Option.map_some Nat.zero_add Nat.add_zero Bool.and_self Bool.and_true Bool.true_and Bool.and_false Bool.false_and Bool.not_true Bool.not_false FitF FitL LendL wb keys nodupB firstOk tupA op_move op_assign op_pick op_un op_box op_nc op_mf op_ex op_min op_max get put del nth evs evp sets setN ones popTo args0 AV.ren AV.renL rho List.take_succ_cons List.take_zero List.drop_succ_cons List.drop_zero Option.isNone_none Option.isNone_some o_al28 o_al30 o_al43 o_al80 o_al84 o_ap22 o_ap41 o_bi120 o_bi22 o_bi3 o_bi4 o_bi68 o_bs22_0 o_bs22_1 o_bs22_3 o_bs41_0 o_bs41_1 o_bu28 o_bu30 o_bu43 o_bu80 o_bu98 o_cn120 o_cn3 o_cv120_3 o_cv3_120 o_fa24_0 o_fa24_1 o_fa26_0 o_fa26_1 o_fa28_0 o_fa28_1 o_fa30_0 o_fa30_1 o_fa38_0 o_fa38_1 o_fa38_2 o_fa43_0 o_fa43_1 o_fa43_2 o_fa80_0 o_fa80_1 o_fa80_2 o_fa98_0 o_fa98_1 o_ia22 o_ia36 o_ia41 o_ia78 o_ia84 o_ib4 o_ip68 o_ld22 o_ld24 o_ld26 o_ld28 o_ld3 o_ld30 o_ld36 o_ld38 o_ld4 o_ld41 o_ld43 o_ld68 o_ld78 o_ld80 o_ld84 o_ln22 o_ln36 o_ln41 o_ln78 o_ln84 o_mk22 o_mk41 o_mk78 o_mk84 o_sl22 o_sl41 o_st22 o_st28 o_st3 o_st30 o_st4 o_st41 o_st43 o_st68 o_st80 o_st84 o_zb22 o_zb36 o_zb41 o_zb78 o_zb84 I tsI slI renL_ints blk_ren en_live en_dead List.set_cons_zero List.set_cons_succ List.map_cons List.map_nil List.append_nil frzF frzS AV.frz AV.frzL frzL_ints ints_all ints_all' ints_take1 ints_mk ints_mk1 mk_length res_ints resOk_ints plain_ints plainA plainL plainE plainS List.all_cons List.all_nil bigO bigT ratO ratT
/-! ### Zeros at the end, the program's -/
theorem trim_c (a : List Int) (ha : a.length ≤ 1152921504606846976) : AC Try.prog 120 [tsI a] [] (tsI (trim a)) [] := by
  refine AC.intro (fn := Try.f120) (c := ?_) 21 Try.func120 (by rfl) (by kernel_rfl) (by kernel_rfl) (Nat.le_of_ble_eq_true rfl) fun e hP hf hn h0 hE => ?_
  have hte : TEok e.P te := hP ▸ teOk
  have hmx : e.P.follows .mixedOrders = true := hP ▸ mixedOk
  refine Go.run hte hn 100 ?_; simp only [go_sem, Nat.reduceBEq, Nat.reduceLT, Nat.reduceAdd, Nat.reduceMul, Nat.reduceLeDiff]
  refine Go.enter (fun i : Nat => i ≤ a.length ∧ trimTo a i = trim a) (fun i => i) (fun i => [(0, tsI (a.take i))]) (fun i => []) a.length [] ⟨Nat.le_refl _, rfl⟩ rfl rfl (by rw [h0]; rfl) (by simp [go_sem, tsI, slI, I, renL_ints, blk_ren, en_live, en_dead, ints_length, ints_nil, ints_one]) trivial ?_
  rintro i ⟨hi, hv⟩
  have hl : (a.take i).length = i := by rw [List.length_take]; omega
  cases i with
  | zero =>
    refine Go.run hte hn 100 ?_; simp only [go_sem, Nat.reduceBEq, Nat.reduceLT, Nat.reduceAdd, Nat.reduceMul, Nat.reduceLeDiff, hl, Int.natCast_zero, Int.lt_irrefl]
    refine Go.retG hte hE hf [] rfl ?_ rfl (by rw [h0]; rfl) trivial
    rw [← hv]
    simp [go_sem, tsI, slI, I, renL_ints, blk_ren, en_live, en_dead, ints_length, ints_nil, ints_one, trimTo]
  | succ j =>
    have e1 : IntKind.i64.wrap (((j + 1 : Nat) : Int) - 1) = (j : Int) := by rw [W64] <;> omega
    have d1 : decide ((0 : Int) < ((j + 1 : Nat) : Int)) = true := decide_eq_true (by omega)
    have c0 : (0 ≤ (j : Int)) = True := eq_true (by omega)
    have c1 : ((j : Int) < ((j + 1 : Nat) : Int)) = True := eq_true (by omega)
    have c2 : (0 < (ints (a.take (j + 1))).length) = True := eq_true (by rw [ints_length, hl]; omega)
    refine Go.run hte hn 100 ?_; simp only [go_sem, Nat.reduceBEq, Nat.reduceLT, Nat.reduceAdd, Nat.reduceMul, Nat.reduceLeDiff, hl, d1, e1, c0, c1, c2, Int.toNat_natCast, Nat.mul_one, nth_ints (show j < (a.take (j + 1)).length by omega), rd_take a (Nat.lt_succ_self j)]
    refine Br.mk (fun hz => ?_) (fun hz => ?_)
    · refine ⟨by omega, ?_⟩
      simp only [Int.toNat_zero, Nat.sub_zero, List.drop_zero, ints_take, List.take_take, Nat.min_eq_left (Nat.le_succ j)]
      refine Go.round j [] ⟨by omega, ?_⟩ (Nat.lt_succ_self j) rfl rfl (by rw [h0]; rfl) ?_ trivial
      · rw [← hv, trimTo, if_pos (of_decide_eq_true hz)]
      · simp [go_sem, tsI, slI, I, renL_ints, blk_ren, en_live, en_dead, ints_length, ints_nil, ints_one]
        omega
    · refine Go.retG hte hE hf [] rfl ?_ rfl (by rw [h0]; rfl) trivial
      rw [← hv, trimTo, if_neg (of_decide_eq_false hz)]
      simp [go_sem, tsI, slI, I, renL_ints, blk_ren, en_live, en_dead, ints_length, ints_nil, ints_one, hl]

end Go.Proofs.Ytbblhgldfcodfaa.Ab
set_option linter.unusedVariables false
set_option linter.unusedSimpArgs false
set_option maxRecDepth 10000
namespace Go.Proofs.Ytbblhgldfcodfaa.Ab
open Go Go.RowKit
attribute [local go_sem] q_run q_seq q_skip q_block q_exit q_cond q_region q_nil q_op q_blk q_loop q_ret q_open q_inv q_fin q_go q_h0 q_h1 q_gskip q_stepC q_brt q_brf q_stepX q_sskip q_sskip0 q_val q_need q_new q_newc q_sv q_sto q_c1 q_c2 q_c3 q_c4 q_c5 q_c6 q_c7 q_c8 q_c9 q_c10 q_c11 q_c12 q_c13 q_c14 q_c15 q_c16 q_c17 q_c18 q_c19 q_c20 q_c21 q_c22 q_g0 q_g1 q_gC q_gD q_gE q_gB1 q_gB2 q_gB3 q_gB4 q_ev1 q_ev2 q_ev3 q_evo0 q_evo1 q_rv q_rva q_o1 q_o2 q_pk1 q_pk2 q_ld1p q_ld1e q_ld1t q_ldnp q_ldne q_ldnt q_sub0 q_sub1 q_subc q_stS q_stT q_box q_bldr q_bld q_fill0 q_fill1 q_fillB q_bsr q_bsl q_fap q_fat q_iasl q_iats q_lnsl q_lnts q_lnv q_lnS q_exA q_mkB q_lo0 q_lo1 q_hi0 q_hi1 q_slcA q_slcU1 q_slcU2 q_slcT1 q_slcT2 q_slsA q_slsU q_slsT q_apA q_apC q_srcE1 q_srcE2 q_srcE3 q_srcA1 q_srcB q_srcA2 q_srcA3 q_fnA q_nc1 q_nc2 q_bin q_bin2 q_bin3 q_bin4 q_bin5 q_bin6 q_bin7 q_bin8 q_bin9 q_bin10 q_i1 q_i2 q_i3 q_i4 q_i5 q_i6 q_i7 q_i8 q_i9 q_i10 q_i11 q_s1 q_s2 q_s3 q_u1 q_u2 q_min q_max q_ce1 q_ce2 q_ce3 q_ce4 q_ce5 q_ce6 q_ce7 q_ce8 q_ce9 q_ce10 q_ce11 q_on2 q_on3 q_on4 q_on5 q_on6 q_on7 q_on8 q_on9 q_on10 q_on11 q_enr1 q_gEt q_zr0 q_zr1 q_zgs q_zgg q_zk1 q_zk2 q_zd q_zv1 q_zv2 q_zv3 q_zp1 q_zp2 q_zf q_zs1 q_zs2 q_za q_za1 q_fi0 q_fi1 q_ln0 q_ln1 q_h01 q_h02 q_h03 q_h04 q_h05 q_h06 q_h07 q_h08 q_h09 q_h10 q_h11 q_h12 q_h13 q_h14 q_h15 q_h16 q_h17 q_h18 q_h19 q_h20 q_h21 q_h22 q_h23 q_h24 q_al q_b0 q_rs1 q_rs2 q_rs3 q_rs4 q_rs5 q_rs6 q_rs7 q_rs8 q_ro1 q_ro2 q_ro3 q_ro4 q_ro5 q_ro6 q_ro7 q_ro8 cond_true cond_false decide_true decide_false List.length_cons List.length_nil List.nil_append List.cons_append true_and and_true List.toList_toArray Option.map_some Nat.zero_add Nat.add_zero Bool.and_self Bool.and_true Bool.true_and Bool.and_false Bool.false_and Bool.not_true Bool.not_false FitF FitL LendL wb keys nodupB firstOk tupA op_move op_assign op_pick op_un op_box op_nc op_mf op_ex op_min op_max get put del nth evs evp sets setN ones popTo args0 AV.ren AV.renL rho List.take_succ_cons List.take_zero List.drop_succ_cons List.drop_zero Option.isNone_none Option.isNone_some o_al28 o_al30 o_al43 o_al80 o_al84 o_ap22 o_ap41 o_bi120 o_bi22 o_bi3 o_bi4 o_bi68 o_bs22_0 o_bs22_1 o_bs22_3 o_bs41_0 o_bs41_1 o_bu28 o_bu30 o_bu43 o_bu80 o_bu98 o_cn120 o_cn3 o_cv120_3 o_cv3_120 o_fa24_0 o_fa24_1 o_fa26_0 o_fa26_1 o_fa28_0 o_fa28_1 o_fa30_0 o_fa30_1 o_fa38_0 o_fa38_1 o_fa38_2 o_fa43_0 o_fa43_1 o_fa43_2 o_fa80_0 o_fa80_1 o_fa80_2 o_fa98_0 o_fa98_1 o_ia22 o_ia36 o_ia41 o_ia78 o_ia84 o_ib4 o_ip68 o_ld22 o_ld24 o_ld26 o_ld28 o_ld3 o_ld30 o_ld36 o_ld38 o_ld4 o_ld41 o_ld43 o_ld68 o_ld78 o_ld80 o_ld84 o_ln22 o_ln36 o_ln41 o_ln78 o_ln84 o_mk22 o_mk41 o_mk78 o_mk84 o_sl22 o_sl41 o_st22 o_st28 o_st3 o_st30 o_st4 o_st41 o_st43 o_st68 o_st80 o_st84 o_zb22 o_zb36 o_zb41 o_zb78 o_zb84 I tsI slI renL_ints blk_ren en_live en_dead List.set_cons_zero List.set_cons_succ List.map_cons List.map_nil List.append_nil frzF frzS AV.frz AV.frzL frzL_ints ints_all ints_all' ints_take1 ints_mk ints_mk1 mk_length res_ints resOk_ints plain_ints plainA plainL plainE plainS List.all_cons List.all_nil bigO bigT ratO ratT
/-! ### Which is greater -/
theorem l02Cmp_c (a b : List Int) (ha : a.length ≤ 1152921504606846976) (hb : b.length ≤ 1152921504606846976) : AC Try.prog 112 [tsI a, tsI b] [] (I (cmpL a b)) [] := by
  refine AC.intro (fn := Try.f112) (c := ?_) 41 Try.func112 (by rfl) (by kernel_rfl) (by kernel_rfl) (Nat.le_of_ble_eq_true rfl) fun e hP hf hn h0 hE => ?_
  have hte : TEok e.P te := hP ▸ teOk
  have hmx : e.P.follows .mixedOrders = true := hP ▸ mixedOk
  unfold cmpL at hE
  by_cases hl : a.length = b.length
  · have d1 : (¬ ((a.length : Int) = (b.length : Int))) = False := eq_false (by omega)
    have d2 : decide ((a.length : Int) = (b.length : Int)) = true := decide_eq_true (by omega)
    rw [if_pos hl] at hE
    have e0 : IntKind.i64.wrap ((a.length : Int) - 1) = (a.length : Int) - 1 := by rw [W64] <;> omega
    refine Go.run hte hn 100 ?_; simp only [go_sem, Nat.reduceBEq, Nat.reduceLT, Nat.reduceAdd, Nat.reduceMul, Nat.reduceLeDiff, d1, d2, e0, Bool.not_true]
    refine Go.enter (fun i : Nat => i ≤ a.length ∧ cmpI a b i = cmpI a b a.length) (fun i => i) (fun i => [(0, tsI a), (1, tsI b), (5, I ((i : Int) - 1))]) (fun i => []) a.length [] ⟨Nat.le_refl _, rfl⟩ rfl rfl (by rw [h0]; rfl) (by simp [go_sem, tsI, slI, I, renL_ints, blk_ren, en_live, en_dead, ints_length, ints_nil, ints_one]) trivial ?_
    rintro i ⟨hi, hv⟩
    cases i with
    | zero =>
      have d3 : decide ((0 : Int) ≤ ((0 : Nat) : Int) - 1) = false := by decide
      refine Go.run hte hn 100 ?_; simp only [go_sem, Nat.reduceBEq, Nat.reduceLT, Nat.reduceAdd, Nat.reduceMul, Nat.reduceLeDiff, d3]
      rw [← hv] at hE
      unfold cmpI at hE
      refine Go.retG hte hE hf [] rfl (by simp [go_sem, tsI, slI, I, renL_ints, blk_ren, en_live, en_dead, ints_length, ints_nil, ints_one]) rfl (by rw [h0]; rfl) trivial
    | succ j =>
      have e1 : (((j + 1 : Nat) : Int) - 1) = (j : Int) := by omega
      have e2 : IntKind.i64.wrap ((j : Int) - 1) = (j : Int) - 1 := by rw [W64] <;> omega
      have d3 : decide ((0 : Int) ≤ (j : Int)) = true := decide_eq_true (by omega)
      have c0 : (0 ≤ (j : Int)) = True := eq_true (by omega)
      have c1 : ((j : Int) < (a.length : Int)) = True := eq_true (by omega)
      have c2 : (0 < (ints a).length) = True := eq_true (by rw [ints_length]; omega)
      have c3 : ((j : Int) < (b.length : Int)) = True := eq_true (by omega)
      have c4 : (0 < (ints b).length) = True := eq_true (by rw [ints_length]; omega)
      rw [show cmpI a b (j + 1) = if rd a (j : Int) < rd b (j : Int) then -1 else if rd a (j : Int) > rd b (j : Int) then 1 else cmpI a b j from rfl] at hv
      refine Go.run hte hn 100 ?_; simp only [go_sem, Nat.reduceBEq, Nat.reduceLT, Nat.reduceAdd, Nat.reduceMul, Nat.reduceLeDiff, e1, d3]
      refine Go.openP 9 hte hn hmx (by kernel_rfl) ?_
      simp only [go_sem, Nat.reduceBEq, Nat.reduceLT, Nat.reduceAdd, Nat.reduceMul, Nat.reduceLeDiff, c0, c1, c2, c3, c4, Int.toNat_natCast, Nat.mul_one, nth_ints (show j < a.length by omega), nth_ints (show j < b.length by omega)]
      refine Go.run hte hn 100 ?_
      by_cases hlt : rd a (j : Int) < rd b (j : Int)
      · rw [if_pos hlt] at hv
        rw [← hv] at hE
        simp only [go_sem, Nat.reduceBEq, Nat.reduceLT, Nat.reduceAdd, Nat.reduceMul, Nat.reduceLeDiff, decide_eq_true hlt]
        refine Go.retG hte hE hf [] rfl (by simp [go_sem, tsI, slI, I, renL_ints, blk_ren, en_live, en_dead, ints_length, ints_nil, ints_one]) rfl (by rw [h0]; rfl) trivial
      · rw [if_neg hlt] at hv
        simp only [go_sem, Nat.reduceBEq, Nat.reduceLT, Nat.reduceAdd, Nat.reduceMul, Nat.reduceLeDiff, decide_eq_false hlt]
        refine Go.openP 9 hte hn hmx (by kernel_rfl) ?_
        simp only [go_sem, Nat.reduceBEq, Nat.reduceLT, Nat.reduceAdd, Nat.reduceMul, Nat.reduceLeDiff, c0, c1, c2, c3, c4, Int.toNat_natCast, Nat.mul_one, nth_ints (show j < a.length by omega), nth_ints (show j < b.length by omega)]
        refine Go.run hte hn 100 ?_
        by_cases hgt : rd a (j : Int) > rd b (j : Int)
        · rw [if_pos hgt] at hv
          rw [← hv] at hE
          have hgt' : decide (rd b (j : Int) < rd a (j : Int)) = true := decide_eq_true hgt
          simp only [go_sem, Nat.reduceBEq, Nat.reduceLT, Nat.reduceAdd, Nat.reduceMul, Nat.reduceLeDiff, hgt']
          refine Go.retG hte hE hf [] rfl (by simp [go_sem, tsI, slI, I, renL_ints, blk_ren, en_live, en_dead, ints_length, ints_nil, ints_one]) rfl (by rw [h0]; rfl) trivial
        · rw [if_neg hgt] at hv
          have hgt' : decide (rd b (j : Int) < rd a (j : Int)) = false := decide_eq_false hgt
          simp only [go_sem, Nat.reduceBEq, Nat.reduceLT, Nat.reduceAdd, Nat.reduceMul, Nat.reduceLeDiff, hgt', e2]
          refine Go.round j [] ⟨by omega, hv⟩ (Nat.lt_succ_self j) rfl rfl (by rw [h0]; rfl) (by simp [go_sem, tsI, slI, I, renL_ints, blk_ren, en_live, en_dead, ints_length, ints_nil, ints_one]) trivial
  · have d2 : decide ((a.length : Int) = (b.length : Int)) = false := decide_eq_false (by omega)
    rw [if_neg hl] at hE
    by_cases hlt : a.length < b.length
    · have d3 : decide ((a.length : Int) < (b.length : Int)) = true := decide_eq_true (by omega)
      rw [if_pos hlt] at hE
      refine Go.run hte hn 100 ?_; simp only [go_sem, Nat.reduceBEq, Nat.reduceLT, Nat.reduceAdd, Nat.reduceMul, Nat.reduceLeDiff, d2, d3, Bool.not_false]
      refine Go.retG hte hE hf [] rfl (by simp [go_sem, tsI, slI, I, renL_ints, blk_ren, en_live, en_dead, ints_length, ints_nil, ints_one]) rfl (by rw [h0]; rfl) trivial
    · have d3 : decide ((a.length : Int) < (b.length : Int)) = false := decide_eq_false (by omega)
      rw [if_neg hlt] at hE
      refine Go.run hte hn 100 ?_; simp only [go_sem, Nat.reduceBEq, Nat.reduceLT, Nat.reduceAdd, Nat.reduceMul, Nat.reduceLeDiff, d2, d3, Bool.not_false]
      refine Go.retG hte hE hf [] rfl (by simp [go_sem, tsI, slI, I, renL_ints, blk_ren, en_live, en_dead, ints_length, ints_nil, ints_one]) rfl (by rw [h0]; rfl) trivial
theorem compare_c (a b : List Int) (ha : a.length ≤ 1152921504606846976) (hb : b.length ≤ 1152921504606846976) : AC Try.prog 108 [tsI a, tsI b] [] (I (cmpL a b)) [] := by
  refine AC.intro (fn := Try.f108) (c := ?_) 43 Try.func108 (by rfl) (by kernel_rfl) (by kernel_rfl) (Nat.le_of_ble_eq_true rfl) fun e hP hf hn h0 hE => ?_
  have hte : TEok e.P te := hP ▸ teOk
  have hmx : e.P.follows .mixedOrders = true := hP ▸ mixedOk
  unfold cmpL at hE
  by_cases hl : a.length = b.length
  · have d1 : (¬ ((a.length : Int) = (b.length : Int))) = False := eq_false (by omega)
    have d2 : decide ((a.length : Int) = (b.length : Int)) = true := decide_eq_true (by omega)
    rw [if_pos hl] at hE
    have e0 : IntKind.i64.wrap ((a.length : Int) - 1) = (a.length : Int) - 1 := by rw [W64] <;> omega
    refine Go.run hte hn 100 ?_; simp only [go_sem, Nat.reduceBEq, Nat.reduceLT, Nat.reduceAdd, Nat.reduceMul, Nat.reduceLeDiff, d1, d2, e0, Bool.not_true]
    refine Go.enter (fun i : Nat => i ≤ a.length ∧ cmpI a b i = cmpI a b a.length) (fun i => i) (fun i => [(0, tsI a), (1, tsI b), (5, I ((i : Int) - 1))]) (fun i => []) a.length [] ⟨Nat.le_refl _, rfl⟩ rfl rfl (by rw [h0]; rfl) (by simp [go_sem, tsI, slI, I, renL_ints, blk_ren, en_live, en_dead, ints_length, ints_nil, ints_one]) trivial ?_
    rintro i ⟨hi, hv⟩
    cases i with
    | zero =>
      have d3 : decide ((0 : Int) ≤ ((0 : Nat) : Int) - 1) = false := by decide
      refine Go.run hte hn 100 ?_; simp only [go_sem, Nat.reduceBEq, Nat.reduceLT, Nat.reduceAdd, Nat.reduceMul, Nat.reduceLeDiff, d3]
      rw [← hv] at hE
      unfold cmpI at hE
      refine Go.retG hte hE hf [] rfl (by simp [go_sem, tsI, slI, I, renL_ints, blk_ren, en_live, en_dead, ints_length, ints_nil, ints_one]) rfl (by rw [h0]; rfl) trivial
    | succ j =>
      have e1 : (((j + 1 : Nat) : Int) - 1) = (j : Int) := by omega
      have e2 : IntKind.i64.wrap ((j : Int) - 1) = (j : Int) - 1 := by rw [W64] <;> omega
      have d3 : decide ((0 : Int) ≤ (j : Int)) = true := decide_eq_true (by omega)
      have c0 : (0 ≤ (j : Int)) = True := eq_true (by omega)
      have c1 : ((j : Int) < (a.length : Int)) = True := eq_true (by omega)
      have c2 : (0 < (ints a).length) = True := eq_true (by rw [ints_length]; omega)
      have c3 : ((j : Int) < (b.length : Int)) = True := eq_true (by omega)
      have c4 : (0 < (ints b).length) = True := eq_true (by rw [ints_length]; omega)
      rw [show cmpI a b (j + 1) = if rd a (j : Int) < rd b (j : Int) then -1 else if rd a (j : Int) > rd b (j : Int) then 1 else cmpI a b j from rfl] at hv
      refine Go.run hte hn 100 ?_; simp only [go_sem, Nat.reduceBEq, Nat.reduceLT, Nat.reduceAdd, Nat.reduceMul, Nat.reduceLeDiff, e1, d3]
      refine Go.openP 10 hte hn hmx (by kernel_rfl) ?_
      simp only [go_sem, Nat.reduceBEq, Nat.reduceLT, Nat.reduceAdd, Nat.reduceMul, Nat.reduceLeDiff, c0, c1, c2, c3, c4, Int.toNat_natCast, Nat.mul_one, nth_ints (show j < a.length by omega), nth_ints (show j < b.length by omega)]
      refine Go.run hte hn 100 ?_
      by_cases hlt : rd a (j : Int) < rd b (j : Int)
      · rw [if_pos hlt] at hv
        rw [← hv] at hE
        simp only [go_sem, Nat.reduceBEq, Nat.reduceLT, Nat.reduceAdd, Nat.reduceMul, Nat.reduceLeDiff, decide_eq_true hlt]
        refine Go.retG hte hE hf [] rfl (by simp [go_sem, tsI, slI, I, renL_ints, blk_ren, en_live, en_dead, ints_length, ints_nil, ints_one]) rfl (by rw [h0]; rfl) trivial
      · rw [if_neg hlt] at hv
        simp only [go_sem, Nat.reduceBEq, Nat.reduceLT, Nat.reduceAdd, Nat.reduceMul, Nat.reduceLeDiff, decide_eq_false hlt]
        refine Go.openP 10 hte hn hmx (by kernel_rfl) ?_
        simp only [go_sem, Nat.reduceBEq, Nat.reduceLT, Nat.reduceAdd, Nat.reduceMul, Nat.reduceLeDiff, c0, c1, c2, c3, c4, Int.toNat_natCast, Nat.mul_one, nth_ints (show j < a.length by omega), nth_ints (show j < b.length by omega)]
        refine Go.run hte hn 100 ?_
        by_cases hgt : rd a (j : Int) > rd b (j : Int)
        · rw [if_pos hgt] at hv
          rw [← hv] at hE
          have hgt' : decide (rd b (j : Int) < rd a (j : Int)) = true := decide_eq_true hgt
          simp only [go_sem, Nat.reduceBEq, Nat.reduceLT, Nat.reduceAdd, Nat.reduceMul, Nat.reduceLeDiff, hgt']
          refine Go.retG hte hE hf [] rfl (by simp [go_sem, tsI, slI, I, renL_ints, blk_ren, en_live, en_dead, ints_length, ints_nil, ints_one]) rfl (by rw [h0]; rfl) trivial
        · rw [if_neg hgt] at hv
          have hgt' : decide (rd b (j : Int) < rd a (j : Int)) = false := decide_eq_false hgt
          simp only [go_sem, Nat.reduceBEq, Nat.reduceLT, Nat.reduceAdd, Nat.reduceMul, Nat.reduceLeDiff, hgt', e2]
          refine Go.round j [] ⟨by omega, hv⟩ (Nat.lt_succ_self j) rfl rfl (by rw [h0]; rfl) (by simp [go_sem, tsI, slI, I, renL_ints, blk_ren, en_live, en_dead, ints_length, ints_nil, ints_one]) trivial
  · have d2 : decide ((a.length : Int) = (b.length : Int)) = false := decide_eq_false (by omega)
    rw [if_neg hl] at hE
    by_cases hlt : a.length < b.length
    · have d3 : decide ((a.length : Int) < (b.length : Int)) = true := decide_eq_true (by omega)
      rw [if_pos hlt] at hE
      refine Go.run hte hn 100 ?_; simp only [go_sem, Nat.reduceBEq, Nat.reduceLT, Nat.reduceAdd, Nat.reduceMul, Nat.reduceLeDiff, d2, d3, Bool.not_false]
      refine Go.retG hte hE hf [] rfl (by simp [go_sem, tsI, slI, I, renL_ints, blk_ren, en_live, en_dead, ints_length, ints_nil, ints_one]) rfl (by rw [h0]; rfl) trivial
    · have d3 : decide ((a.length : Int) < (b.length : Int)) = false := decide_eq_false (by omega)
      rw [if_neg hlt] at hE
      refine Go.run hte hn 100 ?_; simp only [go_sem, Nat.reduceBEq, Nat.reduceLT, Nat.reduceAdd, Nat.reduceMul, Nat.reduceLeDiff, d2, d3, Bool.not_false]
      refine Go.retG hte hE hf [] rfl (by simp [go_sem, tsI, slI, I, renL_ints, blk_ren, en_live, en_dead, ints_length, ints_nil, ints_one]) rfl (by rw [h0]; rfl) trivial

end Go.Proofs.Ytbblhgldfcodfaa.Ab
