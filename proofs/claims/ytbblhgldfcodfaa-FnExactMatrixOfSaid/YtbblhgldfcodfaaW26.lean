/- Contracts of the given program's functions and of the reference's (walks). -/
import Derived.Test.YtbblhgldfcodfaaAbT
import Derived.Test.YtbblhgldfcodfaaAbP
import Derived.Test.YtbblhgldfcodfaaAbN
import Derived.Test.YtbblhgldfcodfaaAbD
import Derived.Test.YtbblhgldfcodfaaAbK
import Derived.Test.YtbblhgldfcodfaaRunW1
import Derived.Test.YtbblhgldfcodfaaRunW5
import Derived.Test.YtbblhgldfcodfaaRunW9
import Derived.Test.YtbblhgldfcodfaaW12
import Derived.Test.YtbblhgldfcodfaaW13
import Derived.Test.YtbblhgldfcodfaaW21
import Derived.Test.YtbblhgldfcodfaaW22
import Derived.Test.YtbblhgldfcodfaaW25
set_option linter.unusedVariables false
set_option linter.unusedSimpArgs false
set_option maxRecDepth 10000
namespace Go.Proofs.Ytbblhgldfcodfaa.Ab
open Go Go.RowKit
attribute [local go_sem] q_run q_seq q_skip q_block q_exit q_cond q_region q_nil q_op q_blk q_loop q_ret q_open q_inv q_fin q_go q_h0 q_h1 q_gskip q_stepC q_brt q_brf q_stepX q_sskip q_sskip0 q_val q_need q_new q_newc q_sv q_sto q_c1 q_c2 q_c3 q_c4 q_c5 q_c6 q_c7 q_c8 q_c9 q_c10 q_c11 q_c12 q_c13 q_c14 q_c15 q_c16 q_c17 q_c18 q_c19 q_c20 q_c21 q_c22 q_g0 q_g1 q_gC q_gD q_gE q_gB1 q_gB2 q_gB3 q_gB4 q_ev1 q_ev2 q_ev3 q_evo0 q_evo1 q_rv q_rva q_o1 q_o2 q_pk1 q_pk2 q_ld1p q_ld1e q_ld1t q_ldnp q_ldne q_ldnt q_sub0 q_sub1 q_subc q_stS q_stT q_box q_bldr q_bld q_fill0 q_fill1 q_fillB q_bsr q_bsl q_fap q_fat q_iasl q_iats q_lnsl q_lnts q_lnv q_lnS q_exA q_mkB q_lo0 q_lo1 q_hi0 q_hi1 q_slcA q_slcU1 q_slcU2 q_slcT1 q_slcT2 q_slsA q_slsU q_slsT q_apA q_apC q_srcE1 q_srcE2 q_srcE3 q_srcA1 q_srcB q_srcA2 q_srcA3 q_fnA q_nc1 q_nc2 q_bin q_bin2 q_bin3 q_bin4 q_bin5 q_bin6 q_bin7 q_bin8 q_bin9 q_bin10 q_i1 q_i2 q_i3 q_i4 q_i5 q_i6 q_i7 q_i8 q_i9 q_i10 q_i11 q_s1 q_s2 q_s3 q_u1 q_u2 q_min q_max q_ce1 q_ce2 q_ce3 q_ce4 q_ce5 q_ce6 q_ce7 q_ce8 q_ce9 q_ce10 q_ce11 q_on2 q_on3 q_on4 q_on5 q_on6 q_on7 q_on8 q_on9 q_on10 q_on11 q_enr1 q_gEt q_zr0 q_zr1 q_zgs q_zgg q_zk1 q_zk2 q_zd q_zv1 q_zv2 q_zv3 q_zp1 q_zp2 q_zf q_zs1 q_zs2 q_za q_za1 q_fi0 q_fi1 q_ln0 q_ln1 q_h01 q_h02 q_h03 q_h04 q_h05 q_h06 q_h07 q_h08 q_h09 q_h10 q_h11 q_h12 q_h13 q_h14 q_h15 q_h16 q_h17 q_h18 q_h19 q_h20 q_h21 q_h22 q_h23 q_h24 q_al q_b0 q_rs1 q_rs2 q_rs3 q_rs4 q_rs5 q_rs6 q_rs7 q_rs8 q_ro1 q_ro2 q_ro3 q_ro4 q_ro5 q_ro6 q_ro7 q_ro8 cond_true cond_false decide_true decide_false List.length_cons List.length_nil List.nil_append List.cons_append true_and and_true List.toList_toArray Option.map_some Nat.zero_add Nat.add_zero Bool.and_self Bool.and_true Bool.true_and Bool.and_false Bool.false_and Bool.not_true Bool.not_false FitF FitL LendL wb keys nodupB firstOk tupA op_move op_assign op_pick op_un op_box op_nc op_mf op_ex op_min op_max get put del nth evs evp sets setN ones popTo args0 AV.ren AV.renL rho List.take_succ_cons List.take_zero List.drop_succ_cons List.drop_zero Option.isNone_none Option.isNone_some o_al28 o_al30 o_al43 o_al80 o_al84 o_ap22 o_ap41 o_bi120 o_bi22 o_bi3 o_bi4 o_bi68 o_bs22_0 o_bs22_1 o_bs22_3 o_bs41_0 o_bs41_1 o_bu28 o_bu30 o_bu43 o_bu80 o_bu98 o_cn120 o_cn3 o_cv120_3 o_cv3_120 o_fa24_0 o_fa24_1 o_fa26_0 o_fa26_1 o_fa28_0 o_fa28_1 o_fa30_0 o_fa30_1 o_fa38_0 o_fa38_1 o_fa38_2 o_fa43_0 o_fa43_1 o_fa43_2 o_fa80_0 o_fa80_1 o_fa80_2 o_fa98_0 o_fa98_1 o_ia22 o_ia36 o_ia41 o_ia78 o_ia84 o_ib4 o_ip68 o_ld22 o_ld24 o_ld26 o_ld28 o_ld3 o_ld30 o_ld36 o_ld38 o_ld4 o_ld41 o_ld43 o_ld68 o_ld78 o_ld80 o_ld84 o_ln22 o_ln36 o_ln41 o_ln78 o_ln84 o_mk22 o_mk41 o_mk78 o_mk84 o_sl22 o_sl41 o_st22 o_st28 o_st3 o_st30 o_st4 o_st41 o_st43 o_st68 o_st80 o_st84 o_zb22 o_zb36 o_zb41 o_zb78 o_zb84 I tsI slI renL_ints blk_ren en_live en_dead List.set_cons_zero List.set_cons_succ List.map_cons List.map_nil List.append_nil frzF frzS AV.frz AV.frzL frzL_ints ints_all ints_all' ints_take1 ints_mk ints_mk1 mk_length res_ints resOk_ints plain_ints plainA plainL plainE plainS List.all_cons List.all_nil bigO bigT ratO ratT
/-! ### Quotient and rest, the reference's -/
theorem mid_ints (lo hi q : Nat) (hq : q = (lo + hi + 1) / 2) (k : hi ≤ 999999999) (h : lo ≤ hi) : IntKind.i64.wrap ((lo : Int) + (hi : Int)) = ((lo + hi : Nat) : Int) ∧ IntKind.i64.wrap (((lo + hi : Nat) : Int) + 1) = ((lo + hi + 1 : Nat) : Int) ∧ IntKind.i64.wrap (Int.tdiv ((lo + hi + 1 : Nat) : Int) 2) = (q : Int) ∧ (1 ≤ q → IntKind.i64.wrap ((q : Int) - 1) = ((q - 1 : Nat) : Int)) := by
  have e : Int.tdiv ((lo + hi + 1 : Nat) : Int) 2 = (q : Int) := by rw [show (2 : Int) = ((2 : Nat) : Int) from rfl, tdiv_nn, hq]
  rw [e]
  exact ⟨by rw [W64] <;> omega, by rw [W64] <;> omega, by rw [W64] <;> omega, fun h => by rw [W64] <;> omega⟩
theorem l02Digit_c (R B : Nat) (hB : B ≠ 0) (h1 : B ≤ R) (h2 : R < B * 1000000000) (hl : (dg R).length ≤ 900) : AC Try.prog 113 [tsI (dg R), tsI (dg B)] [] (I ((R / B : Nat) : Int)) [] := by
  refine AC.intro (fn := Try.f113) (c := ?_) 63 Try.func113 (by rfl) (by kernel_rfl) (by kernel_rfl) (Nat.le_of_ble_eq_true rfl) fun e hP hf hn h0 hE => ?_
  have hte : TEok e.P te := hP ▸ teOk
  have hmx : e.P.follows .mixedOrders = true := hP ▸ mixedOk
  obtain ⟨m, x, b1, D⟩ := digit_data hB h1 h2
  have hlb := D.lb
  have hlr : (dg B).length ≤ (dg R).length := dg_len_mono h1
  have c1 : (0 ≤ (m : Int)) = True := eq_true (Int.natCast_nonneg _)
  have c2 : ((m : Int) < ((dg B).length : Int)) = True := eq_true (by omega)
  have c3 : (0 < (ints (dg B)).length) = True := eq_true (by rw [ints_length]; omega)
  have c4 : ((m : Int) < ((dg R).length : Int)) = True := eq_true (by omega)
  have c5 : (0 < (ints (dg R)).length) = True := eq_true (by rw [ints_length]; omega)
  have n1 := nth_ints (l := dg B) (n := m) (by omega)
  rw [D.rb] at n1
  have n2 := nth_ints (l := dg R) (n := m) (by omega)
  have b9 := D.b9
  have q9 := D.q9
  have x9 := D.x9
  have b0 := D.b0
  have z1 : ((b1 + 1 : Nat) : Int) ≠ 0 := by omega
  have z2 : (b1 : Int) ≠ 0 := by omega
  have hxb : x / b1 ≤ 9223372036854775807 := Nat.le_trans (Nat.div_le_self _ _) (by omega)
  have hxb1 : x / (b1 + 1) ≤ 9223372036854775807 := Nat.le_trans (Nat.div_le_self _ _) (by omega)
  have w1 : IntKind.i64.wrap (((dg B).length : Int) - 1) = (m : Int) := by rw [W64] <;> omega
  have w2 : IntKind.i64.wrap ((b1 : Int) + 1) = ((b1 + 1 : Nat) : Int) := by rw [W64] <;> omega
  have w3 := iw _ hxb
  have w4 := iw _ hxb1
  have hmin : (if ((x / b1 : Nat) : Int) < 999999999 then ((x / b1 : Nat) : Int) else 999999999) = ((min (x / b1) 999999999 : Nat) : Int) := by generalize x / b1 = a; split <;> omega
  rcases D.lr with ⟨l1, l2, l3⟩ | ⟨l1, y, z, l2, l3, l4, l5, l6⟩
  · have d1 : decide (((dg B).length : Int) < ((dg R).length : Int)) = false := decide_eq_false (by omega)
    rw [l2] at n2
    refine Go.run hte hn 100 ?_; simp only [go_sem, Nat.reduceBEq, Nat.reduceLT, Nat.reduceAdd, Nat.reduceMul, Nat.reduceLeDiff, w1, c1, c2, c3, c4, c5, n1, n2, d1, w2, z1, z2, tdiv_nn, w3, w4, Int.toNat_natCast, Nat.mul_one]
    refine ⟨z1, z2, ?_⟩
    simp only [hmin]
    refine Go.enter (fun y : Nat × Nat => y.1 ≤ R / B ∧ R / B ≤ y.2 ∧ y.2 ≤ 999999999) (fun y => y.2 - y.1) (fun y => [(0, tsI (dg R)), (1, tsI (dg B)), (7, I y.1), (8, I y.2)]) (fun y => []) (x / (b1 + 1), min (x / b1) 999999999) [] ⟨D.lo, Nat.le_min.mpr ⟨D.hi, q9⟩, Nat.min_le_right _ _⟩ rfl rfl (by rw [h0]; rfl) (by simp [go_sem, tsI, slI, I, renL_ints, blk_ren, en_live, en_dead, ints_length, ints_nil, ints_one]) trivial ?_
    rintro ⟨lo, hi⟩ ⟨k1, k2, k3⟩
    simp only at k1 k2 k3
    by_cases hlt : lo < hi
    · have dL : decide ((lo : Int) < (hi : Int)) = true := decide_eq_true (by omega)
      obtain ⟨q, hq⟩ : ∃ q, q = (lo + hi + 1) / 2 := ⟨_, rfl⟩
      obtain ⟨v1, v2, v3, v4⟩ := mid_ints lo hi q hq k3 (Nat.le_of_lt hlt)
      have hq1 : lo < q ∧ q ≤ hi := by omega
      have C1 := spec_NatOf_c q (by omega)
      have C2 := l02Mul_c (dg B) (dg q) (dg_Dig _) (dg_Dig _) (by omega) (by have := dg_short (n := q) (by omega); omega)
      rw [val_dg, val_dg] at C2
      have hBq : (dg (B * q)).length ≤ 901 := Nat.le_trans (dg_len_mono (Nat.mul_le_mul_left B (show q ≤ 1000000000 by omega))) (Nat.le_trans (mul_len B 1000000000 (by decide) (Nat.le_refl _)).2 (by omega))
      have C3 := l02Cmp_c (dg (B * q)) (dg R) (by omega) (by omega)
      rw [cmpL_dg] at C3
      refine Go.run hte hn 100 ?_; simp only [go_sem, Nat.reduceBEq, Nat.reduceLT, Nat.reduceAdd, Nat.reduceMul, Nat.reduceLeDiff, dL, v1, v2, v3]
      refine ⟨by omega, ?_⟩
      refine Go.call0 hP (C1) rfl rfl rfl (by omega) (by simp [go_sem, tsI, slI, I, renL_ints, blk_ren, en_live, en_dead, ints_length, ints_nil, ints_one]) ?_
      refine Go.run hte hn 100 ?_; simp only [go_sem, Nat.reduceBEq, Nat.reduceLT, Nat.reduceAdd, Nat.reduceMul, Nat.reduceLeDiff]
      refine Go.freeze (nm := 0) rfl ?_; simp only [go_sem, Nat.reduceBEq, Nat.reduceLT, Nat.reduceAdd, Nat.reduceMul, Nat.reduceLeDiff]
      refine Go.call0 hP (C2) rfl rfl rfl (by omega) (by simp [go_sem, tsI, slI, I, renL_ints, blk_ren, en_live, en_dead, ints_length, ints_nil, ints_one]) ?_
      refine Go.run hte hn 100 ?_; simp only [go_sem, Nat.reduceBEq, Nat.reduceLT, Nat.reduceAdd, Nat.reduceMul, Nat.reduceLeDiff]
      refine Go.call0 hP (C3) rfl rfl rfl (by omega) (by simp [go_sem, tsI, slI, I, renL_ints, blk_ren, en_live, en_dead, ints_length, ints_nil, ints_one]) ?_
      by_cases hle : B * q ≤ R
      · have dC : decide ((if B * q < R then (-1 : Int) else if B * q > R then 1 else 0) ≤ 0) = true := decide_eq_true (by split <;> (try split) <;> omega)
        have hqQ : q ≤ R / B := by rw [Nat.le_div_iff_mul_le (by omega), Nat.mul_comm]; exact hle
        refine Go.run hte hn 100 ?_; simp only [go_sem, Nat.reduceBEq, Nat.reduceLT, Nat.reduceAdd, Nat.reduceMul, Nat.reduceLeDiff, dC]
        refine Go.round (q, hi) [] ⟨hqQ, k2, k3⟩ (by simp only; omega) rfl rfl (by rw [h0]; rfl) (by simp [go_sem, tsI, slI, I, renL_ints, blk_ren, en_live, en_dead, ints_length, ints_nil, ints_one]) (by simp [go_sem, tsI, slI, I, renL_ints, blk_ren, en_live, en_dead, ints_length, ints_nil, ints_one])
      · have dC : decide ((if B * q < R then (-1 : Int) else if B * q > R then 1 else 0) ≤ 0) = false := decide_eq_false (by rw [if_neg (by omega), if_pos (by omega)]; omega)
        have hqQ : R / B < q := by rw [Nat.div_lt_iff_lt_mul (by omega), Nat.mul_comm]; omega
        refine Go.run hte hn 100 ?_; simp only [go_sem, Nat.reduceBEq, Nat.reduceLT, Nat.reduceAdd, Nat.reduceMul, Nat.reduceLeDiff, dC, v4 (by omega)]
        refine Go.round (lo, q - 1) [] ⟨k1, by simp only; omega, by simp only; omega⟩ (by simp only; omega) rfl rfl (by rw [h0]; rfl) (by simp [go_sem, tsI, slI, I, renL_ints, blk_ren, en_live, en_dead, ints_length, ints_nil, ints_one]) (by simp [go_sem, tsI, slI, I, renL_ints, blk_ren, en_live, en_dead, ints_length, ints_nil, ints_one])
    · have dL : decide ((lo : Int) < (hi : Int)) = false := decide_eq_false (by omega)
      have e : lo = R / B := by omega
      subst e
      refine Go.run hte hn 100 ?_; simp only [go_sem, Nat.reduceBEq, Nat.reduceLT, Nat.reduceAdd, Nat.reduceMul, Nat.reduceLeDiff, dL]
      refine Go.retG hte hE hf [] rfl (by simp [go_sem, tsI, slI, I, renL_ints, blk_ren, en_live, en_dead, ints_length, ints_nil, ints_one]) rfl (by rw [h0]; rfl) trivial
  · have d1 : decide (((dg B).length : Int) < ((dg R).length : Int)) = true := decide_eq_true (by omega)
    have n3 := nth_ints (l := dg R) (n := (dg B).length) (by omega)
    have e3 : rd (dg R) (((dg B).length : Nat) : Int) = (z : Int) := by rw [hlb]; exact l3
    rw [e3] at n3
    rw [l2] at n2
    have c6 : (0 ≤ ((dg B).length : Int)) = True := eq_true (by omega)
    have c7 : (((dg B).length : Int) < ((dg R).length : Int)) = True := eq_true (by omega)
    have w5 : IntKind.i64.wrap ((z : Int) * 1000000000) = ((z * 1000000000 : Nat) : Int) := by clear w1 w2 w3 w4; rw [W64] <;> omega
    have w6 : IntKind.i64.wrap ((y : Int) + ((z * 1000000000 : Nat) : Int)) = (x : Int) := by clear w1 w2 w3 w4 w5; rw [W64] <;> omega
    refine Go.run hte hn 100 ?_; simp only [go_sem, Nat.reduceBEq, Nat.reduceLT, Nat.reduceAdd, Nat.reduceMul, Nat.reduceLeDiff, w1, c1, c2, c3, c4, c5, c6, c7, n1, n2, n3, d1, w2, z1, z2, tdiv_nn, w3, w4, w5, w6, Int.toNat_natCast, Nat.mul_one]
    refine ⟨z1, z2, ?_⟩
    simp only [hmin]
    refine Go.enter (fun y : Nat × Nat => y.1 ≤ R / B ∧ R / B ≤ y.2 ∧ y.2 ≤ 999999999) (fun y => y.2 - y.1) (fun y => [(0, tsI (dg R)), (1, tsI (dg B)), (7, I y.1), (8, I y.2)]) (fun y => []) (x / (b1 + 1), min (x / b1) 999999999) [] ⟨D.lo, Nat.le_min.mpr ⟨D.hi, q9⟩, Nat.min_le_right _ _⟩ rfl rfl (by rw [h0]; rfl) (by simp [go_sem, tsI, slI, I, renL_ints, blk_ren, en_live, en_dead, ints_length, ints_nil, ints_one]) trivial ?_
    rintro ⟨lo, hi⟩ ⟨k1, k2, k3⟩
    simp only at k1 k2 k3
    by_cases hlt : lo < hi
    · have dL : decide ((lo : Int) < (hi : Int)) = true := decide_eq_true (by omega)
      obtain ⟨q, hq⟩ : ∃ q, q = (lo + hi + 1) / 2 := ⟨_, rfl⟩
      obtain ⟨v1, v2, v3, v4⟩ := mid_ints lo hi q hq k3 (Nat.le_of_lt hlt)
      have hq1 : lo < q ∧ q ≤ hi := by omega
      have C1 := spec_NatOf_c q (by omega)
      have C2 := l02Mul_c (dg B) (dg q) (dg_Dig _) (dg_Dig _) (by omega) (by have := dg_short (n := q) (by omega); omega)
      rw [val_dg, val_dg] at C2
      have hBq : (dg (B * q)).length ≤ 901 := Nat.le_trans (dg_len_mono (Nat.mul_le_mul_left B (show q ≤ 1000000000 by omega))) (Nat.le_trans (mul_len B 1000000000 (by decide) (Nat.le_refl _)).2 (by omega))
      have C3 := l02Cmp_c (dg (B * q)) (dg R) (by omega) (by omega)
      rw [cmpL_dg] at C3
      refine Go.run hte hn 100 ?_; simp only [go_sem, Nat.reduceBEq, Nat.reduceLT, Nat.reduceAdd, Nat.reduceMul, Nat.reduceLeDiff, dL, v1, v2, v3]
      refine ⟨by omega, ?_⟩
      refine Go.call0 hP (C1) rfl rfl rfl (by omega) (by simp [go_sem, tsI, slI, I, renL_ints, blk_ren, en_live, en_dead, ints_length, ints_nil, ints_one]) ?_
      refine Go.run hte hn 100 ?_; simp only [go_sem, Nat.reduceBEq, Nat.reduceLT, Nat.reduceAdd, Nat.reduceMul, Nat.reduceLeDiff]
      refine Go.freeze (nm := 0) rfl ?_; simp only [go_sem, Nat.reduceBEq, Nat.reduceLT, Nat.reduceAdd, Nat.reduceMul, Nat.reduceLeDiff]
      refine Go.call0 hP (C2) rfl rfl rfl (by omega) (by simp [go_sem, tsI, slI, I, renL_ints, blk_ren, en_live, en_dead, ints_length, ints_nil, ints_one]) ?_
      refine Go.run hte hn 100 ?_; simp only [go_sem, Nat.reduceBEq, Nat.reduceLT, Nat.reduceAdd, Nat.reduceMul, Nat.reduceLeDiff]
      refine Go.call0 hP (C3) rfl rfl rfl (by omega) (by simp [go_sem, tsI, slI, I, renL_ints, blk_ren, en_live, en_dead, ints_length, ints_nil, ints_one]) ?_
      by_cases hle : B * q ≤ R
      · have dC : decide ((if B * q < R then (-1 : Int) else if B * q > R then 1 else 0) ≤ 0) = true := decide_eq_true (by split <;> (try split) <;> omega)
        have hqQ : q ≤ R / B := by rw [Nat.le_div_iff_mul_le (by omega), Nat.mul_comm]; exact hle
        refine Go.run hte hn 100 ?_; simp only [go_sem, Nat.reduceBEq, Nat.reduceLT, Nat.reduceAdd, Nat.reduceMul, Nat.reduceLeDiff, dC]
        refine Go.round (q, hi) [] ⟨hqQ, k2, k3⟩ (by simp only; omega) rfl rfl (by rw [h0]; rfl) (by simp [go_sem, tsI, slI, I, renL_ints, blk_ren, en_live, en_dead, ints_length, ints_nil, ints_one]) (by simp [go_sem, tsI, slI, I, renL_ints, blk_ren, en_live, en_dead, ints_length, ints_nil, ints_one])
      · have dC : decide ((if B * q < R then (-1 : Int) else if B * q > R then 1 else 0) ≤ 0) = false := decide_eq_false (by rw [if_neg (by omega), if_pos (by omega)]; omega)
        have hqQ : R / B < q := by rw [Nat.div_lt_iff_lt_mul (by omega), Nat.mul_comm]; omega
        refine Go.run hte hn 100 ?_; simp only [go_sem, Nat.reduceBEq, Nat.reduceLT, Nat.reduceAdd, Nat.reduceMul, Nat.reduceLeDiff, dC, v4 (by omega)]
        refine Go.round (lo, q - 1) [] ⟨k1, by simp only; omega, by simp only; omega⟩ (by simp only; omega) rfl rfl (by rw [h0]; rfl) (by simp [go_sem, tsI, slI, I, renL_ints, blk_ren, en_live, en_dead, ints_length, ints_nil, ints_one]) (by simp [go_sem, tsI, slI, I, renL_ints, blk_ren, en_live, en_dead, ints_length, ints_nil, ints_one])
    · have dL : decide ((lo : Int) < (hi : Int)) = false := decide_eq_false (by omega)
      have e : lo = R / B := by omega
      subst e
      refine Go.run hte hn 100 ?_; simp only [go_sem, Nat.reduceBEq, Nat.reduceLT, Nat.reduceAdd, Nat.reduceMul, Nat.reduceLeDiff, dL]
      refine Go.retG hte hE hf [] rfl (by simp [go_sem, tsI, slI, I, renL_ints, blk_ren, en_live, en_dead, ints_length, ints_nil, ints_one]) rfl (by rw [h0]; rfl) trivial
theorem div_ints (i la S : Nat) (h : i < la) (hl : la ≤ 890) : (((i + 1 : Nat) : Int) - 1 = (i : Int)) ∧ IntKind.i64.wrap ((i : Int) - 1) = (i : Int) - 1 ∧ decide ((0 : Int) ≤ (i : Int)) = true ∧ (0 ≤ (i : Int)) = True ∧ ((i : Int) < (la : Int)) = True ∧ True :=
  ⟨by omega, by rw [W64] <;> omega, decide_eq_true (by omega), eq_true (by omega), eq_true (by omega), trivial⟩
theorem l02Div_c (A B : Nat) (hB : B ≠ 0) (hal : (dg A).length ≤ 890) (hbl : (dg B).length ≤ 890) : AC Try.prog 90 [tsI (dg A), tsI (dg B)] [] (.tup [tsI (dg (A / B)), tsI (dg (A % B))]) [] := by
  refine AC.intro (fn := Try.f90) (c := ?_) 65 Try.func90 (by rfl) (by kernel_rfl) (by kernel_rfl) (Nat.le_of_ble_eq_true rfl) fun e hP hf hn h0 hE => ?_
  have hte : TEok e.P te := hP ▸ teOk
  have hmx : e.P.follows .mixedOrders = true := hP ▸ mixedOk
  have Da := dg_Dig A
  have Db := dg_Dig B
  have hlb : 0 < (dg B).length := dg_ne hB
  by_cases h1 : (dg B).length = 1
  · have d1 : decide (((dg B).length : Int) = 1) = true := decide_eq_true (by omega)
    obtain ⟨t1, t2, t3, t4, t5⟩ := dg_top B 0 h1
    have hBr : rd (dg B) 0 = (B : Int) := by
      rw [show ((0 : Nat) : Int) = 0 from rfl] at t3 t4
      simp only [List.take_zero, val, Nat.pow_zero, Nat.one_mul, Nat.zero_add] at t4
      omega
    have hB9 : B ≤ 999999999 := by
      rw [show ((0 : Nat) : Int) = 0 from rfl, hBr] at t2
      omega
    have c1 : ((0 : Int) < ((dg B).length : Int)) = True := eq_true (by omega)
    have c2 : (0 < (ints (dg B)).length) = True := eq_true (by rw [ints_length]; omega)
    have n0 := nth_ints (l := dg B) (n := 0) (by omega)
    rw [show ((0 : Nat) : Int) = 0 from rfl, hBr] at n0
    have C := l02Small_c (dg A) B Da (by omega) (by omega) hB9
    rw [val_dg] at C
    have hr : A % B < B := Nat.mod_lt _ (by omega)
    refine Go.run hte hn 100 ?_; simp only [go_sem, Nat.reduceBEq, Nat.reduceLT, Nat.reduceAdd, Nat.reduceMul, Nat.reduceLeDiff, d1, c1, c2, n0, Int.le_refl, Int.toNat_zero, Nat.zero_mul]
    refine Go.call0 hP (C) rfl rfl rfl (by omega) (by simp [go_sem, tsI, slI, I, renL_ints, blk_ren, en_live, en_dead, ints_length, ints_nil, ints_one]) ?_
    refine Go.run hte hn 100 ?_; simp only [go_sem, Nat.reduceBEq, Nat.reduceLT, Nat.reduceAdd, Nat.reduceMul, Nat.reduceLeDiff]
    refine Go.call0 hP (spec_NatOf_c (A % B) (by omega)) rfl rfl rfl (by omega) (by simp [go_sem, tsI, slI, I, renL_ints, blk_ren, en_live, en_dead, ints_length, ints_nil, ints_one]) ?_
    refine Go.run hte hn 100 ?_; simp only [go_sem, Nat.reduceBEq, Nat.reduceLT, Nat.reduceAdd, Nat.reduceMul, Nat.reduceLeDiff]
    refine Go.freeze (nm := 0) rfl ?_; simp only [go_sem, Nat.reduceBEq, Nat.reduceLT, Nat.reduceAdd, Nat.reduceMul, Nat.reduceLeDiff]
    refine Go.retG hte hE hf [] rfl (by simp [go_sem, tsI, slI, I, renL_ints, blk_ren, en_live, en_dead, ints_length, ints_nil, ints_one]) rfl (by rw [h0]; rfl) trivial
  · have d1 : decide (((dg B).length : Int) = 1) = false := decide_eq_false (by omega)
    have w1 : IntKind.i64.wrap (((dg A).length : Int) - 1) = ((dg A).length : Int) - 1 := by rw [W64] <;> omega
    refine Go.run hte hn 100 ?_; simp only [go_sem, Nat.reduceBEq, Nat.reduceLT, Nat.reduceAdd, Nat.reduceMul, Nat.reduceLeDiff, d1, w1]
    refine ⟨⟨by omega, by omega, by omega⟩, ?_⟩
    have e0 : repA (dg A).length [I 0] = ints (List.replicate (dg A).length 0 ++ []) := by rw [repA_I, List.append_nil]
    unfold I at e0
    simp only [Int.toNat_natCast, e0]
    refine Go.freeze (nm := 1) rfl ?_; simp only [go_sem, Nat.reduceBEq, Nat.reduceLT, Nat.reduceAdd, Nat.reduceMul, Nat.reduceLeDiff]
    clear w1 e0 d1
    refine Go.enter (fun x : Nat × List Int × Nat => x.1 ≤ (dg A).length ∧ x.1 + x.2.1.length = (dg A).length ∧ Dig x.2.1 ∧ x.2.2 < B ∧ val ((dg A).drop x.1) = val x.2.1 * B + x.2.2) (fun x => x.1) (fun x => [(0, tsI (dg A)), (1, tsI (dg B)), (8, .sl 0 0 (dg A).length 1), (9, tsI (dg x.2.2)), (10, I ((x.1 : Int) - 1))]) (fun x => [.live ⟨3, ints (List.replicate x.1 0 ++ x.2.1)⟩]) ((dg A).length, [], 0) [0] ⟨Nat.le_refl _, rfl, Dig_nil, Nat.pos_of_ne_zero hB, by simp [val]⟩ rfl rfl (by rw [h0]; rfl) (by simp [go_sem, tsI, slI, I, renL_ints, blk_ren, en_live, en_dead, ints_length, ints_nil, ints_one, dg_zero]) (by simp [go_sem, tsI, slI, I, renL_ints, blk_ren, en_live, en_dead, ints_length, ints_nil, ints_one]) ?_
    rintro ⟨i, qs, R⟩ ⟨hi, hl, hD, hR, hv⟩
    simp only at hi hl hD hR hv
    cases i with
    | zero =>
      have d3 : decide ((0 : Int) ≤ ((0 : Nat) : Int) - 1) = false := by decide
      rw [List.drop_zero, val_dg] at hv
      obtain ⟨q1, q2⟩ := divmod_of hv hR
      have hl' : qs.length = (dg A).length := by simpa using hl
      have C := l02Trim_c qs (by omega)
      rw [trim_dg_val hD, q1] at C
      rw [← q2] at hE
      refine Go.run hte hn 100 ?_; simp only [go_sem, Nat.reduceBEq, Nat.reduceLT, Nat.reduceAdd, Nat.reduceMul, Nat.reduceLeDiff, d3]
      simp only [List.replicate_zero, List.nil_append]
      rw [← hl']
      refine Go.freeze (nm := 0) rfl ?_; simp only [go_sem, Nat.reduceBEq, Nat.reduceLT, Nat.reduceAdd, Nat.reduceMul, Nat.reduceLeDiff]
      refine Go.call0 hP (C) rfl rfl rfl (by omega) (by simp [go_sem, tsI, slI, I, renL_ints, blk_ren, en_live, en_dead, ints_length, ints_nil, ints_one]) ?_
      refine Go.run hte hn 100 ?_; simp only [go_sem, Nat.reduceBEq, Nat.reduceLT, Nat.reduceAdd, Nat.reduceMul, Nat.reduceLeDiff]
      refine Go.retG hte hE hf [] rfl (by simp [go_sem, tsI, slI, I, renL_ints, blk_ren, en_live, en_dead, ints_length, ints_nil, ints_one]) rfl (by rw [h0]; rfl) trivial
    | succ i =>
      have hlt : i < (dg A).length := by omega
      obtain ⟨x, hx⟩ : ∃ x : Nat, rd (dg A) (i : Int) = x := ⟨(rd (dg A) (i : Int)).toNat, by have := Dig_rd Da i; omega⟩
      obtain ⟨e1, e2, d3, c0, cA, b1⟩ := div_ints i (dg A).length (x + 1000000000 * R) hlt (by omega)
      have cA2 : (0 < (ints (dg A)).length) = True := eq_true (by rw [ints_length]; omega)
      have hx9 : x ≤ 999999999 := by have := Dig_rd Da i; omega
      obtain ⟨o1, o2, o3, o4⟩ := over_round (dg A) Da i hlt qs (dg R) B (Nat.pos_of_ne_zero hB) (by rw [val_dg]; exact hR) (by rw [val_dg]; exact hv) x hx _ rfl (dg ((x + 1000000000 * R) % B)) (by rw [val_dg, val_dg])
      rw [val_dg] at o1 o2 o3 o4
      rw [val_dg] at o4
      have hRl : (dg R).length ≤ (dg B).length := dg_len_mono (Nat.le_of_lt hR)
      have DxR : Dig ((x : Int) :: dg R) := Dig_cons.mpr ⟨by omega, dg_Dig _⟩
      have C1 := l02Trim_c ((x : Int) :: dg R) (by simp only [List.length_cons]; omega)
      have vxR : val ((x : Int) :: dg R) = x + 1000000000 * R := by simp [val, val_dg]
      rw [trim_dg_val DxR, vxR] at C1
      have hll : (dg (x + 1000000000 * R)).length ≤ (dg B).length + 1 := by
        have h1 := dg_len_mono (Nat.le_of_lt o1)
        have h2 := (mul_len B 1000000000 (by decide) (Nat.le_refl _)).2
        omega
      obtain ⟨S, hS⟩ : ∃ S, S = x + 1000000000 * R := ⟨_, rfl⟩
      rw [← hS] at o1 o2 o3 o4 C1 hll
      have C2 := l02Cmp_c (dg S) (dg B) (by omega) (by omega)
      rw [cmpL_dg] at C2
      refine Go.run hte hn 100 ?_; simp only [go_sem, Nat.reduceBEq, Nat.reduceLT, Nat.reduceAdd, Nat.reduceMul, Nat.reduceLeDiff, e1, d3, c0, cA, cA2, hx, nth_ints hlt, Int.toNat_natCast, Nat.mul_one]
      refine ⟨⟨ints_length _, ones_ints _, by omega, by omega⟩, ?_⟩
      obtain ⟨xr, hxr⟩ : ∃ xr, xr = (x : Int) :: dg R := ⟨_, rfl⟩
      rw [← hxr] at C1
      have hlx : 1 + (dg R).length = xr.length := by rw [hxr, List.length_cons, Nat.add_comm]
      have hix : .v (.int .i64 (x : Int)) :: ints (dg R) = ints xr := by rw [hxr]; rfl
      simp only [hlx, hix]
      refine Go.freeze (nm := 2) rfl ?_; simp only [go_sem, Nat.reduceBEq, Nat.reduceLT, Nat.reduceAdd, Nat.reduceMul, Nat.reduceLeDiff]
      refine Go.call0 hP (C1) rfl rfl rfl (by omega) (by simp [go_sem, tsI, slI, I, renL_ints, blk_ren, en_live, en_dead, ints_length, ints_nil, ints_one]) ?_
      refine Go.run hte hn 100 ?_; simp only [go_sem, Nat.reduceBEq, Nat.reduceLT, Nat.reduceAdd, Nat.reduceMul, Nat.reduceLeDiff]
      refine Go.call0 hP (C2) rfl rfl rfl (by omega) (by simp [go_sem, tsI, slI, I, renL_ints, blk_ren, en_live, en_dead, ints_length, ints_nil, ints_one]) ?_
      by_cases hlt2 : S < B
      · have dC : decide ((if S < B then (-1 : Int) else if S > B then 1 else 0) < 0) = true := decide_eq_true (by rw [if_pos hlt2]; decide)
        rw [Nat.div_eq_of_lt hlt2, Nat.mod_eq_of_lt hlt2] at o4
        rw [Nat.mod_eq_of_lt hlt2] at o3
        have hrep : List.replicate (i + 1) (0 : Int) ++ qs = List.replicate i 0 ++ (0 :: qs) := by rw [List.replicate_succ', List.append_assoc]; rfl
        refine Go.run hte hn 100 ?_; simp only [go_sem, Nat.reduceBEq, Nat.reduceLT, Nat.reduceAdd, Nat.reduceMul, Nat.reduceLeDiff, dC, e2]
        refine Go.round (i, 0 :: qs, S) [0] ⟨by omega, by simp only [List.length_cons]; omega, Dig_cons.mpr ⟨by omega, hD⟩, o3, o4⟩ (Nat.lt_succ_self i) rfl rfl (by rw [h0]; rfl) (by simp [go_sem, tsI, slI, I, renL_ints, blk_ren, en_live, en_dead, ints_length, ints_nil, ints_one]) (by simp [go_sem, tsI, slI, I, renL_ints, blk_ren, en_live, en_dead, ints_length, ints_nil, ints_one, hrep])
      · have dC : decide ((if S < B then (-1 : Int) else if S > B then 1 else 0) < 0) = false := decide_eq_false (by rw [if_neg hlt2]; split <;> decide)
        have C3 := l02Digit_c S B hB (by omega) o1 (by omega)
        obtain ⟨q, hq⟩ : ∃ q, q = S / B := ⟨_, rfl⟩
        rw [← hq] at C3 o2 o4
        have C4 := spec_NatOf_c q (by omega)
        have hq3 := dg_short (n := q) (by omega)
        have C5 := l02Mul_c (dg B) (dg q) Db (dg_Dig _) (by omega) (by omega)
        rw [val_dg, val_dg] at C5
        have hBq : B * q ≤ S := by rw [hq]; exact Nat.mul_div_le S B
        have C6 := l02Sub_c (dg S) (dg (B * q)) (dg_Dig _) (dg_Dig _) (by omega) (dg_len_mono hBq) (by rw [val_dg, val_dg]; exact hBq)
        have hsub : S - B * q = S % B := by have := Nat.div_add_mod S B; rw [← hq] at this; omega
        rw [val_dg, val_dg, hsub] at C6
        have hqlen : (List.replicate (i + 1) 0 ++ qs).length = (dg A).length := by rw [List.length_append, List.length_replicate]; omega
        refine Go.run hte hn 100 ?_; simp only [go_sem, Nat.reduceBEq, Nat.reduceLT, Nat.reduceAdd, Nat.reduceMul, Nat.reduceLeDiff, dC]
        refine Go.call0 hP (C3) rfl rfl rfl (by omega) (by simp [go_sem, tsI, slI, I, renL_ints, blk_ren, en_live, en_dead, ints_length, ints_nil, ints_one]) ?_
        refine Go.run hte hn 100 ?_; simp only [go_sem, Nat.reduceBEq, Nat.reduceLT, Nat.reduceAdd, Nat.reduceMul, Nat.reduceLeDiff, c0, cA, Int.toNat_natCast, Nat.mul_one]
        refine ⟨by rw [ints_length, hqlen]; exact hlt, ?_⟩
        simp only [I_def, ints_set, rep_set]
        refine Go.call0 hP (C4) rfl rfl rfl (by omega) (by simp [go_sem, tsI, slI, I, renL_ints, blk_ren, en_live, en_dead, ints_length, ints_nil, ints_one]) ?_
        refine Go.run hte hn 100 ?_; simp only [go_sem, Nat.reduceBEq, Nat.reduceLT, Nat.reduceAdd, Nat.reduceMul, Nat.reduceLeDiff]
        refine Go.freeze (nm := 3) rfl ?_; simp only [go_sem, Nat.reduceBEq, Nat.reduceLT, Nat.reduceAdd, Nat.reduceMul, Nat.reduceLeDiff]
        refine Go.call0 hP (C5) rfl rfl rfl (by omega) (by simp [go_sem, tsI, slI, I, renL_ints, blk_ren, en_live, en_dead, ints_length, ints_nil, ints_one]) ?_
        refine Go.run hte hn 100 ?_; simp only [go_sem, Nat.reduceBEq, Nat.reduceLT, Nat.reduceAdd, Nat.reduceMul, Nat.reduceLeDiff]
        refine Go.call0 hP (C6) rfl rfl rfl (by omega) (by simp [go_sem, tsI, slI, I, renL_ints, blk_ren, en_live, en_dead, ints_length, ints_nil, ints_one]) ?_
        refine Go.run hte hn 100 ?_; simp only [go_sem, Nat.reduceBEq, Nat.reduceLT, Nat.reduceAdd, Nat.reduceMul, Nat.reduceLeDiff, e2]
        refine Go.round (i, (q : Int) :: qs, S % B) [0] ⟨by omega, by simp only [List.length_cons]; omega, Dig_cons.mpr ⟨⟨Int.natCast_nonneg _, Int.ofNat_le.mpr o2⟩, hD⟩, o3, o4⟩ (Nat.lt_succ_self i) rfl rfl (by rw [h0]; rfl) (by simp [go_sem, tsI, slI, I, renL_ints, blk_ren, en_live, en_dead, ints_length, ints_nil, ints_one]) (by simp [go_sem, tsI, slI, I, renL_ints, blk_ren, en_live, en_dead, ints_length, ints_nil, ints_one])

end Go.Proofs.Ytbblhgldfcodfaa.Ab
