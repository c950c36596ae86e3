/- Contracts of the given program's functions and of the reference's (walks). -/
import Derived.Test.YtbblhgldfcodfaaAbT
import Derived.Test.YtbblhgldfcodfaaAbP
import Derived.Test.YtbblhgldfcodfaaAbN
import Derived.Test.YtbblhgldfcodfaaRunW1
import Derived.Test.YtbblhgldfcodfaaW8
import Derived.Test.YtbblhgldfcodfaaAbV
import Derived.Test.YtbblhgldfcodfaaAbO
set_option linter.unusedVariables false
set_option linter.unusedSimpArgs false
set_option maxRecDepth 10000
namespace Go.Proofs.Ytbblhgldfcodfaa.Ab
open Go Go.RowKit
attribute [local go_sem] q_run q_seq q_skip q_block q_exit q_cond q_region q_nil q_op q_blk q_loop q_ret q_open q_inv q_fin q_go q_h0 q_h1 q_gskip q_stepC q_brt q_brf q_stepX q_sskip q_sskip0 q_val q_need q_new q_newc q_sv q_sto q_c1 q_c2 q_c3 q_c4 q_c5 q_c6 q_c7 q_c8 q_c9 q_c10 q_c11 q_c12 q_c13 q_c14 q_c15 q_c16 q_c17 q_c18 q_c19 q_c20 q_c21 q_c22 q_g0 q_g1 q_gC q_gD q_gE q_gB1 q_gB2 q_gB3 q_gB4 q_ev1 q_ev2 q_ev3 q_evo0 q_evo1 q_rv q_rva q_o1 q_o2 q_pk1 q_pk2 q_ld1p q_ld1e q_ld1t q_ldnp q_ldne q_ldnt q_sub0 q_sub1 q_subc q_stS q_stT q_box q_bldr q_bld q_fill0 q_fill1 q_fillB q_bsr q_bsl q_fap q_fat q_iasl q_iats q_lnsl q_lnts q_lnv q_lnS q_exA q_mkB q_lo0 q_lo1 q_hi0 q_hi1 q_slcA q_slcU1 q_slcU2 q_slcT1 q_slcT2 q_slsA q_slsU q_slsT q_apA q_apC q_srcE1 q_srcE2 q_srcE3 q_srcA1 q_srcB q_srcA2 q_srcA3 q_fnA q_nc1 q_nc2 q_bin q_bin2 q_bin3 q_bin4 q_bin5 q_bin6 q_bin7 q_bin8 q_bin9 q_bin10 q_i1 q_i2 q_i3 q_i4 q_i5 q_i6 q_i7 q_i8 q_i9 q_i10 q_i11 q_s1 q_s2 q_s3 q_u1 q_u2 q_min q_max q_ce1 q_ce2 q_ce3 q_ce4 q_ce5 q_ce6 q_ce7 q_ce8 q_ce9 q_ce10 q_ce11 q_on2 q_on3 q_on4 q_on5 q_on6 q_on7 q_on8 q_on9 q_on10 q_on11 q_enr1 q_gEt q_zr0 q_zr1 q_zgs q_zgg q_zk1 q_zk2 q_zd q_zv1 q_zv2 q_zv3 q_zp1 q_zp2 q_zf q_zs1 q_zs2 q_za q_za1 q_fi0 q_fi1 q_ln0 q_ln1 q_h01 q_h02 q_h03 q_h04 q_h05 q_h06 q_h07 q_h08 q_h09 q_h10 q_h11 q_h12 q_h13 q_h14 q_h15 q_h16 q_h17 q_h18 q_h19 q_h20 q_h21 q_h22 q_h23 q_h24 q_al q_b0 q_rs1 q_rs2 q_rs3 q_rs4 q_rs5 q_rs6 q_rs7 q_rs8 q_ro1 q_ro2 q_ro3 q_ro4 q_ro5 q_ro6 q_ro7 q_ro8 cond_true cond_false decide_true decide_false List.length_cons List.length_nil List.nil_append List.cons_append true_and and_true List.toList_toArray Option.map_some Nat.zero_add Nat.add_zero Bool.and_self Bool.and_true Bool.true_and Bool.and_false Bool.false_and Bool.not_true Bool.not_false FitF FitL LendL wb keys nodupB firstOk tupA op_move op_assign op_pick op_un op_box op_nc op_mf op_ex op_min op_max get put del nth evs evp sets setN ones popTo args0 AV.ren AV.renL rho List.take_succ_cons List.take_zero List.drop_succ_cons List.drop_zero Option.isNone_none Option.isNone_some o_al28 o_al30 o_al43 o_al80 o_al84 o_ap22 o_ap41 o_bi120 o_bi22 o_bi3 o_bi4 o_bi68 o_bs22_0 o_bs22_1 o_bs22_3 o_bs41_0 o_bs41_1 o_bu28 o_bu30 o_bu43 o_bu80 o_bu98 o_cn120 o_cn3 o_cv120_3 o_cv3_120 o_fa24_0 o_fa24_1 o_fa26_0 o_fa26_1 o_fa28_0 o_fa28_1 o_fa30_0 o_fa30_1 o_fa38_0 o_fa38_1 o_fa38_2 o_fa43_0 o_fa43_1 o_fa43_2 o_fa80_0 o_fa80_1 o_fa80_2 o_fa98_0 o_fa98_1 o_ia22 o_ia36 o_ia41 o_ia78 o_ia84 o_ib4 o_ip68 o_ld22 o_ld24 o_ld26 o_ld28 o_ld3 o_ld30 o_ld36 o_ld38 o_ld4 o_ld41 o_ld43 o_ld68 o_ld78 o_ld80 o_ld84 o_ln22 o_ln36 o_ln41 o_ln78 o_ln84 o_mk22 o_mk41 o_mk78 o_mk84 o_sl22 o_sl41 o_st22 o_st28 o_st3 o_st30 o_st4 o_st41 o_st43 o_st68 o_st80 o_st84 o_zb22 o_zb36 o_zb41 o_zb78 o_zb84 I tsI slI renL_ints blk_ren en_live en_dead List.set_cons_zero List.set_cons_succ List.map_cons List.map_nil List.append_nil frzF frzS AV.frz AV.frzL frzL_ints ints_all ints_all' ints_take1 ints_mk ints_mk1 mk_length res_ints resOk_ints plain_ints plainA plainL plainE plainS List.all_cons List.all_nil bigO bigT ratO ratT
/-! ### Equal rows, equal fractions -/
theorem eqD_all (a b : List Int) (h : a.length = b.length) : ∀ d, d ≤ a.length → (eqD a b d = true ↔ a.drop (a.length - d) = b.drop (a.length - d))
  | 0, _ => by simp [eqD, h]
  | d + 1, hd => by
    have ih := eqD_all a b h d (by omega)
    have e1 := drop_rd a (a.length - (d + 1)) (by omega)
    have e2 := drop_rd b (a.length - (d + 1)) (by omega)
    rw [show a.length - (d + 1) + 1 = a.length - d by omega] at e1 e2
    unfold eqD
    rw [e1, e2]
    by_cases hx : rd a ((a.length - (d + 1) : Nat) : Int) = rd b ((a.length - (d + 1) : Nat) : Int)
    · rw [if_pos hx, ih]
      simp [hx]
    · rw [if_neg hx]
      simp [hx]
def ratEq (s : Bool) (a d : List Int) (t : Bool) (b f : List Int) : Bool := (s == t) && eqL a b && eqL d f

end Go.Proofs.Ytbblhgldfcodfaa.Ab
set_option linter.unusedVariables false
set_option linter.unusedSimpArgs false
set_option maxRecDepth 10000
namespace Go.Proofs.Ytbblhgldfcodfaa.Ab
open Go Go.RowKit
attribute [local go_sem] q_run q_seq q_skip q_block q_exit q_cond q_region q_nil q_op q_blk q_loop q_ret q_open q_inv q_fin q_go q_h0 q_h1 q_gskip q_stepC q_brt q_brf q_stepX q_sskip q_sskip0 q_val q_need q_new q_newc q_sv q_sto q_c1 q_c2 q_c3 q_c4 q_c5 q_c6 q_c7 q_c8 q_c9 q_c10 q_c11 q_c12 q_c13 q_c14 q_c15 q_c16 q_c17 q_c18 q_c19 q_c20 q_c21 q_c22 q_g0 q_g1 q_gC q_gD q_gE q_gB1 q_gB2 q_gB3 q_gB4 q_ev1 q_ev2 q_ev3 q_evo0 q_evo1 q_rv q_rva q_o1 q_o2 q_pk1 q_pk2 q_ld1p q_ld1e q_ld1t q_ldnp q_ldne q_ldnt q_sub0 q_sub1 q_subc q_stS q_stT q_box q_bldr q_bld q_fill0 q_fill1 q_fillB q_bsr q_bsl q_fap q_fat q_iasl q_iats q_lnsl q_lnts q_lnv q_lnS q_exA q_mkB q_lo0 q_lo1 q_hi0 q_hi1 q_slcA q_slcU1 q_slcU2 q_slcT1 q_slcT2 q_slsA q_slsU q_slsT q_apA q_apC q_srcE1 q_srcE2 q_srcE3 q_srcA1 q_srcB q_srcA2 q_srcA3 q_fnA q_nc1 q_nc2 q_bin q_bin2 q_bin3 q_bin4 q_bin5 q_bin6 q_bin7 q_bin8 q_bin9 q_bin10 q_i1 q_i2 q_i3 q_i4 q_i5 q_i6 q_i7 q_i8 q_i9 q_i10 q_i11 q_s1 q_s2 q_s3 q_u1 q_u2 q_min q_max q_ce1 q_ce2 q_ce3 q_ce4 q_ce5 q_ce6 q_ce7 q_ce8 q_ce9 q_ce10 q_ce11 q_on2 q_on3 q_on4 q_on5 q_on6 q_on7 q_on8 q_on9 q_on10 q_on11 q_enr1 q_gEt q_zr0 q_zr1 q_zgs q_zgg q_zk1 q_zk2 q_zd q_zv1 q_zv2 q_zv3 q_zp1 q_zp2 q_zf q_zs1 q_zs2 q_za q_za1 q_fi0 q_fi1 q_ln0 q_ln1 q_h01 q_h02 q_h03 q_h04 q_h05 q_h06 q_h07 q_h08 q_h09 q_h10 q_h11 q_h12 q_h13 q_h14 q_h15 q_h16 q_h17 q_h18 q_h19 q_h20 q_h21 q_h22 q_h23 q_h24 q_al q_b0 q_rs1 q_rs2 q_rs3 q_rs4 q_rs5 q_rs6 q_rs7 q_rs8 q_ro1 q_ro2 q_ro3 q_ro4 q_ro5 q_ro6 q_ro7 q_ro8 cond_true cond_false decide_true decide_false List.length_cons List.length_nil List.nil_append List.cons_append true_and and_true List.toList_toArray Option.map_some Nat.zero_add Nat.add_zero Bool.and_self Bool.and_true Bool.true_and Bool.and_false Bool.false_and Bool.not_true Bool.not_false FitF FitL LendL wb keys nodupB firstOk tupA op_move op_assign op_pick op_un op_box op_nc op_mf op_ex op_min op_max get put del nth evs evp sets setN ones popTo args0 AV.ren AV.renL rho List.take_succ_cons List.take_zero List.drop_succ_cons List.drop_zero Option.isNone_none Option.isNone_some o_al28 o_al30 o_al43 o_al80 o_al84 o_ap22 o_ap41 o_bi120 o_bi22 o_bi3 o_bi4 o_bi68 o_bs22_0 o_bs22_1 o_bs22_3 o_bs41_0 o_bs41_1 o_bu28 o_bu30 o_bu43 o_bu80 o_bu98 o_cn120 o_cn3 o_cv120_3 o_cv3_120 o_fa24_0 o_fa24_1 o_fa26_0 o_fa26_1 o_fa28_0 o_fa28_1 o_fa30_0 o_fa30_1 o_fa38_0 o_fa38_1 o_fa38_2 o_fa43_0 o_fa43_1 o_fa43_2 o_fa80_0 o_fa80_1 o_fa80_2 o_fa98_0 o_fa98_1 o_ia22 o_ia36 o_ia41 o_ia78 o_ia84 o_ib4 o_ip68 o_ld22 o_ld24 o_ld26 o_ld28 o_ld3 o_ld30 o_ld36 o_ld38 o_ld4 o_ld41 o_ld43 o_ld68 o_ld78 o_ld80 o_ld84 o_ln22 o_ln36 o_ln41 o_ln78 o_ln84 o_mk22 o_mk41 o_mk78 o_mk84 o_sl22 o_sl41 o_st22 o_st28 o_st3 o_st30 o_st4 o_st41 o_st43 o_st68 o_st80 o_st84 o_zb22 o_zb36 o_zb41 o_zb78 o_zb84 I tsI slI renL_ints blk_ren en_live en_dead List.set_cons_zero List.set_cons_succ List.map_cons List.map_nil List.append_nil frzF frzS AV.frz AV.frzL frzL_ints ints_all ints_all' ints_take1 ints_mk ints_mk1 mk_length res_ints resOk_ints plain_ints plainA plainL plainE plainS List.all_cons List.all_nil bigO bigT ratO ratT ratsT renL_frs frzL_frs frs_all
/-! ### The law's helpers: lists of fractions -/
theorem szRatS_c (l : List FR) (left : Int) (hl0 : 0 ≤ left) (hl1 : left ≤ 1048576) (hl : l.length ≤ 9223372036854775807) (hd : ∀ i, i < l.length → (fat l i).1.2.length ≤ 9223372036854775807 ∧ (fat l i).2.length ≤ 9223372036854775807) : AC Try.prog 61 [ratsT l, I left] [] (I (szv left (l.length + tot l))) [] := by
  refine AC.intro (fn := Try.f61) (c := ?_) 27 Try.func61 (by rfl) (by kernel_rfl) (by kernel_rfl) (Nat.le_of_ble_eq_true rfl) fun e hP hf hn h0 hE => ?_
  have hte : TEok e.P te := hP ▸ teOk
  have hmx : e.P.follows .mixedOrders = true := hP ▸ mixedOk
  have e1 : IntKind.i64.wrap (left - (l.length : Int)) = left - (l.length : Int) := by rw [W64] <;> omega
  by_cases hz : left - (l.length : Int) < 0
  · have dz : decide (left - (l.length : Int) < 0) = true := decide_eq_true hz
    have e : szv left (l.length + tot l) = -1 := by unfold szv; rw [if_pos (by omega)]
    rw [e] at hE
    refine Go.run hte hn 100 ?_; simp only [go_sem, Nat.reduceBEq, Nat.reduceLT, Nat.reduceAdd, Nat.reduceMul, Nat.reduceLeDiff, e1, dz, ratsT]
    refine Go.retG hte hE hf [] rfl (by simp [go_sem, tsI, slI, I, renL_ints, blk_ren, en_live, en_dead, ints_length, ints_nil, ints_one]) rfl (by rw [h0]; rfl) trivial
  · have dz : decide (left - (l.length : Int) < 0) = false := decide_eq_false hz
    refine Go.run hte hn 100 ?_; simp only [go_sem, Nat.reduceBEq, Nat.reduceLT, Nat.reduceAdd, Nat.reduceMul, Nat.reduceLeDiff, e1, dz, ratsT]
    refine Go.enter (fun x : Nat × Int => x.1 ≤ l.length ∧ 0 ≤ x.2 ∧ x.2 ≤ 1048576 ∧ x.2 - (tot (l.drop x.1) : Int) = left - l.length - (tot l : Int)) (fun x => l.length - x.1) (fun x => [(0, ratsT l), (1, I x.2), (5, I x.1)]) (fun x => []) (0, left - l.length) [] ⟨Nat.zero_le _, by omega, by simp only; omega, rfl⟩ rfl rfl (by rw [h0]; rfl) (by simp [go_sem, tsI, slI, I, renL_ints, blk_ren, en_live, en_dead, ints_length, ints_nil, ints_one, ratsT, renL_frs]) trivial ?_
    rintro ⟨i, m⟩ ⟨hi, hm0, hm1, hv⟩
    simp only at hi hm0 hm1 hv
    by_cases hlt : i < l.length
    · have dA : decide ((i : Int) < (l.length : Int)) = true := decide_eq_true (by omega)
      have e2 : IntKind.i64.wrap ((i : Int) + 1) = ((i + 1 : Nat) : Int) := by rw [W64] <;> omega
      have c0 : (0 ≤ (i : Int)) = True := eq_true (by omega)
      have c1 : ((i : Int) < (l.length : Int)) = True := eq_true (by omega)
      have c2 : (0 < (frs l).length) = True := eq_true (by rw [frs_length]; omega)
      obtain ⟨b1, b2⟩ := hd i hlt
      rw [fdrop hlt, tot] at hv
      refine Go.run hte hn 100 ?_; simp only [go_sem, Nat.reduceBEq, Nat.reduceLT, Nat.reduceAdd, Nat.reduceMul, Nat.reduceLeDiff, dA, c0, c1, c2, ratsT, Int.toNat_natCast, nfr0 hlt, nfr1 hlt, nfr2 hlt]
      refine Go.call0 hP (szRat_c (fat l i).1.1 (fat l i).1.2 (fat l i).2 m hm0 hm1 b1 b2) rfl rfl rfl (by omega) (by simp [go_sem, tsI, slI, I, renL_ints, blk_ren, en_live, en_dead, ints_length, ints_nil, ints_one]) ?_
      by_cases hy : szv m ((fat l i).1.2.length + (fat l i).2.length) < 0
      · have e : szv left (l.length + tot l) = -1 := by
          have := szv_lt.1 hy
          unfold szv
          unfold fsz at hv
          rw [if_pos (by omega)]
        rw [e] at hE
        refine Go.run hte hn 100 ?_; simp only [go_sem, Nat.reduceBEq, Nat.reduceLT, Nat.reduceAdd, Nat.reduceMul, Nat.reduceLeDiff, decide_eq_true hy]
        refine Go.retG hte hE hf [] rfl (by simp [go_sem, tsI, slI, I, renL_ints, blk_ren, en_live, en_dead, ints_length, ints_nil, ints_one]) rfl (by rw [h0]; rfl) trivial
      · obtain ⟨g1, g2⟩ := szv_ge hy
        refine Go.run hte hn 100 ?_; simp only [go_sem, Nat.reduceBEq, Nat.reduceLT, Nat.reduceAdd, Nat.reduceMul, Nat.reduceLeDiff, decide_eq_false hy, e2]
        rw [g2]
        refine Go.round (i + 1, m - ((fat l i).1.2.length + (fat l i).2.length : Nat)) [] ⟨hlt, by simp only; omega, by simp only; omega, by simp only; unfold fsz at hv; omega⟩ (by simp only; omega) rfl rfl (by rw [h0]; rfl) (by simp [go_sem, tsI, slI, I, renL_ints, blk_ren, en_live, en_dead, ints_length, ints_nil, ints_one, ratsT, renL_frs]) trivial
    · have dA : decide ((i : Int) < (l.length : Int)) = false := decide_eq_false (by omega)
      have hil : i = l.length := by omega
      rw [hil, List.drop_length, tot] at hv
      have e : szv left (l.length + tot l) = m := by unfold szv; rw [if_neg (by omega)]; omega
      rw [e] at hE
      refine Go.run hte hn 100 ?_; simp only [go_sem, Nat.reduceBEq, Nat.reduceLT, Nat.reduceAdd, Nat.reduceMul, Nat.reduceLeDiff, dA, ratsT]
      refine Go.retG hte hE hf [] rfl (by simp [go_sem, tsI, slI, I, renL_ints, blk_ren, en_live, en_dead, ints_length, ints_nil, ints_one]) rfl (by rw [h0]; rfl) trivial
theorem eqRatS_c (l : List FR) (hl : l.length ≤ 1152921504606846976) (hd : ∀ i, i < l.length → (fat l i).1.2.length ≤ 1152921504606846976 ∧ (fat l i).2.length ≤ 1152921504606846976) : AC Try.prog 31 [ratsT l, ratsT l] [] (.v (.bool true)) [] := by
  refine AC.intro (fn := Try.f31) (c := ?_) 27 Try.func31 (by rfl) (by kernel_rfl) (by kernel_rfl) (Nat.le_of_ble_eq_true rfl) fun e hP hf hn h0 hE => ?_
  have hte : TEok e.P te := hP ▸ teOk
  have hmx : e.P.follows .mixedOrders = true := hP ▸ mixedOk
  refine Go.run hte hn 100 ?_; simp only [go_sem, Nat.reduceBEq, Nat.reduceLT, Nat.reduceAdd, Nat.reduceMul, Nat.reduceLeDiff, ratsT]
  refine Go.enter (fun i : Nat => i ≤ l.length) (fun i => l.length - i) (fun i => [(0, ratsT l), (1, ratsT l), (5, I i)]) (fun i => []) 0 [] (Nat.zero_le _) rfl rfl (by rw [h0]; rfl) (by simp [go_sem, tsI, slI, I, renL_ints, blk_ren, en_live, en_dead, ints_length, ints_nil, ints_one, ratsT, renL_frs]) trivial ?_
  intro i hi
  by_cases hlt : i < l.length
  · have dA : decide ((i : Int) < (l.length : Int)) = true := decide_eq_true (by omega)
    have e2 : IntKind.i64.wrap ((i : Int) + 1) = ((i + 1 : Nat) : Int) := by rw [W64] <;> omega
    have c0 : (0 ≤ (i : Int)) = True := eq_true (by omega)
    have c1 : ((i : Int) < (l.length : Int)) = True := eq_true (by omega)
    have c2 : (0 < (frs l).length) = True := eq_true (by rw [frs_length]; omega)
    obtain ⟨b1, b2⟩ := hd i hlt
    refine Go.run hte hn 100 ?_; simp only [go_sem, Nat.reduceBEq, Nat.reduceLT, Nat.reduceAdd, Nat.reduceMul, Nat.reduceLeDiff, dA, ratsT]
    refine Go.openP 8 hte hn hmx (by kernel_rfl) ?_
    simp only [go_sem, Nat.reduceBEq, Nat.reduceLT, Nat.reduceAdd, Nat.reduceMul, Nat.reduceLeDiff, c0, c1, c2, Int.toNat_natCast, nfr0 hlt, nfr1 hlt, nfr2 hlt]
    refine Go.run hte hn 100 ?_; simp only [go_sem, Nat.reduceBEq, Nat.reduceLT, Nat.reduceAdd, Nat.reduceMul, Nat.reduceLeDiff]
    refine Go.call0 hP (eqRat_c (fat l i).1.1 (fat l i).1.2 (fat l i).2 b1 b2) rfl rfl rfl (by omega) (by simp [go_sem, tsI, slI, I, renL_ints, blk_ren, en_live, en_dead, ints_length, ints_nil, ints_one]) ?_
    refine Go.run hte hn 100 ?_; simp only [go_sem, Nat.reduceBEq, Nat.reduceLT, Nat.reduceAdd, Nat.reduceMul, Nat.reduceLeDiff, e2]
    refine Go.round (i + 1) [] hlt (by omega) rfl rfl (by rw [h0]; rfl) (by simp [go_sem, tsI, slI, I, renL_ints, blk_ren, en_live, en_dead, ints_length, ints_nil, ints_one, ratsT, renL_frs]) trivial
  · have dA : decide ((i : Int) < (l.length : Int)) = false := decide_eq_false (by omega)
    refine Go.run hte hn 100 ?_; simp only [go_sem, Nat.reduceBEq, Nat.reduceLT, Nat.reduceAdd, Nat.reduceMul, Nat.reduceLeDiff, dA, ratsT]
    refine Go.retG hte hE hf [] rfl (by simp [go_sem, tsI, slI, I, renL_ints, blk_ren, en_live, en_dead, ints_length, ints_nil, ints_one]) rfl (by rw [h0]; rfl) trivial
theorem toRatS_c (l : List FR) (hl : l.length ≤ 1048576) (hd : ∀ i, i < l.length → (fat l i).1.2.length ≤ 1048576 ∧ (fat l i).2.length ≤ 1048576) : AC Try.prog 63 [ratsT l] [] (ratsT l) [] := by
  refine AC.intro (fn := Try.f63) (c := ?_) 23 Try.func63 (by rfl) (by kernel_rfl) (by kernel_rfl) (Nat.le_of_ble_eq_true rfl) fun e hP hf hn h0 hE => ?_
  have hte : TEok e.P te := hP ▸ teOk
  have hmx : e.P.follows .mixedOrders = true := hP ▸ mixedOk
  refine Go.run hte hn 100 ?_; simp only [go_sem, Nat.reduceBEq, Nat.reduceLT, Nat.reduceAdd, Nat.reduceMul, Nat.reduceLeDiff, ratsT]
  refine ⟨⟨by omega, by omega, by omega⟩, ?_⟩
  have e0 : repA l.length [AV.v (.bool false), AV.v (.slice none 0 0), AV.v (.slice none 0 0)] = frs (l.take 0) ++ repA (l.length - 0) zc := rfl
  simp only [Int.toNat_natCast, e0]
  refine Go.enter (fun i : Nat => i ≤ l.length) (fun i => l.length - i) (fun i => [(0, ratsT l), (3, .sl 0 0 l.length 3), (4, I i)]) (fun i => [.live ⟨30, frs (l.take i) ++ repA (l.length - i) zc⟩]) 0 [0] (Nat.zero_le _) rfl rfl (by rw [h0]; rfl) (by simp [go_sem, tsI, slI, I, renL_ints, blk_ren, en_live, en_dead, ints_length, ints_nil, ints_one, ratsT, renL_frs]) (by simp [go_sem, tsI, slI, I, renL_ints, blk_ren, en_live, en_dead, ints_length, ints_nil, ints_one, renL_append, renL_frs, renL_zc]) ?_
  intro i hi
  by_cases hlt : i < l.length
  · have dA : decide ((i : Int) < (l.length : Int)) = true := decide_eq_true (by omega)
    have e2 : IntKind.i64.wrap ((i : Int) + 1) = ((i + 1 : Nat) : Int) := by rw [W64] <;> omega
    have c0 : (0 ≤ (i : Int)) = True := eq_true (by omega)
    have c1 : ((i : Int) < (l.length : Int)) = True := eq_true (by omega)
    have c2 : (0 < (frs l).length) = True := eq_true (by rw [frs_length]; omega)
    have c3 : (i * 3 + 3 ≤ (frs (l.take i) ++ repA (l.length - i) zc).length) = True := eq_true (by rw [part_length hi]; omega)
    have hst := part_set hlt
    unfold tsI at hst
    obtain ⟨b1, b2⟩ := hd i hlt
    refine Go.run hte hn 100 ?_; simp only [go_sem, Nat.reduceBEq, Nat.reduceLT, Nat.reduceAdd, Nat.reduceMul, Nat.reduceLeDiff, dA, c0, c1, c2, ratsT, Int.toNat_natCast, nfr0 hlt, nfr1 hlt, nfr2 hlt]
    refine Go.call0 hP (toRat_c (fat l i).1.1 (fat l i).1.2 (fat l i).2 b1 b2) rfl rfl rfl (by omega) (by simp [go_sem, tsI, slI, I, renL_ints, blk_ren, en_live, en_dead, ints_length, ints_nil, ints_one]) ?_
    simp only [go_sem, Nat.reduceBEq, Nat.reduceLT, Nat.reduceAdd, Nat.reduceMul, Nat.reduceLeDiff, frzL_append, frzL_frs, frzL_zc]
    refine Go.freeze (nm := 1) rfl ?_
    simp only [go_sem, Nat.reduceBEq, Nat.reduceLT, Nat.reduceAdd, Nat.reduceMul, Nat.reduceLeDiff, frzL_append, frzL_frs, frzL_zc]
    refine Go.freeze (nm := 2) rfl ?_
    simp only [go_sem, Nat.reduceBEq, Nat.reduceLT, Nat.reduceAdd, Nat.reduceMul, Nat.reduceLeDiff, frzL_append, frzL_frs, frzL_zc]
    refine Go.run hte hn 100 ?_; simp only [go_sem, Nat.reduceBEq, Nat.reduceLT, Nat.reduceAdd, Nat.reduceMul, Nat.reduceLeDiff, c0, c1, c3, e2, Int.toNat_natCast, hst]
    refine Go.round (i + 1) [0] hlt (by omega) rfl rfl (by rw [h0]; rfl) (by simp [go_sem, tsI, slI, I, renL_ints, blk_ren, en_live, en_dead, ints_length, ints_nil, ints_one, ratsT, renL_frs]) (by simp [go_sem, tsI, slI, I, renL_ints, blk_ren, en_live, en_dead, ints_length, ints_nil, ints_one, renL_append, renL_frs, renL_zc])
  · have dA : decide ((i : Int) < (l.length : Int)) = false := decide_eq_false (by omega)
    have hil : i = l.length := by omega
    subst hil
    refine Go.run hte hn 100 ?_; simp only [go_sem, Nat.reduceBEq, Nat.reduceLT, Nat.reduceAdd, Nat.reduceMul, Nat.reduceLeDiff, dA, ratsT]
    rw [List.take_length, Nat.sub_self, repz0, List.append_nil]
    refine Go.freeze (nm := 0) rfl ?_
    simp only [go_sem, Nat.reduceBEq, Nat.reduceLT, Nat.reduceAdd, Nat.reduceMul, Nat.reduceLeDiff, frs_all]
    refine Go.retG hte hE hf [] rfl (by simp [go_sem, tsI, slI, I, renL_ints, blk_ren, en_live, en_dead, ints_length, ints_nil, ints_one, ratsT, renL_frs]) rfl (by rw [h0]; rfl) trivial

end Go.Proofs.Ytbblhgldfcodfaa.Ab
set_option linter.unusedVariables false
set_option linter.unusedSimpArgs false
set_option maxRecDepth 10000
namespace Go.Proofs.Ytbblhgldfcodfaa.Ab
open Go Go.RowKit
attribute [local go_sem] q_run q_seq q_skip q_block q_exit q_cond q_region q_nil q_op q_blk q_loop q_ret q_open q_inv q_fin q_go q_h0 q_h1 q_gskip q_stepC q_brt q_brf q_stepX q_sskip q_sskip0 q_val q_need q_new q_newc q_sv q_sto q_c1 q_c2 q_c3 q_c4 q_c5 q_c6 q_c7 q_c8 q_c9 q_c10 q_c11 q_c12 q_c13 q_c14 q_c15 q_c16 q_c17 q_c18 q_c19 q_c20 q_c21 q_c22 q_g0 q_g1 q_gC q_gD q_gE q_gB1 q_gB2 q_gB3 q_gB4 q_ev1 q_ev2 q_ev3 q_evo0 q_evo1 q_rv q_rva q_o1 q_o2 q_pk1 q_pk2 q_ld1p q_ld1e q_ld1t q_ldnp q_ldne q_ldnt q_sub0 q_sub1 q_subc q_stS q_stT q_box q_bldr q_bld q_fill0 q_fill1 q_fillB q_bsr q_bsl q_fap q_fat q_iasl q_iats q_lnsl q_lnts q_lnv q_lnS q_exA q_mkB q_lo0 q_lo1 q_hi0 q_hi1 q_slcA q_slcU1 q_slcU2 q_slcT1 q_slcT2 q_slsA q_slsU q_slsT q_apA q_apC q_srcE1 q_srcE2 q_srcE3 q_srcA1 q_srcB q_srcA2 q_srcA3 q_fnA q_nc1 q_nc2 q_bin q_bin2 q_bin3 q_bin4 q_bin5 q_bin6 q_bin7 q_bin8 q_bin9 q_bin10 q_i1 q_i2 q_i3 q_i4 q_i5 q_i6 q_i7 q_i8 q_i9 q_i10 q_i11 q_s1 q_s2 q_s3 q_u1 q_u2 q_min q_max q_ce1 q_ce2 q_ce3 q_ce4 q_ce5 q_ce6 q_ce7 q_ce8 q_ce9 q_ce10 q_ce11 q_on2 q_on3 q_on4 q_on5 q_on6 q_on7 q_on8 q_on9 q_on10 q_on11 q_enr1 q_gEt q_zr0 q_zr1 q_zgs q_zgg q_zk1 q_zk2 q_zd q_zv1 q_zv2 q_zv3 q_zp1 q_zp2 q_zf q_zs1 q_zs2 q_za q_za1 q_fi0 q_fi1 q_ln0 q_ln1 q_h01 q_h02 q_h03 q_h04 q_h05 q_h06 q_h07 q_h08 q_h09 q_h10 q_h11 q_h12 q_h13 q_h14 q_h15 q_h16 q_h17 q_h18 q_h19 q_h20 q_h21 q_h22 q_h23 q_h24 q_al q_b0 q_rs1 q_rs2 q_rs3 q_rs4 q_rs5 q_rs6 q_rs7 q_rs8 q_ro1 q_ro2 q_ro3 q_ro4 q_ro5 q_ro6 q_ro7 q_ro8 cond_true cond_false decide_true decide_false List.length_cons List.length_nil List.nil_append List.cons_append true_and and_true List.toList_toArray Option.map_some Nat.zero_add Nat.add_zero Bool.and_self Bool.and_true Bool.true_and Bool.and_false Bool.false_and Bool.not_true Bool.not_false FitF FitL LendL wb keys nodupB firstOk tupA op_move op_assign op_pick op_un op_box op_nc op_mf op_ex op_min op_max get put del nth evs evp sets setN ones popTo args0 AV.ren AV.renL rho List.take_succ_cons List.take_zero List.drop_succ_cons List.drop_zero Option.isNone_none Option.isNone_some o_al28 o_al30 o_al43 o_al80 o_al84 o_ap22 o_ap41 o_bi120 o_bi22 o_bi3 o_bi4 o_bi68 o_bs22_0 o_bs22_1 o_bs22_3 o_bs41_0 o_bs41_1 o_bu28 o_bu30 o_bu43 o_bu80 o_bu98 o_cn120 o_cn3 o_cv120_3 o_cv3_120 o_fa24_0 o_fa24_1 o_fa26_0 o_fa26_1 o_fa28_0 o_fa28_1 o_fa30_0 o_fa30_1 o_fa38_0 o_fa38_1 o_fa38_2 o_fa43_0 o_fa43_1 o_fa43_2 o_fa80_0 o_fa80_1 o_fa80_2 o_fa98_0 o_fa98_1 o_ia22 o_ia36 o_ia41 o_ia78 o_ia84 o_ib4 o_ip68 o_ld22 o_ld24 o_ld26 o_ld28 o_ld3 o_ld30 o_ld36 o_ld38 o_ld4 o_ld41 o_ld43 o_ld68 o_ld78 o_ld80 o_ld84 o_ln22 o_ln36 o_ln41 o_ln78 o_ln84 o_mk22 o_mk41 o_mk78 o_mk84 o_sl22 o_sl41 o_st22 o_st28 o_st3 o_st30 o_st4 o_st41 o_st43 o_st68 o_st80 o_st84 o_zb22 o_zb36 o_zb41 o_zb78 o_zb84 I tsI slI renL_ints blk_ren en_live en_dead List.set_cons_zero List.set_cons_succ List.map_cons List.map_nil List.append_nil frzF frzS AV.frz AV.frzL frzL_ints ints_all ints_all' ints_take1 ints_mk ints_mk1 mk_length res_ints resOk_ints plain_ints plainA plainL plainE plainS List.all_cons List.all_nil bigO bigT ratO ratT ratsT renL_frs frzL_frs frs_all
/-! ### Equal lists of fractions -/
def eqVD (l q : List FR) : Nat → Bool
  | 0 => true
  | d + 1 => if ratEq (fat l (l.length - (d + 1))).1.1 (fat l (l.length - (d + 1))).1.2 (fat l (l.length - (d + 1))).2 (fat q (l.length - (d + 1))).1.1 (fat q (l.length - (d + 1))).1.2 (fat q (l.length - (d + 1))).2 = true then eqVD l q d else false
def eqV (l q : List FR) : Bool := if l.length = q.length then eqVD l q l.length else false

end Go.Proofs.Ytbblhgldfcodfaa.Ab
set_option linter.unusedVariables false
set_option linter.unusedSimpArgs false
set_option maxRecDepth 10000
namespace Go.Proofs.Ytbblhgldfcodfaa.Ab
open Go Go.RowKit
attribute [local go_sem] q_run q_seq q_skip q_block q_exit q_cond q_region q_nil q_op q_blk q_loop q_ret q_open q_inv q_fin q_go q_h0 q_h1 q_gskip q_stepC q_brt q_brf q_stepX q_sskip q_sskip0 q_val q_need q_new q_newc q_sv q_sto q_c1 q_c2 q_c3 q_c4 q_c5 q_c6 q_c7 q_c8 q_c9 q_c10 q_c11 q_c12 q_c13 q_c14 q_c15 q_c16 q_c17 q_c18 q_c19 q_c20 q_c21 q_c22 q_g0 q_g1 q_gC q_gD q_gE q_gB1 q_gB2 q_gB3 q_gB4 q_ev1 q_ev2 q_ev3 q_evo0 q_evo1 q_rv q_rva q_o1 q_o2 q_pk1 q_pk2 q_ld1p q_ld1e q_ld1t q_ldnp q_ldne q_ldnt q_sub0 q_sub1 q_subc q_stS q_stT q_box q_bldr q_bld q_fill0 q_fill1 q_fillB q_bsr q_bsl q_fap q_fat q_iasl q_iats q_lnsl q_lnts q_lnv q_lnS q_exA q_mkB q_lo0 q_lo1 q_hi0 q_hi1 q_slcA q_slcU1 q_slcU2 q_slcT1 q_slcT2 q_slsA q_slsU q_slsT q_apA q_apC q_srcE1 q_srcE2 q_srcE3 q_srcA1 q_srcB q_srcA2 q_srcA3 q_fnA q_nc1 q_nc2 q_bin q_bin2 q_bin3 q_bin4 q_bin5 q_bin6 q_bin7 q_bin8 q_bin9 q_bin10 q_i1 q_i2 q_i3 q_i4 q_i5 q_i6 q_i7 q_i8 q_i9 q_i10 q_i11 q_s1 q_s2 q_s3 q_u1 q_u2 q_min q_max q_ce1 q_ce2 q_ce3 q_ce4 q_ce5 q_ce6 q_ce7 q_ce8 q_ce9 q_ce10 q_ce11 q_on2 q_on3 q_on4 q_on5 q_on6 q_on7 q_on8 q_on9 q_on10 q_on11 q_enr1 q_gEt q_zr0 q_zr1 q_zgs q_zgg q_zk1 q_zk2 q_zd q_zv1 q_zv2 q_zv3 q_zp1 q_zp2 q_zf q_zs1 q_zs2 q_za q_za1 q_fi0 q_fi1 q_ln0 q_ln1 q_h01 q_h02 q_h03 q_h04 q_h05 q_h06 q_h07 q_h08 q_h09 q_h10 q_h11 q_h12 q_h13 q_h14 q_h15 q_h16 q_h17 q_h18 q_h19 q_h20 q_h21 q_h22 q_h23 q_h24 q_al q_b0 q_rs1 q_rs2 q_rs3 q_rs4 q_rs5 q_rs6 q_rs7 q_rs8 q_ro1 q_ro2 q_ro3 q_ro4 q_ro5 q_ro6 q_ro7 q_ro8 cond_true cond_false decide_true decide_false List.length_cons List.length_nil List.nil_append List.cons_append true_and and_true List.toList_toArray Option.map_some Nat.zero_add Nat.add_zero Bool.and_self Bool.and_true Bool.true_and Bool.and_false Bool.false_and Bool.not_true Bool.not_false FitF FitL LendL wb keys nodupB firstOk tupA op_move op_assign op_pick op_un op_box op_nc op_mf op_ex op_min op_max get put del nth evs evp sets setN ones popTo args0 AV.ren AV.renL rho List.take_succ_cons List.take_zero List.drop_succ_cons List.drop_zero Option.isNone_none Option.isNone_some o_al28 o_al30 o_al43 o_al80 o_al84 o_ap22 o_ap41 o_bi120 o_bi22 o_bi3 o_bi4 o_bi68 o_bs22_0 o_bs22_1 o_bs22_3 o_bs41_0 o_bs41_1 o_bu28 o_bu30 o_bu43 o_bu80 o_bu98 o_cn120 o_cn3 o_cv120_3 o_cv3_120 o_fa24_0 o_fa24_1 o_fa26_0 o_fa26_1 o_fa28_0 o_fa28_1 o_fa30_0 o_fa30_1 o_fa38_0 o_fa38_1 o_fa38_2 o_fa43_0 o_fa43_1 o_fa43_2 o_fa80_0 o_fa80_1 o_fa80_2 o_fa98_0 o_fa98_1 o_ia22 o_ia36 o_ia41 o_ia78 o_ia84 o_ib4 o_ip68 o_ld22 o_ld24 o_ld26 o_ld28 o_ld3 o_ld30 o_ld36 o_ld38 o_ld4 o_ld41 o_ld43 o_ld68 o_ld78 o_ld80 o_ld84 o_ln22 o_ln36 o_ln41 o_ln78 o_ln84 o_mk22 o_mk41 o_mk78 o_mk84 o_sl22 o_sl41 o_st22 o_st28 o_st3 o_st30 o_st4 o_st41 o_st43 o_st68 o_st80 o_st84 o_zb22 o_zb36 o_zb41 o_zb78 o_zb84 I tsI slI renL_ints blk_ren en_live en_dead List.set_cons_zero List.set_cons_succ List.map_cons List.map_nil List.append_nil frzF frzS AV.frz AV.frzL frzL_ints ints_all ints_all' ints_take1 ints_mk ints_mk1 mk_length res_ints resOk_ints plain_ints plainA plainL plainE plainS List.all_cons List.all_nil bigO bigT ratO ratT ratsT renL_frs frzL_frs frs_all
/-! ### Matrices: sizes, copies, equality -/
def matT (r c : Int) (l : List FR) : AV := .agg [I r, I c, ratsT l]
def eqM (r c : Int) (l : List FR) (r' c' : Int) (q : List FR) : Bool := (decide (r = r') && decide (c = c')) && eqV l q
theorem szMatrix_c (r c : Int) (l : List FR) (left : Int) (hl0 : 0 ≤ left) (hl1 : left ≤ 1048576) (hl : l.length ≤ 9223372036854775807) (hd : ∀ i, i < l.length → (fat l i).1.2.length ≤ 9223372036854775807 ∧ (fat l i).2.length ≤ 9223372036854775807) : AC Try.prog 21 [matT r c l, I left] [] (I (szv left (l.length + tot l))) [] := by
  refine AC.intro (fn := Try.f21) (c := ?_) 12 Try.func21 (by rfl) (by kernel_rfl) (by kernel_rfl) (Nat.le_of_ble_eq_true rfl) fun e hP hf hn h0 hE => ?_
  have hte : TEok e.P te := hP ▸ teOk
  have hmx : e.P.follows .mixedOrders = true := hP ▸ mixedOk
  refine Go.run hte hn 100 ?_; simp only [go_sem, Nat.reduceBEq, Nat.reduceLT, Nat.reduceAdd, Nat.reduceMul, Nat.reduceLeDiff, matT]
  refine Go.call0 hP (szRatS_c l left hl0 hl1 hl hd) rfl rfl rfl (by omega) (by simp [go_sem, tsI, slI, I, renL_ints, blk_ren, en_live, en_dead, ints_length, ints_nil, ints_one]) ?_
  refine Go.run hte hn 100 ?_; simp only [go_sem, Nat.reduceBEq, Nat.reduceLT, Nat.reduceAdd, Nat.reduceMul, Nat.reduceLeDiff]
  refine Br.mk (fun hz => ?_) (fun hz => ?_)
  · have hz := of_decide_eq_true hz
    have e : szv left (l.length + tot l) = -1 := by unfold szv; rw [if_pos (szv_lt.1 hz)]
    rw [e] at hE
    refine Go.retG hte hE hf [] rfl (by simp [go_sem, tsI, slI, I, renL_ints, blk_ren, en_live, en_dead, ints_length, ints_nil, ints_one]) rfl (by rw [h0]; rfl) trivial
  · refine Go.retG hte hE hf [] rfl (by simp [go_sem, tsI, slI, I, renL_ints, blk_ren, en_live, en_dead, ints_length, ints_nil, ints_one]) rfl (by rw [h0]; rfl) trivial
theorem toMatrix_c (r c : Int) (l : List FR) (hl : l.length ≤ 1048576) (hd : ∀ i, i < l.length → (fat l i).1.2.length ≤ 1048576 ∧ (fat l i).2.length ≤ 1048576) : AC Try.prog 23 [matT r c l] [] (matT r c l) [] := by
  refine AC.intro (fn := Try.f23) (c := ?_) 15 Try.func23 (by rfl) (by kernel_rfl) (by kernel_rfl) (Nat.le_of_ble_eq_true rfl) fun e hP hf hn h0 hE => ?_
  have hte : TEok e.P te := hP ▸ teOk
  have hmx : e.P.follows .mixedOrders = true := hP ▸ mixedOk
  refine Go.run hte hn 100 ?_; simp only [go_sem, Nat.reduceBEq, Nat.reduceLT, Nat.reduceAdd, Nat.reduceMul, Nat.reduceLeDiff, matT]
  refine Go.call0 hP (toRatS_c l hl hd) rfl rfl rfl (by omega) (by simp [go_sem, tsI, slI, I, renL_ints, blk_ren, en_live, en_dead, ints_length, ints_nil, ints_one]) ?_
  refine Go.run hte hn 100 ?_; simp only [go_sem, Nat.reduceBEq, Nat.reduceLT, Nat.reduceAdd, Nat.reduceMul, Nat.reduceLeDiff]
  refine Go.retG hte hE hf [] rfl (by simp [go_sem, tsI, slI, I, renL_ints, blk_ren, en_live, en_dead, ints_length, ints_nil, ints_one, matT]) rfl (by rw [h0]; rfl) trivial
theorem eqMatrix_c (r c : Int) (l : List FR) (hl : l.length ≤ 1152921504606846976) (hd : ∀ i, i < l.length → (fat l i).1.2.length ≤ 1152921504606846976 ∧ (fat l i).2.length ≤ 1152921504606846976) : AC Try.prog 25 [matT r c l, matT r c l] [] (.v (.bool true)) [] := by
  refine AC.intro (fn := Try.f25) (c := ?_) 21 Try.func25 (by rfl) (by kernel_rfl) (by kernel_rfl) (Nat.le_of_ble_eq_true rfl) fun e hP hf hn h0 hE => ?_
  have hte : TEok e.P te := hP ▸ teOk
  have hmx : e.P.follows .mixedOrders = true := hP ▸ mixedOk
  refine Go.run hte hn 100 ?_; simp only [go_sem, Nat.reduceBEq, Nat.reduceLT, Nat.reduceAdd, Nat.reduceMul, Nat.reduceLeDiff, matT]
  refine Go.call0 hP (eqRatS_c l hl hd) rfl rfl rfl (by omega) (by simp [go_sem, tsI, slI, I, renL_ints, blk_ren, en_live, en_dead, ints_length, ints_nil, ints_one]) ?_
  refine Go.run hte hn 100 ?_; simp only [go_sem, Nat.reduceBEq, Nat.reduceLT, Nat.reduceAdd, Nat.reduceMul, Nat.reduceLeDiff]
  refine Go.retG hte hE hf [] rfl (by simp [go_sem, tsI, slI, I, renL_ints, blk_ren, en_live, en_dead, ints_length, ints_nil, ints_one]) rfl (by rw [h0]; rfl) trivial

end Go.Proofs.Ytbblhgldfcodfaa.Ab
set_option linter.unusedVariables false
set_option linter.unusedSimpArgs false
set_option maxRecDepth 10000
namespace Go.Proofs.Ytbblhgldfcodfaa.Ab
open Go Go.RowKit
attribute [local go_sem] q_run q_seq q_skip q_block q_exit q_cond q_region q_nil q_op q_blk q_loop q_ret q_open q_inv q_fin q_go q_h0 q_h1 q_gskip q_stepC q_brt q_brf q_stepX q_sskip q_sskip0 q_val q_need q_new q_newc q_sv q_sto q_c1 q_c2 q_c3 q_c4 q_c5 q_c6 q_c7 q_c8 q_c9 q_c10 q_c11 q_c12 q_c13 q_c14 q_c15 q_c16 q_c17 q_c18 q_c19 q_c20 q_c21 q_c22 q_g0 q_g1 q_gC q_gD q_gE q_gB1 q_gB2 q_gB3 q_gB4 q_ev1 q_ev2 q_ev3 q_evo0 q_evo1 q_rv q_rva q_o1 q_o2 q_pk1 q_pk2 q_ld1p q_ld1e q_ld1t q_ldnp q_ldne q_ldnt q_sub0 q_sub1 q_subc q_stS q_stT q_box q_bldr q_bld q_fill0 q_fill1 q_fillB q_bsr q_bsl q_fap q_fat q_iasl q_iats q_lnsl q_lnts q_lnv q_lnS q_exA q_mkB q_lo0 q_lo1 q_hi0 q_hi1 q_slcA q_slcU1 q_slcU2 q_slcT1 q_slcT2 q_slsA q_slsU q_slsT q_apA q_apC q_srcE1 q_srcE2 q_srcE3 q_srcA1 q_srcB q_srcA2 q_srcA3 q_fnA q_nc1 q_nc2 q_bin q_bin2 q_bin3 q_bin4 q_bin5 q_bin6 q_bin7 q_bin8 q_bin9 q_bin10 q_i1 q_i2 q_i3 q_i4 q_i5 q_i6 q_i7 q_i8 q_i9 q_i10 q_i11 q_s1 q_s2 q_s3 q_u1 q_u2 q_min q_max q_ce1 q_ce2 q_ce3 q_ce4 q_ce5 q_ce6 q_ce7 q_ce8 q_ce9 q_ce10 q_ce11 q_on2 q_on3 q_on4 q_on5 q_on6 q_on7 q_on8 q_on9 q_on10 q_on11 q_enr1 q_gEt q_zr0 q_zr1 q_zgs q_zgg q_zk1 q_zk2 q_zd q_zv1 q_zv2 q_zv3 q_zp1 q_zp2 q_zf q_zs1 q_zs2 q_za q_za1 q_fi0 q_fi1 q_ln0 q_ln1 q_h01 q_h02 q_h03 q_h04 q_h05 q_h06 q_h07 q_h08 q_h09 q_h10 q_h11 q_h12 q_h13 q_h14 q_h15 q_h16 q_h17 q_h18 q_h19 q_h20 q_h21 q_h22 q_h23 q_h24 q_al q_b0 q_rs1 q_rs2 q_rs3 q_rs4 q_rs5 q_rs6 q_rs7 q_rs8 q_ro1 q_ro2 q_ro3 q_ro4 q_ro5 q_ro6 q_ro7 q_ro8 cond_true cond_false decide_true decide_false List.length_cons List.length_nil List.nil_append List.cons_append true_and and_true List.toList_toArray Option.map_some Nat.zero_add Nat.add_zero Bool.and_self Bool.and_true Bool.true_and Bool.and_false Bool.false_and Bool.not_true Bool.not_false FitF FitL LendL wb keys nodupB firstOk tupA op_move op_assign op_pick op_un op_box op_nc op_mf op_ex op_min op_max get put del nth evs evp sets setN ones popTo args0 AV.ren AV.renL rho List.take_succ_cons List.take_zero List.drop_succ_cons List.drop_zero Option.isNone_none Option.isNone_some o_al28 o_al30 o_al43 o_al80 o_al84 o_ap22 o_ap41 o_bi120 o_bi22 o_bi3 o_bi4 o_bi68 o_bs22_0 o_bs22_1 o_bs22_3 o_bs41_0 o_bs41_1 o_bu28 o_bu30 o_bu43 o_bu80 o_bu98 o_cn120 o_cn3 o_cv120_3 o_cv3_120 o_fa24_0 o_fa24_1 o_fa26_0 o_fa26_1 o_fa28_0 o_fa28_1 o_fa30_0 o_fa30_1 o_fa38_0 o_fa38_1 o_fa38_2 o_fa43_0 o_fa43_1 o_fa43_2 o_fa80_0 o_fa80_1 o_fa80_2 o_fa98_0 o_fa98_1 o_ia22 o_ia36 o_ia41 o_ia78 o_ia84 o_ib4 o_ip68 o_ld22 o_ld24 o_ld26 o_ld28 o_ld3 o_ld30 o_ld36 o_ld38 o_ld4 o_ld41 o_ld43 o_ld68 o_ld78 o_ld80 o_ld84 o_ln22 o_ln36 o_ln41 o_ln78 o_ln84 o_mk22 o_mk41 o_mk78 o_mk84 o_sl22 o_sl41 o_st22 o_st28 o_st3 o_st30 o_st4 o_st41 o_st43 o_st68 o_st80 o_st84 o_zb22 o_zb36 o_zb41 o_zb78 o_zb84 I tsI slI renL_ints blk_ren en_live en_dead List.set_cons_zero List.set_cons_succ List.map_cons List.map_nil List.append_nil frzF frzS AV.frz AV.frzL frzL_ints ints_all ints_all' ints_take1 ints_mk ints_mk1 mk_length res_ints resOk_ints plain_ints plainA plainL plainE plainS List.all_cons List.all_nil bigO bigT ratO ratT ratsT renL_frs frzL_frs frs_all FitI FitZ keys get put del blksO_length mkR_length mixR_length segO_id segO_id0 segO_length List.append_nil List.nil_append
/-! ### Lists of fractions: marks -/
theorem markRatS_c (l : List FR) (k : Int) (hk : 0 ≤ k) (hb : k + l.length + tot l ≤ 16777216) : AC Try.prog 32 [.sl 0 0 l.length 3, I k] (segO 30 l) (I (k + l.length + tot l)) (segO 30 (mkR k l)) := by
  refine AC.intro (fn := Try.f32) (c := ?_) 38 Try.func32 (by rfl) (by kernel_rfl) (by kernel_rfl) (Nat.le_of_ble_eq_true rfl) fun e hP hf hn h0 hE => ?_
  have hte : TEok e.P te := hP ▸ teOk
  have hmx : e.P.follows .mixedOrders = true := hP ▸ mixedOk
  refine Go.run hte hn 100 ?_; simp only [go_sem, Nat.reduceBEq, Nat.reduceLT, Nat.reduceAdd, Nat.reduceMul, Nat.reduceLeDiff]
  refine Go.enterI (fun x : Nat × Sto => x.1 ≤ l.length ∧ x.2.length = 2 * l.length + 1 ∧ Seg x.2 0 (List.range' 1 (2 * l.length)) 30 (mixR k l x.1)) (fun x => l.length - x.1) (fun x => [(0, .sl 0 0 l.length 3), (1, I (posR k l x.1)), (5, I x.1)]) (fun x => x.2) (0, segO 30 l) ⟨Nat.zero_le _, segO_length _ _, by rw [mixR_0]; exact Seg.canon _ l⟩ rfl rfl (by rw [posR_0]; simp [go_sem, tsI, slI, I, renL_ints, blk_ren, en_live, en_dead, ints_length, ints_nil, ints_one]) ?_
  rintro ⟨i, σ⟩ ⟨hi, hsl, hS⟩
  simp only at hi hsl hS
  by_cases hlt : i < l.length
  · have dA : decide ((i : Int) < (l.length : Int)) = true := decide_eq_true (by omega)
    have e2 : IntKind.i64.wrap ((i : Int) + 1) = ((i + 1 : Nat) : Int) := by rw [W64] <;> omega
    have c0 : (0 ≤ (i : Int)) = True := eq_true (by omega)
    have c1 : ((i : Int) < (l.length : Int)) = True := eq_true (by omega)
    have hm : i < (mixR k l i).length := by rw [mixR_length]; exact hlt
    have hrow := hS.row
    have hcl := cellsN_length _ _ hS.len
    obtain ⟨b, hbd⟩ : ∃ b, b = decide ((posR k l i).tmod 3 = 0) := ⟨_, rfl⟩
    obtain ⟨q1, q2⟩ := posR_le k hi
    have q3 := tot_at hlt
    have q4 := posR_step k hlt
    have q5 := (posR_le k (show i + 1 ≤ l.length by omega)).2
    unfold fsz at q3
    have e3 : IntKind.i64.wrap (posR k l i + 1) = posR k l i + 1 := by clear e2; rw [W64] <;> omega
    have hfm := mixR_at k hlt
    have g1 : (List.range' 1 (2 * l.length)).getD (2 * i) 0 = 2 * i + 1 := by rw [List.getD_eq_getElem?_getD, range1_at (by omega)]; rfl
    have g2 : (List.range' 1 (2 * l.length)).getD (2 * i + 1) 0 = 2 * i + 1 + 1 := by rw [List.getD_eq_getElem?_getD, range1_at (by omega)]; rfl
    have hS1 := hS.bool hm b
    have hcb := cl_bool b hS.len hm
    rw [hfm] at hS1 hcb
    have hm1 : i < ((mixR k l i).set i ((b, (fat l i).1.2), (fat l i).2)).length := by rw [List.length_set]; exact hm
    have n1 := ncl1 hS1.len hm1
    have n2 := ncl2 hS1.len hm1
    rw [fat_set _ hm, g1] at n1
    rw [fat_set _ hm, g2] at n2
    have ns : ∀ y, nth (setN σ 0 y) 0 = some y := fun y => nth_set y (by omega)
    have hmg := hS1.mag hm1
    rw [fat_set _ hm, g1] at hmg
    rw [hcb] at hS1 hmg
    refine Go.run hte hn 100 ?_; simp only [go_sem, Nat.reduceBEq, Nat.reduceLT, Nat.reduceAdd, Nat.reduceMul, Nat.reduceLeDiff, dA, c0, c1, Int.toNat_natCast, hrow, ← hbd, e3, hcb, ns, n1]
    refine ⟨by omega, by rw [hcl]; omega, ?_⟩
    refine Go.call hP (markIntS_c (fat l i).1.2 (posR k l i + 1) (by omega) (by omega) (by omega)) [2 * i + 1] rfl rfl rfl (by omega) (by simp [go_sem, tsI, slI, I, renL_ints, blk_ren, en_live, en_dead, ints_length, ints_nil, ints_one]) (Lend.mk' rfl (by simp [go_sem, tsI, slI, I, renL_ints, blk_ren, en_live, en_dead, ints_length, ints_nil, ints_one, hmg])) ?_
    have hS2 := hS1.setmag hm1 (v := mk (posR k l i + 1) (fat l i).1.2.length) (by rw [fat_set _ hm, mk_length])
    rw [fat_set _ hm, g1, List.set_set] at hS2
    have hm2 : i < ((mixR k l i).set i ((b, mk (posR k l i + 1) (fat l i).1.2.length), (fat l i).2)).length := by rw [List.length_set]; exact hm
    have hrow2 := hS2.row
    have n3 := ncl2 hS2.len hm2
    rw [fat_set _ hm, g2, show i * 3 + 1 + 1 = i * 3 + 2 from rfl] at n3
    have hdn := hS2.den hm2
    rw [fat_set _ hm, g2] at hdn
    have hS3 := hS2.setden hm2 (v := mk (posR k l i + 1 + (fat l i).1.2.length) (fat l i).2.length) (by rw [fat_set _ hm, mk_length])
    rw [fat_set _ hm, g2, List.set_set] at hS3
    have hfin : (mixR k l i).set i ((b, mk (posR k l i + 1) (fat l i).1.2.length), mk (posR k l i + 1 + (fat l i).1.2.length) (fat l i).2.length) = mixR k l (i + 1) := by rw [mixR_step k hlt, hbd]; rfl
    simp only [hfin] at hS3
    simp only [go_sem, Nat.reduceBEq, Nat.reduceLT, Nat.reduceAdd, Nat.reduceMul, Nat.reduceLeDiff, ← @setN_eq En]
    generalize hg : setN (setN σ 0 _) (2 * i + 1) _ = σ2 at hS2 hS3 hrow2 hdn ⊢
    have hl2 : σ2.length = 2 * l.length + 1 := by rw [← hg, setN_len, setN_len, hsl]
    refine Go.run hte hn 100 ?_; simp only [go_sem, Nat.reduceBEq, Nat.reduceLT, Nat.reduceAdd, Nat.reduceMul, Nat.reduceLeDiff, c0, c1, Int.toNat_natCast, hrow2, n3]
    refine Go.call hP (markIntS_c (fat l i).2 (posR k l i + 1 + (fat l i).1.2.length) (by omega) (by omega) (by omega)) [2 * i + 1 + 1] rfl rfl rfl (by omega) (by simp [go_sem, tsI, slI, I, renL_ints, blk_ren, en_live, en_dead, ints_length, ints_nil, ints_one]) (Lend.mk' rfl (by simp [go_sem, tsI, slI, I, renL_ints, blk_ren, en_live, en_dead, ints_length, ints_nil, ints_one, hdn])) ?_
    refine Go.run hte hn 100 ?_; simp only [go_sem, Nat.reduceBEq, Nat.reduceLT, Nat.reduceAdd, Nat.reduceMul, Nat.reduceLeDiff, e2, ← @setN_eq En]
    refine Go.roundI (i + 1, setN σ2 (2 * i + 1 + 1) (.live ⟨3, ints (mk (posR k l i + 1 + (fat l i).1.2.length) (fat l i).2.length)⟩)) ⟨hlt, ?_, hS3⟩ (by show l.length - (i + 1) < l.length - i; omega) rfl rfl (by simp [go_sem, tsI, slI, I, renL_ints, blk_ren, en_live, en_dead, ints_length, ints_nil, ints_one, q4])
    show (setN σ2 _ _).length = _
    rw [setN_len, hl2]
  · have dA : decide ((i : Int) < (l.length : Int)) = false := decide_eq_false (by omega)
    have hil : i = l.length := by omega
    subst hil
    rw [mixR_all] at hS
    refine Go.run hte hn 100 ?_; simp only [go_sem, Nat.reduceBEq, Nat.reduceLT, Nat.reduceAdd, Nat.reduceMul, Nat.reduceLeDiff, dA]
    refine Go.retSeg hte hE hf hS rfl (by simp [go_sem, tsI, slI, I, renL_ints, blk_ren, en_live, en_dead, ints_length, ints_nil, ints_one, posR_all]) (by rw [h0, segO_length, mkR_length]; omega) (fun n hn => ?_)
    rw [h0, segO_length] at hn
    cases n with
    | zero => rfl
    | succ n =>
      have h1 := rho_lt (List.range' 1 (2 * l.length)) σ.length n (by rw [List.length_range']; omega)
      rw [range1_at (by omega)] at h1
      injection h1 with h1
      exact h1.symm
theorem heldRatS_c (l : List FR) (k : Int) (hk : 0 ≤ k) (hb : k + l.length + tot l ≤ 16777216) : AC Try.prog 33 [ratsT (mkR k l), I k] [] (I (k + l.length + tot l)) [] := by
  refine AC.intro (fn := Try.f33) (c := ?_) 44 Try.func33 (by rfl) (by kernel_rfl) (by kernel_rfl) (Nat.le_of_ble_eq_true rfl) fun e hP hf hn h0 hE => ?_
  have hte : TEok e.P te := hP ▸ teOk
  have hmx : e.P.follows .mixedOrders = true := hP ▸ mixedOk
  have hml : (mkR k l).length = l.length := mkR_length k l
  refine Go.run hte hn 100 ?_; simp only [go_sem, Nat.reduceBEq, Nat.reduceLT, Nat.reduceAdd, Nat.reduceMul, Nat.reduceLeDiff, ratsT]
  refine Go.enter (fun i : Nat => i ≤ l.length) (fun i => l.length - i) (fun i => [(0, ratsT (mkR k l)), (1, I (posR k l i)), (5, I i)]) (fun i => []) 0 [] (Nat.zero_le _) rfl rfl (by rw [h0]; rfl) (by rw [posR_0]; simp [go_sem, tsI, slI, I, renL_ints, blk_ren, en_live, en_dead, ints_length, ints_nil, ints_one, ratsT, renL_frs]) trivial ?_
  intro i hi
  by_cases hlt : i < l.length
  · have dA : decide ((i : Int) < (l.length : Int)) = true := decide_eq_true (by omega)
    have e2 : IntKind.i64.wrap ((i : Int) + 1) = ((i + 1 : Nat) : Int) := by rw [W64] <;> omega
    have c0 : (0 ≤ (i : Int)) = True := eq_true (by omega)
    have c1 : ((i : Int) < (l.length : Int)) = True := eq_true (by omega)
    have hlm : i < (mkR k l).length := by omega
    have c2 : (0 < (frs (mkR k l)).length) = True := eq_true (by rw [frs_length]; omega)
    have f0 := nfr0 hlm
    have f1 := nfr1 hlm
    have f2 := nfr2 hlm
    rw [mkR_at k hlt] at f0 f1 f2
    unfold mk1 at f0 f1 f2
    obtain ⟨q1, q2⟩ := posR_le k hi
    have q3 := tot_at hlt
    have q4 := posR_step k hlt
    have q5 := (posR_le k (show i + 1 ≤ l.length by omega)).2
    unfold fsz at q3
    have e3 : IntKind.i64.wrap (posR k l i + 1) = posR k l i + 1 := by clear e2; rw [W64] <;> omega
    refine Go.run hte hn 100 ?_; simp only [go_sem, Nat.reduceBEq, Nat.reduceLT, Nat.reduceAdd, Nat.reduceMul, Nat.reduceLeDiff, dA, hml, c0, c1, c2, ratsT, Int.toNat_natCast, f0, f1, show i * 3 + 2 = i * 3 + 1 + 1 from rfl, f2, e3, beq_self_eq_true, Bool.not_true]
    refine ⟨by omega, ?_⟩
    refine Go.call0 hP (heldIntS_c (mk (posR k l i + 1) (fat l i).1.2.length) (posR k l i + 1) (by omega) (by rw [mk_length]; omega) (by rw [mk_length]; omega) (by rw [mk_length])) rfl rfl rfl (by omega) (by simp [go_sem, tsI, slI, I, renL_ints, blk_ren, en_live, en_dead, ints_length, ints_nil, ints_one]) ?_
    have d1 : decide (posR k l i + 1 + ((fat l i).1.2.length : Int) < 0) = false := decide_eq_false (by omega)
    refine Go.run hte hn 100 ?_; simp only [go_sem, Nat.reduceBEq, Nat.reduceLT, Nat.reduceAdd, Nat.reduceMul, Nat.reduceLeDiff, d1, c0, c1, c2, Int.toNat_natCast, show i * 3 + 2 = i * 3 + 1 + 1 from rfl, f2, hml]
    refine Go.call0 hP (heldIntS_c (mk (posR k l i + 1 + (fat l i).1.2.length) (fat l i).2.length) (posR k l i + 1 + (fat l i).1.2.length) (by omega) (by rw [mk_length]; omega) (by rw [mk_length]; omega) (by rw [mk_length])) rfl rfl rfl (by omega) (by simp [go_sem, tsI, slI, I, renL_ints, blk_ren, en_live, en_dead, ints_length, ints_nil, ints_one]) ?_
    have d2 : decide (posR k l i + 1 + ((fat l i).1.2.length : Int) + ((fat l i).2.length : Int) < 0) = false := decide_eq_false (by omega)
    refine Go.run hte hn 100 ?_; simp only [go_sem, Nat.reduceBEq, Nat.reduceLT, Nat.reduceAdd, Nat.reduceMul, Nat.reduceLeDiff, d2, e2]
    refine Go.round (i + 1) [] hlt (by omega) rfl rfl (by rw [h0]; rfl) (by simp [go_sem, tsI, slI, I, renL_ints, blk_ren, en_live, en_dead, ints_length, ints_nil, ints_one, ratsT, renL_frs, q4, hml]) trivial
  · have dA : decide ((i : Int) < (l.length : Int)) = false := decide_eq_false (by omega)
    have hil : i = l.length := by omega
    subst hil
    rw [← posR_all] at hE
    refine Go.run hte hn 100 ?_; simp only [go_sem, Nat.reduceBEq, Nat.reduceLT, Nat.reduceAdd, Nat.reduceMul, Nat.reduceLeDiff, dA, hml, ratsT]
    refine Go.retG hte hE hf [] rfl (by simp [go_sem, tsI, slI, I, renL_ints, blk_ren, en_live, en_dead, ints_length, ints_nil, ints_one]) rfl (by rw [h0]; rfl) trivial

end Go.Proofs.Ytbblhgldfcodfaa.Ab
