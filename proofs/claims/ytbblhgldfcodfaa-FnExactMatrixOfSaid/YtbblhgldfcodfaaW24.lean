/- Contracts of the given program's functions and of the reference's (walks). -/
import Derived.Test.YtbblhgldfcodfaaAbT
import Derived.Test.YtbblhgldfcodfaaAbP
import Derived.Test.YtbblhgldfcodfaaAbN
import Derived.Test.YtbblhgldfcodfaaAbD
import Derived.Test.YtbblhgldfcodfaaAbK
import Derived.Test.YtbblhgldfcodfaaRunW1
import Derived.Test.YtbblhgldfcodfaaRunW5
import Derived.Test.YtbblhgldfcodfaaRunW9
import Derived.Test.YtbblhgldfcodfaaW13
import Derived.Test.YtbblhgldfcodfaaW21
import Derived.Test.YtbblhgldfcodfaaW22
import Derived.Test.YtbblhgldfcodfaaW23
set_option linter.unusedVariables false
set_option linter.unusedSimpArgs false
set_option maxRecDepth 10000
namespace Go.Proofs.Ytbblhgldfcodfaa.Ab
open Go Go.RowKit
attribute [local go_sem] q_run q_seq q_skip q_block q_exit q_cond q_region q_nil q_op q_blk q_loop q_ret q_open q_inv q_fin q_go q_h0 q_h1 q_gskip q_stepC q_brt q_brf q_stepX q_sskip q_sskip0 q_val q_need q_new q_newc q_sv q_sto q_c1 q_c2 q_c3 q_c4 q_c5 q_c6 q_c7 q_c8 q_c9 q_c10 q_c11 q_c12 q_c13 q_c14 q_c15 q_c16 q_c17 q_c18 q_c19 q_c20 q_c21 q_c22 q_g0 q_g1 q_gC q_gD q_gE q_gB1 q_gB2 q_gB3 q_gB4 q_ev1 q_ev2 q_ev3 q_evo0 q_evo1 q_rv q_rva q_o1 q_o2 q_pk1 q_pk2 q_ld1p q_ld1e q_ld1t q_ldnp q_ldne q_ldnt q_sub0 q_sub1 q_subc q_stS q_stT q_box q_bldr q_bld q_fill0 q_fill1 q_fillB q_bsr q_bsl q_fap q_fat q_iasl q_iats q_lnsl q_lnts q_lnv q_lnS q_exA q_mkB q_lo0 q_lo1 q_hi0 q_hi1 q_slcA q_slcU1 q_slcU2 q_slcT1 q_slcT2 q_slsA q_slsU q_slsT q_apA q_apC q_srcE1 q_srcE2 q_srcE3 q_srcA1 q_srcB q_srcA2 q_srcA3 q_fnA q_nc1 q_nc2 q_bin q_bin2 q_bin3 q_bin4 q_bin5 q_bin6 q_bin7 q_bin8 q_bin9 q_bin10 q_i1 q_i2 q_i3 q_i4 q_i5 q_i6 q_i7 q_i8 q_i9 q_i10 q_i11 q_s1 q_s2 q_s3 q_u1 q_u2 q_min q_max q_ce1 q_ce2 q_ce3 q_ce4 q_ce5 q_ce6 q_ce7 q_ce8 q_ce9 q_ce10 q_ce11 q_on2 q_on3 q_on4 q_on5 q_on6 q_on7 q_on8 q_on9 q_on10 q_on11 q_enr1 q_gEt q_zr0 q_zr1 q_zgs q_zgg q_zk1 q_zk2 q_zd q_zv1 q_zv2 q_zv3 q_zp1 q_zp2 q_zf q_zs1 q_zs2 q_za q_za1 q_fi0 q_fi1 q_ln0 q_ln1 q_h01 q_h02 q_h03 q_h04 q_h05 q_h06 q_h07 q_h08 q_h09 q_h10 q_h11 q_h12 q_h13 q_h14 q_h15 q_h16 q_h17 q_h18 q_h19 q_h20 q_h21 q_h22 q_h23 q_h24 q_al q_b0 q_rs1 q_rs2 q_rs3 q_rs4 q_rs5 q_rs6 q_rs7 q_rs8 q_ro1 q_ro2 q_ro3 q_ro4 q_ro5 q_ro6 q_ro7 q_ro8 cond_true cond_false decide_true decide_false List.length_cons List.length_nil List.nil_append List.cons_append true_and and_true List.toList_toArray Option.map_some Nat.zero_add Nat.add_zero Bool.and_self Bool.and_true Bool.true_and Bool.and_false Bool.false_and Bool.not_true Bool.not_false FitF FitL LendL wb keys nodupB firstOk tupA op_move op_assign op_pick op_un op_box op_nc op_mf op_ex op_min op_max get put del nth evs evp sets setN ones popTo args0 AV.ren AV.renL rho List.take_succ_cons List.take_zero List.drop_succ_cons List.drop_zero Option.isNone_none Option.isNone_some o_al28 o_al30 o_al43 o_al80 o_al84 o_ap22 o_ap41 o_bi120 o_bi22 o_bi3 o_bi4 o_bi68 o_bs22_0 o_bs22_1 o_bs22_3 o_bs41_0 o_bs41_1 o_bu28 o_bu30 o_bu43 o_bu80 o_bu98 o_cn120 o_cn3 o_cv120_3 o_cv3_120 o_fa24_0 o_fa24_1 o_fa26_0 o_fa26_1 o_fa28_0 o_fa28_1 o_fa30_0 o_fa30_1 o_fa38_0 o_fa38_1 o_fa38_2 o_fa43_0 o_fa43_1 o_fa43_2 o_fa80_0 o_fa80_1 o_fa80_2 o_fa98_0 o_fa98_1 o_ia22 o_ia36 o_ia41 o_ia78 o_ia84 o_ib4 o_ip68 o_ld22 o_ld24 o_ld26 o_ld28 o_ld3 o_ld30 o_ld36 o_ld38 o_ld4 o_ld41 o_ld43 o_ld68 o_ld78 o_ld80 o_ld84 o_ln22 o_ln36 o_ln41 o_ln78 o_ln84 o_mk22 o_mk41 o_mk78 o_mk84 o_sl22 o_sl41 o_st22 o_st28 o_st3 o_st30 o_st4 o_st41 o_st43 o_st68 o_st80 o_st84 o_zb22 o_zb36 o_zb41 o_zb78 o_zb84 I tsI slI renL_ints blk_ren en_live en_dead List.set_cons_zero List.set_cons_succ List.map_cons List.map_nil List.append_nil frzF frzS AV.frz AV.frzL frzL_ints ints_all ints_all' ints_take1 ints_mk ints_mk1 mk_length res_ints resOk_ints plain_ints plainA plainL plainE plainS List.all_cons List.all_nil bigO bigT ratO ratT
/-! ### Quotient and rest, the program's -/
set_option maxHeartbeats 4000000 in
theorem over_c (A B : Nat) (hB : B ≠ 0) (hal : (dg A).length ≤ 900) (hbl : (dg B).length ≤ 900) : AC Try.prog 119 [tsI (dg A), tsI (dg B)] [] (.tup [slI 0 (dg (A / B)), slI 1 (dg (A % B))]) [.live ⟨3, ints (dg (A / B))⟩, .live ⟨3, ints (dg (A % B))⟩] := by
  refine AC.intro (fn := Try.f119) (c := ?_) 172 Try.func119 (by rfl) (by kernel_rfl) (by kernel_rfl) (Nat.le_of_ble_eq_true rfl) fun e hP hf hn h0 hE => ?_
  have hte : TEok e.P te := hP ▸ teOk
  have hmx : e.P.follows .mixedOrders = true := hP ▸ mixedOk
  have Da := dg_Dig A
  have Db := dg_Dig B
  refine Go.run hte hn 100 ?_; simp only [go_sem, Nat.reduceBEq, Nat.reduceLT, Nat.reduceAdd, Nat.reduceMul, Nat.reduceLeDiff]
  refine Go.call0 hP (compare_c (dg A) (dg B) (by omega) (by omega)) rfl rfl rfl (by omega) (by simp [go_sem, tsI, slI, I, renL_ints, blk_ren, en_live, en_dead, ints_length, ints_nil, ints_one]) ?_
  rw [cmpL_dg]
  by_cases hAB : A < B
  · have dC : decide ((if A < B then (-1 : Int) else if A > B then 1 else 0) < 0) = true := by rw [if_pos hAB]; rfl
    rw [Nat.div_eq_of_lt hAB, Nat.mod_eq_of_lt hAB, dg_zero] at hE
    refine Go.run hte hn 100 ?_; simp only [go_sem, Nat.reduceBEq, Nat.reduceLT, Nat.reduceAdd, Nat.reduceMul, Nat.reduceLeDiff, dC]
    refine Go.call0 hP (Clone_c (dg A) (by omega)) rfl rfl rfl (by omega) (by simp [go_sem, tsI, slI, I, renL_ints, blk_ren, en_live, en_dead, ints_length, ints_nil, ints_one]) ?_
    refine Go.run hte hn 100 ?_; simp only [go_sem, Nat.reduceBEq, Nat.reduceLT, Nat.reduceAdd, Nat.reduceMul, Nat.reduceLeDiff]
    refine Go.virt 3 ?_
    refine Go.nilsl 4 1 1 rfl ?_
    refine Go.retG hte hE hf [1, 0] rfl (by simp [go_sem, tsI, slI, I, renL_ints, blk_ren, en_live, en_dead, ints_length, ints_nil, ints_one]) rfl (by rw [h0]; rfl) (by simp [go_sem, tsI, slI, I, renL_ints, blk_ren, en_live, en_dead, ints_length, ints_nil, ints_one])
  · have dC : decide ((if A < B then (-1 : Int) else if A > B then 1 else 0) < 0) = false := by rw [if_neg hAB]; split <;> rfl
    have hlb : 0 < (dg B).length := dg_ne hB
    have hla : (dg B).length ≤ (dg A).length := dg_len_mono (by omega)
    by_cases h1 : (dg B).length = 1
    · have d1 : decide (((dg B).length : Int) = 1) = true := decide_eq_true (by omega)
      obtain ⟨t1, t2, t3, t4, t5⟩ := dg_top B 0 h1
      have hBr : rd (dg B) 0 = (B : Int) := by
        rw [show ((0 : Nat) : Int) = 0 from rfl] at t3 t4
        simp only [List.take_zero, val, Nat.pow_zero, Nat.one_mul, Nat.zero_add] at t4
        omega
      have hB9 : B ≤ 999999999 := by
        rw [show ((0 : Nat) : Int) = 0 from rfl, hBr] at t2
        omega
      have c1 : ((0 : Int) < ((dg B).length : Int)) = True := eq_true (by omega)
      have c2 : (0 < (ints (dg B)).length) = True := eq_true (by rw [ints_length]; omega)
      have n0 := nth_ints (l := dg B) (n := 0) (by omega)
      rw [show ((0 : Nat) : Int) = 0 from rfl, hBr] at n0
      have C := overSmall_c (dg A) B Da (by omega) (by omega) hB9
      rw [val_dg] at C
      have hr : A % B < B := Nat.mod_lt _ (by omega)
      refine Go.run hte hn 100 ?_; simp only [go_sem, Nat.reduceBEq, Nat.reduceLT, Nat.reduceAdd, Nat.reduceMul, Nat.reduceLeDiff, dC, d1, c1, c2, n0, Int.le_refl, Int.toNat_zero, Nat.zero_mul]
      refine Go.call0 hP (C) rfl rfl rfl (by omega) (by simp [go_sem, tsI, slI, I, renL_ints, blk_ren, en_live, en_dead, ints_length, ints_nil, ints_one]) ?_
      have w1 : IntKind.u64.wrap ((A % B : Nat) : Int) = ((A % B : Nat) : Int) := u64_nat (by omega)
      refine Go.run hte hn 100 ?_; simp only [go_sem, Nat.reduceBEq, Nat.reduceLT, Nat.reduceAdd, Nat.reduceMul, Nat.reduceLeDiff, w1]
      refine Go.call0 hP (limbsOf_c (A % B) (by omega)) rfl rfl rfl (by omega) (by simp [go_sem, tsI, slI, I, renL_ints, blk_ren, en_live, en_dead, ints_length, ints_nil, ints_one]) ?_
      refine Go.run hte hn 100 ?_; simp only [go_sem, Nat.reduceBEq, Nat.reduceLT, Nat.reduceAdd, Nat.reduceMul, Nat.reduceLeDiff]
      refine Go.retG hte hE hf [0, 1] rfl (by simp [go_sem, tsI, slI, I, renL_ints, blk_ren, en_live, en_dead, ints_length, ints_nil, ints_one]) rfl (by rw [h0]; rfl) (by simp [go_sem, tsI, slI, I, renL_ints, blk_ren, en_live, en_dead, ints_length, ints_nil, ints_one])
    · have d1 : decide (((dg B).length : Int) = 1) = false := decide_eq_false (by omega)
      obtain ⟨m, hm⟩ : ∃ m, (dg B).length = m + 2 := ⟨(dg B).length - 2, by omega⟩
      obtain ⟨b1, hb1⟩ : ∃ b1 : Nat, rd (dg B) ((m + 1 : Nat) : Int) = b1 := ⟨(rd (dg B) ((m + 1 : Nat) : Int)).toNat, by have := Dig_rd Db (m + 1); omega⟩
      obtain ⟨d, hd⟩ : ∃ d, d = 1000000000 / (b1 + 1) := ⟨_, rfl⟩
      obtain ⟨f1, f2, f3, f4, f5, f6⟩ := norm_ok B m hm b1 d hb1 hd
      have w1 : IntKind.i64.wrap (((dg B).length : Int) - 1) = ((m + 1 : Nat) : Int) := by rw [W64] <;> omega
      have c1 : (0 ≤ ((m + 1 : Nat) : Int)) = True := eq_true (by omega)
      have c2 : (((m + 1 : Nat) : Int) < ((dg B).length : Int)) = True := eq_true (by omega)
      have c3 : (0 < (ints (dg B)).length) = True := eq_true (by rw [ints_length]; omega)
      have w2 : IntKind.i64.wrap ((b1 : Int) + 1) = ((b1 + 1 : Nat) : Int) := by rw [W64] <;> omega
      have w3 : Int.tdiv 1000000000 ((b1 + 1 : Nat) : Int) = (d : Int) := by
        rw [Int.tdiv_eq_ediv_of_nonneg (by omega), hd]
        exact (Int.natCast_ediv 1000000000 (b1 + 1)).symm
      have w4 : IntKind.i64.wrap (d : Int) = (d : Int) := by rw [W64] <;> omega
      have c4 : (((b1 + 1 : Nat) : Int) ≠ 0) = True := eq_true (by omega)
      refine Go.run hte hn 100 ?_; simp only [go_sem, Nat.reduceBEq, Nat.reduceLT, Nat.reduceAdd, Nat.reduceMul, Nat.reduceLeDiff, dC, d1, w1, c1, c2, c3, hb1, nth_ints (show m + 1 < (dg B).length by omega), Int.toNat_natCast, Nat.mul_one, w2, w3, w4, c4]
      refine Go.freeze (nm := 0) rfl ?_; simp only [go_sem, Nat.reduceBEq, Nat.reduceLT, Nat.reduceAdd, Nat.reduceMul, Nat.reduceLeDiff]
      have hDd : Dig [(d : Int)] := Dig_cons.mpr ⟨by omega, Dig_nil⟩
      have C1 := times_c (dg A) [(d : Int)] Da hDd (by omega) (by simp)
      have C2 := times_c (dg B) [(d : Int)] Db hDd (by omega) (by simp)
      have hvd : val [(d : Int)] = d := by simp [val]
      rw [hvd, val_dg] at C1 C2
      have ml := mul_len A d f3 (by omega)
      obtain ⟨v, hv⟩ : ∃ v, v = dg (B * d) := ⟨_, rfl⟩
      rw [← hv] at C2 f5 f6
      obtain ⟨a', ha'⟩ : ∃ a', a' = dg (A * d) := ⟨_, rfl⟩
      rw [← ha'] at C1 ml
      have Dv : Dig v := hv ▸ dg_Dig _
      have vv : val v = B * d := by rw [hv, val_dg]
      obtain ⟨u, hu⟩ : ∃ u, u = a' ++ [(0 : Int)] := ⟨_, rfl⟩
      have hul : u.length = a'.length + 1 := by rw [hu]; simp
      have Du : Dig u := by rw [hu, ha']; exact Dig_append.mpr ⟨dg_Dig _, Dig_cons.mpr ⟨by omega, Dig_nil⟩⟩
      have vu : val u = A * d := by rw [hu, val_snoc, ha', val_dg]; simp
      refine Go.call0 hP (C1) rfl rfl rfl (by omega) (by simp [go_sem, tsI, slI, I, renL_ints, blk_ren, en_live, en_dead, ints_length, ints_nil, ints_one]) ?_
      refine Go.run hte hn 100 ?_; simp only [go_sem, Nat.reduceBEq, Nat.reduceLT, Nat.reduceAdd, Nat.reduceMul, Nat.reduceLeDiff]
      refine ⟨⟨by rw [ints_length]; omega, by omega, by omega⟩, ?_⟩
      simp only [ints_all, ints_snoc, ← hul, ← hu]
      refine Go.call0 hP (C2) rfl rfl rfl (by omega) (by simp [go_sem, tsI, slI, I, renL_ints, blk_ren, en_live, en_dead, ints_length, ints_nil, ints_one]) ?_
      refine Go.run hte hn 100 ?_; simp only [go_sem, Nat.reduceBEq, Nat.reduceLT, Nat.reduceAdd, Nat.reduceMul, Nat.reduceLeDiff]
      refine Go.freeze (nm := 4) rfl ?_; simp only [go_sem, Nat.reduceBEq, Nat.reduceLT, Nat.reduceAdd, Nat.reduceMul, Nat.reduceLeDiff]
      refine Go.enter (fun _ : Unit => True) (fun _ => 0) (fun _ => [(0, tsI (dg A)), (1, tsI (dg B)), (8, tsI [(d : Int)]), (9, .sl 0 0 u.length 1), (10, tsI v)]) (fun _ => [.live ⟨3, ints u⟩]) () [3] trivial rfl rfl (by rw [h0]; rfl) (by simp [go_sem, tsI, slI, I, renL_ints, blk_ren, en_live, en_dead, ints_length, ints_nil, ints_one]) (by simp [go_sem, tsI, slI, I, renL_ints, blk_ren, en_live, en_dead, ints_length, ints_nil, ints_one]) ?_
      intro _ _
      have dL : decide ((u.length : Int) ≤ ((dg A).length : Int)) = false := decide_eq_false (by omega)
      obtain ⟨N, hN⟩ : ∃ N, N + (m + 2) = u.length ∧ 1 ≤ N := ⟨u.length - (m + 2), by omega⟩
      obtain ⟨hN, hN1⟩ := hN
      have wN : IntKind.i64.wrap ((u.length : Int) - (v.length : Int)) = (N : Int) := by rw [W64] <;> omega
      have wN1 : IntKind.i64.wrap ((N : Int) - 1) = (N : Int) - 1 := by rw [W64] <;> omega
      refine Go.run hte hn 100 ?_; simp only [go_sem, Nat.reduceBEq, Nat.reduceLT, Nat.reduceAdd, Nat.reduceMul, Nat.reduceLeDiff, dL, wN, wN1]
      refine ⟨⟨by omega, by omega, by omega⟩, ?_⟩
      have e0 : repA N [I 0] = ints (List.replicate N 0) := by rw [repA_I]
      unfold I at e0
      simp only [Int.toNat_natCast, e0]
      have hVpos : 1000000000 ^ (m + 1) ≤ val v := by
        rcases Nat.lt_or_ge (val v) (1000000000 ^ (m + 1)) with h | h
        · rw [vv, ← dg_len_iff, ← hv] at h; omega
        · exact h
      have hV0 : 0 < val v := by have : 0 < 1000000000 ^ (m + 1) := Nat.pow_pos (by decide)
                                 omega
      have hr0 : (u.drop N).length = m + 2 := by rw [List.length_drop]; omega
      have hr1 : val (u.drop N) < val v := by
        have h1 : u.drop N = a'.drop N ++ [0] := by rw [hu, List.drop_append_of_le_length (by omega)]
        have h2 := val_lt (Dig_drop N (show Dig a' by rw [ha']; exact dg_Dig _))
        rw [List.length_drop, show a'.length - N = m + 1 by omega] at h2
        rw [h1, val_snoc]
        simp
        omega
      clear w1 w2 w3 w4 wN wN1 dL C1 C2 c1 c2 c3 c4 e0 hDd
      refine Go.enter (fun x : Nat × List Int × List Int => x.1 ≤ N ∧ x.2.1.length = m + 2 ∧ Dig x.2.1 ∧ val x.2.1 < val v ∧ x.1 + x.2.2.length = N ∧ Dig x.2.2 ∧ val (u.drop x.1) = val x.2.2 * val v + val x.2.1) (fun x => x.1) (fun x => [(8, tsI [(d : Int)]), (9, .sl 0 0 u.length 1), (10, tsI v), (11, I v.length), (12, .sl 1 0 N 1), (13, I ((x.1 : Int) - 1))]) (fun x => [.live ⟨3, ints (u.take x.1 ++ (x.2.1 ++ List.replicate (N - x.1) 0))⟩, .live ⟨3, ints (List.replicate x.1 0 ++ x.2.2)⟩]) (N, u.drop N, []) [0, 1] ⟨Nat.le_refl _, hr0, Dig_drop _ Du, hr1, rfl, Dig_nil, by simp [val]⟩ rfl rfl (by rw [h0]; rfl) (by simp [go_sem, tsI, slI, I, renL_ints, blk_ren, en_live, en_dead, ints_length, ints_nil, ints_one]) (by simp [go_sem, tsI, slI, I, renL_ints, blk_ren, en_live, en_dead, ints_length, ints_nil, ints_one]) ?_
      rintro ⟨i, r, qs⟩ ⟨hi, hrl, hrD, hrv, hql, hqD, hval⟩
      simp only at hi hrl hrD hrv hql hqD hval
      cases i with
      | zero =>
        have d3 : decide ((0 : Int) ≤ ((0 : Nat) : Int) - 1) = false := by decide
        rw [List.drop_zero, vu, vv] at hval
        refine Go.run hte hn 100 ?_; simp only [go_sem, Nat.reduceBEq, Nat.reduceLT, Nat.reduceAdd, Nat.reduceMul, Nat.reduceLeDiff, d3]
        simp only [List.nil_append, List.replicate_zero]
        have hqs : qs.length = N := by simpa using hql
        have hvB : val r < B * d := vv ▸ hrv
        obtain ⟨q1, q2⟩ := divmod_of hval hvB
        have q3 : val qs = A / B := by rw [q1, Nat.mul_div_mul_right _ _ (by omega)]
        have q4 : val r / d = A % B := by rw [q2, Nat.mul_mod_mul_right, Nat.mul_div_cancel _ (by omega)]
        have Drz : Dig (r ++ List.replicate (N - 0) 0) := Dig_append.mpr ⟨hrD, Dig_rep _⟩
        have lrz : (r ++ List.replicate (N - 0) 0).length = u.length := by rw [List.length_append, List.length_replicate]; omega
        have vrz : val (r ++ List.replicate (N - 0) 0) = val r := by rw [val_append, val_rep]; simp
        have C1 := trim_c (r ++ List.replicate (N - 0) 0) (by omega)
        rw [trim_dg_val Drz, vrz] at C1
        have lr := dg_length (m + 2) (val r) (by have := val_lt hrD; rwa [hrl] at this)
        have C2 := overSmall_c (dg (val r)) d (dg_Dig _) (by omega) (by omega) (by omega)
        rw [val_dg, q4] at C2
        have C3 := trimO_c qs (by omega)
        rw [trim_dg_val hqD, q3] at C3
        have k1 : ((0 : Int) < (([(d : Int)].length : Nat) : Int)) = True := eq_true (by simp)
        rw [← lrz]
        refine Go.freeze (nm := 0) rfl ?_; simp only [go_sem, Nat.reduceBEq, Nat.reduceLT, Nat.reduceAdd, Nat.reduceMul, Nat.reduceLeDiff]
        refine Go.openK 10 [] hte hn hmx (by kernel_rfl) ?_
        simp only [go_sem, Nat.reduceBEq, Nat.reduceLT, Nat.reduceAdd, Nat.reduceMul, Nat.reduceLeDiff]
        refine ZC.call0 hP (C1) rfl rfl rfl (by omega) (by simp [go_sem, tsI, slI, I, renL_ints, blk_ren, en_live, en_dead, ints_length, ints_nil, ints_one]) rfl (by first | trivial | (show _ < _; simp)) ?_
        simp only [go_sem, Nat.reduceBEq, Nat.reduceLT, Nat.reduceAdd, Nat.reduceMul, Nat.reduceLeDiff, ints_one, Int.le_refl, Int.toNat_zero, Nat.zero_mul]
        refine ⟨by simp, ?_⟩
        refine ZC.call0 hP (C2) rfl rfl rfl (by omega) (by simp [go_sem, tsI, slI, I, renL_ints, blk_ren, en_live, en_dead, ints_length, ints_nil, ints_one]) rfl (by first | trivial | (show _ < _; simp)) ?_
        refine Go.run hte hn 100 ?_; simp only [go_sem, Nat.reduceBEq, Nat.reduceLT, Nat.reduceAdd, Nat.reduceMul, Nat.reduceLeDiff]
        rw [← hqs]
        refine Go.call hP (C3) [1] rfl rfl rfl (by omega) (by simp [go_sem, tsI, slI, I, renL_ints, blk_ren, en_live, en_dead, ints_length, ints_nil, ints_one]) (Lend.mk' rfl (by simp [go_sem, tsI, slI, I, renL_ints, blk_ren, en_live, en_dead, ints_length, ints_nil, ints_one])) ?_
        refine Go.run hte hn 100 ?_; simp only [go_sem, Nat.reduceBEq, Nat.reduceLT, Nat.reduceAdd, Nat.reduceMul, Nat.reduceLeDiff]
        refine Go.retG hte hE hf [1, 2] rfl (by simp [go_sem, tsI, slI, I, renL_ints, blk_ren, en_live, en_dead, ints_length, ints_nil, ints_one]) rfl (by rw [h0]; rfl) (by simp [go_sem, tsI, slI, I, renL_ints, blk_ren, en_live, en_dead, ints_length, ints_nil, ints_one])
      | succ i =>
        obtain ⟨w, pre, zs, t, u1, u2, v1, v2, top, U, RD⟩ := round_data (u := u) (v := v) (r := r) (qs := qs) (i := i) (m := m) (N := N) ⟨Du, Dv, f5, f6, hN, hi, by omega, hrl, hrD, hrv, hql, hqD, hval, hV0⟩
        have W := RD.W
        simp only [RD.row]
        refine Go.run hte hn 100 ?_; simp only [go_sem, Nat.reduceBEq, Nat.reduceLT, Nat.reduceAdd, Nat.reduceMul, Nat.reduceLeDiff, W.e1, W.d3]
        refine Go.openP 14 hte hn hmx (by kernel_rfl) ?_
        simp only [go_sem, Nat.reduceBEq, Nat.reduceLT, Nat.reduceAdd, Nat.reduceMul, Nat.reduceLeDiff, W.i0, W.i1, W.j0, W.j1, RD.n0, RD.n1, W.x0, W.x1, W.z1, W.z2, Int.toNat_natCast, Nat.mul_one]
        refine Go.run hte hn 100 ?_; simp only [go_sem, Nat.reduceBEq, Nat.reduceLT, Nat.reduceAdd, Nat.reduceMul, Nat.reduceLeDiff, W.z2]
        refine Go.openP 15 hte hn hmx (by kernel_rfl) ?_
        simp only [go_sem, Nat.reduceBEq, Nat.reduceLT, Nat.reduceAdd, Nat.reduceMul, Nat.reduceLeDiff, W.x3, W.l1, W.l3, W.l5, RD.y1, W.z3, W.z4, W.z5, W.z6, Int.toNat_natCast, Nat.mul_one]
        refine Go.run hte hn 100 ?_; simp only [go_sem, Nat.reduceBEq, Nat.reduceLT, Nat.reduceAdd, Nat.reduceMul, Nat.reduceLeDiff]
        refine Go.cutB (fun g : Nat => U < (g + 1) * val v ∧ g * val v < U + val v ∧ g ≤ 1000000001) (fun g => [(8, tsI [(d : Int)]), (9, .sl 0 0 u.length 1), (10, tsI v), (11, I v.length), (12, .sl 1 0 N 1), (13, I i), (15, I g)]) (fun g => [.live ⟨3, ints (pre ++ (w ++ (t : Int) :: zs))⟩, .live ⟨3, ints (List.replicate (i + 1) 0 ++ qs)⟩]) ?_ ?_
        · refine Go.enter (fun x : Nat × Nat => GuessIn U (val v) v1 top x.1 x.2) (fun x => x.1) (fun x => [(8, tsI [(d : Int)]), (9, .sl 0 0 u.length 1), (10, tsI v), (11, I v.length), (12, .sl 1 0 N 1), (13, I i), (15, I x.1), (16, I x.2)]) (fun x => [.live ⟨3, ints (pre ++ (w ++ (t : Int) :: zs))⟩, .live ⟨3, ints (List.replicate (i + 1) 0 ++ qs)⟩]) (top / v1, top % v1) [0, 1] ⟨by rw [Nat.mul_comm]; exact Nat.div_add_mod _ _, RD.k1.1, RD.k1.2, by have h1 := RD.K.c1; have h2 := RD.K.nv; have := Nat.mod_lt top (show 0 < v1 by omega); simp only; omega⟩ rfl rfl (by rw [h0]; rfl) (by simp [go_sem, tsI, slI, I, renL_ints, blk_ren, en_live, en_dead, ints_length, ints_nil, ints_one]) (by simp [go_sem, tsI, slI, I, renL_ints, blk_ren, en_live, en_dead, ints_length, ints_nil, ints_one]) ?_
          rintro ⟨g, rr⟩ hG
          have G := guess_data RD.K RD.htop hG
          refine Go.run hte hn 100 ?_
          simp only [go_sem, Nat.reduceBEq, Nat.reduceLT, Nat.reduceAdd, Nat.reduceMul, Nat.reduceLeDiff]
          refine Go.openP 20 hte hn hmx (by kernel_rfl) ?_
          by_cases hgB : 1000000000 ≤ g
          · have dg1 := G.b1.trans (decide_eq_true hgB)
            simp only [go_sem, Nat.reduceBEq, Nat.reduceLT, Nat.reduceAdd, Nat.reduceMul, Nat.reduceLeDiff, dg1]
            refine Go.run hte hn 100 ?_
            by_cases hb : 1000000000 ≤ rr + v1
            · simp only [go_sem, Nat.reduceBEq, Nat.reduceLT, Nat.reduceAdd, Nat.reduceMul, Nat.reduceLeDiff, G.a5 (G.go (.inl hgB)), W.x3, W.l1, W.l3, W.l5, RD.y1, G.a4, G.b3.trans (decide_eq_true hb), Int.toNat_natCast, Nat.mul_one]
              refine Go.round (g - 1) [0, 1] (G.br (.inl hgB) hb) Nat.zero_lt_one rfl rfl (by rw [h0]; rfl) (by simp [go_sem, tsI, slI, I, renL_ints, blk_ren, en_live, en_dead, ints_length, ints_nil, ints_one]) (by simp [go_sem, tsI, slI, I, renL_ints, blk_ren, en_live, en_dead, ints_length, ints_nil, ints_one])
            · simp only [go_sem, Nat.reduceBEq, Nat.reduceLT, Nat.reduceAdd, Nat.reduceMul, Nat.reduceLeDiff, G.a5 (G.go (.inl hgB)), W.x3, W.l1, W.l3, W.l5, RD.y1, G.a4, G.b3.trans (decide_eq_false hb), Int.toNat_natCast, Nat.mul_one]
              refine Go.round (g - 1, rr + v1) [0, 1] (G.nx (.inl hgB) hb).1 (G.nx (.inl hgB) hb).2 rfl rfl (by rw [h0]; rfl) (by simp [go_sem, tsI, slI, I, renL_ints, blk_ren, en_live, en_dead, ints_length, ints_nil, ints_one]) (by simp [go_sem, tsI, slI, I, renL_ints, blk_ren, en_live, en_dead, ints_length, ints_nil, ints_one])
          · have dg1 := G.b1.trans (decide_eq_false hgB)
            by_cases hgt : rr * 1000000000 + u2 < g * v2
            · have dg2 := G.b2.trans (decide_eq_true hgt)
              simp only [go_sem, Nat.reduceBEq, Nat.reduceLT, Nat.reduceAdd, Nat.reduceMul, Nat.reduceLeDiff, dg1, W.x4, W.l2, W.l4, W.l5, RD.y2, W.x0, W.x2, W.i2, W.j2, RD.n2, G.a1, G.a2, G.a3, Int.toNat_natCast, Nat.mul_one]
              refine Go.run hte hn 100 ?_
              by_cases hb : 1000000000 ≤ rr + v1
              · simp only [go_sem, Nat.reduceBEq, Nat.reduceLT, Nat.reduceAdd, Nat.reduceMul, Nat.reduceLeDiff, dg2, G.a3, G.a5 (G.go (.inr hgt)), W.x3, W.l1, W.l3, W.l5, RD.y1, G.a4, G.b3.trans (decide_eq_true hb), Int.toNat_natCast, Nat.mul_one]
                refine Go.round (g - 1) [0, 1] (G.br (.inr hgt) hb) Nat.zero_lt_one rfl rfl (by rw [h0]; rfl) (by simp [go_sem, tsI, slI, I, renL_ints, blk_ren, en_live, en_dead, ints_length, ints_nil, ints_one]) (by simp [go_sem, tsI, slI, I, renL_ints, blk_ren, en_live, en_dead, ints_length, ints_nil, ints_one])
              · simp only [go_sem, Nat.reduceBEq, Nat.reduceLT, Nat.reduceAdd, Nat.reduceMul, Nat.reduceLeDiff, dg2, G.a3, G.a5 (G.go (.inr hgt)), W.x3, W.l1, W.l3, W.l5, RD.y1, G.a4, G.b3.trans (decide_eq_false hb), Int.toNat_natCast, Nat.mul_one]
                refine Go.round (g - 1, rr + v1) [0, 1] (G.nx (.inr hgt) hb).1 (G.nx (.inr hgt) hb).2 rfl rfl (by rw [h0]; rfl) (by simp [go_sem, tsI, slI, I, renL_ints, blk_ren, en_live, en_dead, ints_length, ints_nil, ints_one]) (by simp [go_sem, tsI, slI, I, renL_ints, blk_ren, en_live, en_dead, ints_length, ints_nil, ints_one])
            · have dg2 := G.b2.trans (decide_eq_false hgt)
              simp only [go_sem, Nat.reduceBEq, Nat.reduceLT, Nat.reduceAdd, Nat.reduceMul, Nat.reduceLeDiff, dg1, W.x4, W.l2, W.l4, W.l5, RD.y2, W.x0, W.x2, W.i2, W.j2, RD.n2, G.a1, G.a2, G.a3, Int.toNat_natCast, Nat.mul_one]
              refine Go.run hte hn 100 ?_; simp only [go_sem, Nat.reduceBEq, Nat.reduceLT, Nat.reduceAdd, Nat.reduceMul, Nat.reduceLeDiff, dg2, G.a3]
              refine Go.round g [0, 1] (G.en hgB hgt) Nat.zero_lt_one rfl rfl (by rw [h0]; rfl) (by simp [go_sem, tsI, slI, I, renL_ints, blk_ren, en_live, en_dead, ints_length, ints_nil, ints_one]) (by simp [go_sem, tsI, slI, I, renL_ints, blk_ren, en_live, en_dead, ints_length, ints_nil, ints_one])
        · rintro g ⟨hg1, hg2, hg3⟩
          have hvP : val v < 1000000000 ^ (m + 2) := by have := val_lt Dv; rwa [f5] at this
          have E := end_data (m := m) hV0 hvP hg1 hg2 hg3
          obtain ⟨s, hs⟩ : ∃ s, s = lowL (m + 2) ((U % val v : Nat) : Int) := ⟨_, rfl⟩
          rw [← hs] at E
          have C := take_c pre w zs v t g RD.Dw Dv (by rw [RD.wl, f5]) hg3 (Int.natCast_nonneg _) (by have := RD.t9; omega) RD.len
          rw [RD.prel, f5, RD.hUw] at C
          have hqlen : (List.replicate (i + 1) 0 ++ qs).length = N := by rw [List.length_append, List.length_replicate]; exact hql
          have ci : (0 ≤ (i : Int)) = True := eq_true (Int.natCast_nonneg _)
          have hiN : ((i : Int) < (N : Int)) = True := eq_true (Int.ofNat_lt.mpr hi)
          have hiu : (i : Int) ≤ (u.length : Int) := Int.ofNat_le.mpr (by omega)
          refine Go.run hte hn 100 ?_; simp only [go_sem, Nat.reduceBEq, Nat.reduceLT, Nat.reduceAdd, Nat.reduceMul, Nat.reduceLeDiff]
          refine ⟨⟨Int.natCast_nonneg _, hiu, Int.le_refl _⟩, ?_⟩
          simp only [Int.toNat_natCast, Nat.mul_one, RD.hs1]
          refine Go.call hP (C) [0] rfl rfl rfl (by omega) (by simp [go_sem, tsI, slI, I, renL_ints, blk_ren, en_live, en_dead, ints_length, ints_nil, ints_one]) (Lend.mk' rfl (by simp [go_sem, tsI, slI, I, renL_ints, blk_ren, en_live, en_dead, ints_length, ints_nil, ints_one])) ?_
          by_cases hneg : (U : Int) - (g : Int) * (val v : Int) < 0
          · obtain ⟨dn, q1, q2, tb1, tb2, q3, b5⟩ := E.ng hneg
            have C3 := give_c pre (lowL (m + 2) ((U : Int) - (g : Int) * (val v : Int))) zs v (topI (m + 2) ((U : Int) - (g : Int) * (val v : Int))) (lowL_Dig _ _) Dv (by rw [lowL_length, f5]) tb1 tb2 RD.len
            rw [RD.prel, f5, q3, E.lo, E.to] at C3
            obtain ⟨r2, r3, r4⟩ := RD.fin (g - 1) s q2 E.sv
            refine Go.run hte hn 100 ?_; simp only [go_sem, Nat.reduceBEq, Nat.reduceLT, Nat.reduceAdd, Nat.reduceMul, Nat.reduceLeDiff, dn, b5]
            refine ⟨⟨Int.natCast_nonneg _, hiu, Int.le_refl _⟩, ?_⟩
            simp only [Int.toNat_natCast, Nat.mul_one, RD.hs1]
            refine Go.call hP (C3) [0] rfl rfl rfl (by omega) (by simp [go_sem, tsI, slI, I, renL_ints, blk_ren, en_live, en_dead, ints_length, ints_nil, ints_one]) (Lend.mk' rfl (by simp [go_sem, tsI, slI, I, renL_ints, blk_ren, en_live, en_dead, ints_length, ints_nil, ints_one])) ?_
            refine Go.run hte hn 100 ?_; simp only [go_sem, Nat.reduceBEq, Nat.reduceLT, Nat.reduceAdd, Nat.reduceMul, Nat.reduceLeDiff]
            refine ⟨⟨Int.natCast_nonneg _, Int.ofNat_lt.mpr hi⟩, by rw [ints_length, hqlen]; simp only [Int.toNat_natCast, Nat.mul_one]; exact hi, ?_⟩
            simp only [Int.toNat_natCast, Nat.mul_one, W.e2, I_def, ints_set, rep_set, RD.row2]
            refine Go.round (i, s, ((g - 1 : Nat) : Int) :: qs) [0, 1] ⟨Nat.le_of_succ_le hi, E.sl, E.sD, r3, by simp only [List.length_cons]; omega, Dig_cons.mpr ⟨⟨Int.natCast_nonneg _, Int.ofNat_le.mpr r2⟩, hqD⟩, r4⟩ (Nat.lt_succ_self i) rfl rfl (by rw [h0]; rfl) (by simp [go_sem, tsI, slI, I, renL_ints, blk_ren, en_live, en_dead, ints_length, ints_nil, ints_one]) (by simp [go_sem, tsI, slI, I, renL_ints, blk_ren, en_live, en_dead, ints_length, ints_nil, ints_one])
          · obtain ⟨dn, q1, q2⟩ := E.nn hneg
            obtain ⟨r2, r3, r4⟩ := RD.fin g s q1 E.sv
            refine Go.run hte hn 100 ?_; simp only [go_sem, Nat.reduceBEq, Nat.reduceLT, Nat.reduceAdd, Nat.reduceMul, Nat.reduceLeDiff, dn]
            rw [q2, E.lo, E.to]
            refine ⟨⟨Int.natCast_nonneg _, Int.ofNat_lt.mpr hi⟩, by rw [ints_length, hqlen]; simp only [Int.toNat_natCast, Nat.mul_one]; exact hi, ?_⟩
            simp only [Int.toNat_natCast, Nat.mul_one, W.e2, I_def, ints_set, rep_set, RD.row2]
            refine Go.round (i, s, ((g : Nat) : Int) :: qs) [0, 1] ⟨Nat.le_of_succ_le hi, E.sl, E.sD, r3, by simp only [List.length_cons]; omega, Dig_cons.mpr ⟨⟨Int.natCast_nonneg _, Int.ofNat_le.mpr r2⟩, hqD⟩, r4⟩ (Nat.lt_succ_self i) rfl rfl (by rw [h0]; rfl) (by simp [go_sem, tsI, slI, I, renL_ints, blk_ren, en_live, en_dead, ints_length, ints_nil, ints_one]) (by simp [go_sem, tsI, slI, I, renL_ints, blk_ren, en_live, en_dead, ints_length, ints_nil, ints_one])

end Go.Proofs.Ytbblhgldfcodfaa.Ab
