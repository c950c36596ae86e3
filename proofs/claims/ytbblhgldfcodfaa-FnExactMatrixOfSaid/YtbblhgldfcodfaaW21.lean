/- Contracts of the given program's functions and of the reference's (walks). -/
import Derived.Test.YtbblhgldfcodfaaAbT
import Derived.Test.YtbblhgldfcodfaaAbP
import Derived.Test.YtbblhgldfcodfaaAbN
import Derived.Test.YtbblhgldfcodfaaAbD
import Derived.Test.YtbblhgldfcodfaaRunW1
import Derived.Test.YtbblhgldfcodfaaRunW9
set_option linter.unusedVariables false
set_option linter.unusedSimpArgs false
set_option maxRecDepth 10000
namespace Go.Proofs.Ytbblhgldfcodfaa.Ab
open Go Go.RowKit
attribute [local go_sem] q_run q_seq q_skip q_block q_exit q_cond q_region q_nil q_op q_blk q_loop q_ret q_open q_inv q_fin q_go q_h0 q_h1 q_gskip q_stepC q_brt q_brf q_stepX q_sskip q_sskip0 q_val q_need q_new q_newc q_sv q_sto q_c1 q_c2 q_c3 q_c4 q_c5 q_c6 q_c7 q_c8 q_c9 q_c10 q_c11 q_c12 q_c13 q_c14 q_c15 q_c16 q_c17 q_c18 q_c19 q_c20 q_c21 q_c22 q_g0 q_g1 q_gC q_gD q_gE q_gB1 q_gB2 q_gB3 q_gB4 q_ev1 q_ev2 q_ev3 q_evo0 q_evo1 q_rv q_rva q_o1 q_o2 q_pk1 q_pk2 q_ld1p q_ld1e q_ld1t q_ldnp q_ldne q_ldnt q_sub0 q_sub1 q_subc q_stS q_stT q_box q_bldr q_bld q_fill0 q_fill1 q_fillB q_bsr q_bsl q_fap q_fat q_iasl q_iats q_lnsl q_lnts q_lnv q_lnS q_exA q_mkB q_lo0 q_lo1 q_hi0 q_hi1 q_slcA q_slcU1 q_slcU2 q_slcT1 q_slcT2 q_slsA q_slsU q_slsT q_apA q_apC q_srcE1 q_srcE2 q_srcE3 q_srcA1 q_srcB q_srcA2 q_srcA3 q_fnA q_nc1 q_nc2 q_bin q_bin2 q_bin3 q_bin4 q_bin5 q_bin6 q_bin7 q_bin8 q_bin9 q_bin10 q_i1 q_i2 q_i3 q_i4 q_i5 q_i6 q_i7 q_i8 q_i9 q_i10 q_i11 q_s1 q_s2 q_s3 q_u1 q_u2 q_min q_max q_ce1 q_ce2 q_ce3 q_ce4 q_ce5 q_ce6 q_ce7 q_ce8 q_ce9 q_ce10 q_ce11 q_on2 q_on3 q_on4 q_on5 q_on6 q_on7 q_on8 q_on9 q_on10 q_on11 q_enr1 q_gEt q_zr0 q_zr1 q_zgs q_zgg q_zk1 q_zk2 q_zd q_zv1 q_zv2 q_zv3 q_zp1 q_zp2 q_zf q_zs1 q_zs2 q_za q_za1 q_fi0 q_fi1 q_ln0 q_ln1 q_h01 q_h02 q_h03 q_h04 q_h05 q_h06 q_h07 q_h08 q_h09 q_h10 q_h11 q_h12 q_h13 q_h14 q_h15 q_h16 q_h17 q_h18 q_h19 q_h20 q_h21 q_h22 q_h23 q_h24 q_al q_b0 q_rs1 q_rs2 q_rs3 q_rs4 q_rs5 q_rs6 q_rs7 q_rs8 q_ro1 q_ro2 q_ro3 q_ro4 q_ro5 q_ro6 q_ro7 q_ro8 cond_true cond_false decide_true decide_false List.length_cons List.length_nil List.nil_append List.cons_append true_and and_true List.toList_toArray Option.map_some Nat.zero_add Nat.add_zero Bool.and_self Bool.and_true Bool.true_and Bool.and_false Bool.false_and Bool.not_true Bool.not_false FitF FitL LendL wb keys nodupB firstOk tupA op_move op_assign op_pick op_un op_box op_nc op_mf op_ex op_min op_max get put del nth evs evp sets setN ones popTo args0 AV.ren AV.renL rho List.take_succ_cons List.take_zero List.drop_succ_cons List.drop_zero Option.isNone_none Option.isNone_some o_al28 o_al30 o_al43 o_al80 o_al84 o_ap22 o_ap41 o_bi120 o_bi22 o_bi3 o_bi4 o_bi68 o_bs22_0 o_bs22_1 o_bs22_3 o_bs41_0 o_bs41_1 o_bu28 o_bu30 o_bu43 o_bu80 o_bu98 o_cn120 o_cn3 o_cv120_3 o_cv3_120 o_fa24_0 o_fa24_1 o_fa26_0 o_fa26_1 o_fa28_0 o_fa28_1 o_fa30_0 o_fa30_1 o_fa38_0 o_fa38_1 o_fa38_2 o_fa43_0 o_fa43_1 o_fa43_2 o_fa80_0 o_fa80_1 o_fa80_2 o_fa98_0 o_fa98_1 o_ia22 o_ia36 o_ia41 o_ia78 o_ia84 o_ib4 o_ip68 o_ld22 o_ld24 o_ld26 o_ld28 o_ld3 o_ld30 o_ld36 o_ld38 o_ld4 o_ld41 o_ld43 o_ld68 o_ld78 o_ld80 o_ld84 o_ln22 o_ln36 o_ln41 o_ln78 o_ln84 o_mk22 o_mk41 o_mk78 o_mk84 o_sl22 o_sl41 o_st22 o_st28 o_st3 o_st30 o_st4 o_st41 o_st43 o_st68 o_st80 o_st84 o_zb22 o_zb36 o_zb41 o_zb78 o_zb84 I tsI slI renL_ints blk_ren en_live en_dead List.set_cons_zero List.set_cons_succ List.map_cons List.map_nil List.append_nil frzF frzS AV.frz AV.frzL frzL_ints ints_all ints_all' ints_take1 ints_mk ints_mk1 mk_length res_ints resOk_ints plain_ints plainA plainL plainE plainS List.all_cons List.all_nil bigO bigT ratO ratT
/-! ### Products -/
/-- Zeros at the end of a row of one's own. -/
theorem trimO_c (a : List Int) (ha : a.length ≤ 1152921504606846976) : AC Try.prog 120 [slI 0 a] [.live ⟨3, ints a⟩] (slI 0 (trim a)) [.live ⟨3, ints (trim a)⟩] := by
  refine AC.intro (fn := Try.f120) (c := ?_) 21 Try.func120 (by rfl) (by kernel_rfl) (by kernel_rfl) (Nat.le_of_ble_eq_true rfl) fun e hP hf hn h0 hE => ?_
  have hte : TEok e.P te := hP ▸ teOk
  have hmx : e.P.follows .mixedOrders = true := hP ▸ mixedOk
  refine Go.run hte hn 100 ?_; simp only [go_sem, Nat.reduceBEq, Nat.reduceLT, Nat.reduceAdd, Nat.reduceMul, Nat.reduceLeDiff]
  refine Go.enter (fun i : Nat => i ≤ a.length ∧ trimTo a i = trim a) (fun i => i) (fun i => [(0, .sl 0 0 i 1)]) (fun i => [.live ⟨3, ints a⟩]) a.length [0] ⟨Nat.le_refl _, rfl⟩ rfl rfl (by rw [h0]; rfl) (by simp [go_sem, tsI, slI, I, renL_ints, blk_ren, en_live, en_dead, ints_length, ints_nil, ints_one]) (by simp [go_sem, tsI, slI, I, renL_ints, blk_ren, en_live, en_dead, ints_length, ints_nil, ints_one]) ?_
  rintro i ⟨hi, hv⟩
  cases i with
  | zero =>
    refine Go.run hte hn 100 ?_; simp only [go_sem, Nat.reduceBEq, Nat.reduceLT, Nat.reduceAdd, Nat.reduceMul, Nat.reduceLeDiff, Int.natCast_zero, Int.lt_irrefl]
    refine Go.short 0 0 rfl ?_
    simp only [go_sem, Nat.reduceBEq, Nat.reduceLT, Nat.reduceAdd, Nat.reduceMul, Nat.reduceLeDiff, ints_take]
    refine Go.retG hte hE hf [0] rfl ?_ rfl (by rw [h0]; rfl) ?_
    · rw [← hv]
      simp [go_sem, tsI, slI, I, renL_ints, blk_ren, en_live, en_dead, ints_length, ints_nil, ints_one, trimTo]
    · rw [← hv]
      simp [go_sem, tsI, slI, I, renL_ints, blk_ren, en_live, en_dead, ints_length, ints_nil, ints_one, trimTo]
  | succ j =>
    have e1 : IntKind.i64.wrap (((j + 1 : Nat) : Int) - 1) = (j : Int) := by rw [W64] <;> omega
    have d1 : decide ((0 : Int) < ((j + 1 : Nat) : Int)) = true := decide_eq_true (by omega)
    have c0 : (0 ≤ (j : Int)) = True := eq_true (by omega)
    have c1 : ((j : Int) < ((j + 1 : Nat) : Int)) = True := eq_true (by omega)
    have c2 : (0 < (ints a).length) = True := eq_true (by rw [ints_length]; omega)
    refine Go.run hte hn 100 ?_; simp only [go_sem, Nat.reduceBEq, Nat.reduceLT, Nat.reduceAdd, Nat.reduceMul, Nat.reduceLeDiff, d1, e1, c0, c1, c2, Int.toNat_natCast, Nat.mul_one, nth_ints (show j < a.length by omega)]
    refine Br.mk (fun hz => ?_) (fun hz => ?_)
    · refine ⟨by omega, ?_⟩
      refine Go.round j [0] ⟨by omega, ?_⟩ (Nat.lt_succ_self j) rfl rfl (by rw [h0]; rfl) (by simp [go_sem, tsI, slI, I, renL_ints, blk_ren, en_live, en_dead, ints_length, ints_nil, ints_one]) (by simp [go_sem, tsI, slI, I, renL_ints, blk_ren, en_live, en_dead, ints_length, ints_nil, ints_one])
      rw [← hv, trimTo, if_pos (of_decide_eq_true hz)]
    · have hv' : a.take (j + 1) = trim a := by rw [← hv, trimTo, if_neg (of_decide_eq_false hz)]
      have hl : (trim a).length = j + 1 := by rw [← hv', List.length_take]; omega
      refine Go.short 0 (j + 1) rfl ?_
      simp only [go_sem, Nat.reduceBEq, Nat.reduceLT, Nat.reduceAdd, Nat.reduceMul, Nat.reduceLeDiff, ints_take, hv']
      refine Go.retG hte hE hf [0] rfl (by simp [go_sem, tsI, slI, I, renL_ints, blk_ren, en_live, en_dead, ints_length, ints_nil, ints_one, hl]) rfl (by rw [h0]; rfl) (by simp [go_sem, tsI, slI, I, renL_ints, blk_ren, en_live, en_dead, ints_length, ints_nil, ints_one])
theorem rd_rep (n t : Nat) : rd (List.replicate n 0) (t : Int) = 0 := by
  rw [rd_nat, List.getD_eq_getElem?_getD, List.getElem?_replicate]
  split <;> rfl
theorem times_c (a b : List Int) (ha : Dig a) (hb : Dig b) (hal : a.length ≤ 1000) (hbl : b.length ≤ 1000) : AC Try.prog 105 [tsI a, tsI b] [] (slI 0 (dg (val a * val b))) [.live ⟨3, ints (dg (val a * val b))⟩] := by
  refine AC.intro (fn := Try.f105) (c := ?_) 72 Try.func105 (by rfl) (by kernel_rfl) (by kernel_rfl) (Nat.le_of_ble_eq_true rfl) fun e hP hf hn h0 hE => ?_
  have hte : TEok e.P te := hP ▸ teOk
  have hmx : e.P.follows .mixedOrders = true := hP ▸ mixedOk
  have hnil : a.length = 0 ∨ b.length = 0 → dg (val a * val b) = [] := by
    rintro (h | h)
    · rw [List.length_eq_zero_iff.mp h]; simp [val, dg_zero]
    · rw [List.length_eq_zero_iff.mp h]; simp [val, dg_zero]
  by_cases ha0 : a.length = 0
  · rw [hnil (.inl ha0)] at hE
    have d1 : decide ((a.length : Int) = 0) = true := decide_eq_true (by omega)
    refine Go.run hte hn 100 ?_; simp only [go_sem, Nat.reduceBEq, Nat.reduceLT, Nat.reduceAdd, Nat.reduceMul, Nat.reduceLeDiff, d1]
    refine Go.virt 3 ?_
    refine Go.nilsl 4 0 1 rfl ?_
    refine Go.retG hte hE hf [0] rfl (by simp [go_sem, tsI, slI, I, renL_ints, blk_ren, en_live, en_dead, ints_length, ints_nil, ints_one]) rfl (by rw [h0]; rfl) (by simp [go_sem, tsI, slI, I, renL_ints, blk_ren, en_live, en_dead, ints_length, ints_nil, ints_one])
  · have d1 : decide ((a.length : Int) = 0) = false := decide_eq_false (by omega)
    by_cases hb0 : b.length = 0
    · rw [hnil (.inr hb0)] at hE
      have d2 : decide ((b.length : Int) = 0) = true := decide_eq_true (by omega)
      refine Go.run hte hn 100 ?_; simp only [go_sem, Nat.reduceBEq, Nat.reduceLT, Nat.reduceAdd, Nat.reduceMul, Nat.reduceLeDiff, d1, d2]
      refine Go.virt 3 ?_
      refine Go.nilsl 4 0 1 rfl ?_
      refine Go.retG hte hE hf [0] rfl (by simp [go_sem, tsI, slI, I, renL_ints, blk_ren, en_live, en_dead, ints_length, ints_nil, ints_one]) rfl (by rw [h0]; rfl) (by simp [go_sem, tsI, slI, I, renL_ints, blk_ren, en_live, en_dead, ints_length, ints_nil, ints_one])
    · have d2 : decide ((b.length : Int) = 0) = false := decide_eq_false (by omega)
      have eL : IntKind.i64.wrap ((a.length : Int) + (b.length : Int)) = ((a.length + b.length : Nat) : Int) := by rw [W64] <;> omega
      refine Go.run hte hn 100 ?_; simp only [go_sem, Nat.reduceBEq, Nat.reduceLT, Nat.reduceAdd, Nat.reduceMul, Nat.reduceLeDiff, d1, d2, eL]
      refine ⟨⟨by omega, by omega, by omega⟩, ?_⟩
      have e0 : repA (a.length + b.length) [I 0] = ints (List.replicate (a.length + b.length) 0) := by rw [repA_I]
      unfold I at e0
      simp only [Int.toNat_natCast, e0]
      refine Go.enter (fun x : Nat × List Int => x.1 ≤ a.length ∧ x.2.length = a.length + b.length ∧ Dig x.2 ∧ (∀ t : Nat, x.1 + b.length ≤ t → t < a.length + b.length → rd x.2 (t : Int) = 0) ∧ val x.2 = val (a.take x.1) * val b) (fun x => a.length - x.1) (fun x => [(0, tsI a), (1, tsI b), (5, .sl 0 0 (a.length + b.length) 1), (26, tsI a), (27, I a.length), (28, I x.1)]) (fun x => [.live ⟨3, ints x.2⟩]) (0, List.replicate (a.length + b.length) 0) [0] ⟨Nat.zero_le _, by simp, Dig_rep _, fun t _ ht => rd_rep _ t, by simp [val, val_rep]⟩ rfl rfl (by rw [h0]; rfl) (by simp [go_sem, tsI, slI, I, renL_ints, blk_ren, en_live, en_dead, ints_length, ints_nil, ints_one]) (by simp [go_sem, tsI, slI, I, renL_ints, blk_ren, en_live, en_dead, ints_length, ints_nil, ints_one]) ?_
      rintro ⟨i, out⟩ ⟨hi, hl, hD, hz, hv⟩
      simp only at hi hl hD hz hv
      by_cases hlt : i < a.length
      · have dA : decide ((i : Int) < (a.length : Int)) = true := decide_eq_true (by omega)
        have c0 : (0 ≤ (i : Int)) = True := eq_true (by omega)
        have cA : ((i : Int) < (a.length : Int)) = True := eq_true (by omega)
        have cA2 : (0 < (ints a).length) = True := eq_true (by rw [ints_length]; omega)
        have ra := Dig_rd ha i
        obtain ⟨n, hn'⟩ : ∃ n : Nat, rd a (i : Int) = n := ⟨(rd a (i : Int)).toNat, by omega⟩
        rw [hn'] at ra
        refine Go.run hte hn 100 ?_; simp only [go_sem, Nat.reduceBEq, Nat.reduceLT, Nat.reduceAdd, Nat.reduceMul, Nat.reduceLeDiff, dA, c0, cA, cA2, hn', nth_ints hlt, Int.toNat_natCast, Nat.mul_one]
        refine Go.enter (fun x : Nat × List Int × Nat => x.1 ≤ b.length ∧ x.2.1.length = a.length + b.length ∧ Dig x.2.1 ∧ x.2.2 ≤ 999999999 ∧ (∀ t : Nat, i + b.length ≤ t → t < a.length + b.length → rd x.2.1 (t : Int) = 0) ∧ val x.2.1 + x.2.2 * 1000000000 ^ (i + x.1) = val (a.take i) * val b + n * val (b.take x.1) * 1000000000 ^ i) (fun x => b.length - x.1) (fun x => [(0, tsI a), (1, tsI b), (5, .sl 0 0 (a.length + b.length) 1), (6, I i), (7, I n), (8, I x.2.2), (26, tsI a), (27, I a.length), (28, I i), (33, tsI b), (34, I b.length), (35, I x.1)]) (fun x => [.live ⟨3, ints x.2.1⟩]) (0, out, 0) [0] ⟨Nat.zero_le _, hl, hD, Nat.zero_le _, hz, by simp [val, hv]⟩ rfl rfl (by rw [h0]; rfl) (by simp [go_sem, tsI, slI, I, renL_ints, blk_ren, en_live, en_dead, ints_length, ints_nil, ints_one]) (by simp [go_sem, tsI, slI, I, renL_ints, blk_ren, en_live, en_dead, ints_length, ints_nil, ints_one]) ?_
        rintro ⟨j, out, c⟩ ⟨hj, hl, hD, hc, hz, hv⟩
        simp only at hj hl hD hc hz hv
        by_cases hjt : j < b.length
        · have dB : decide ((j : Int) < (b.length : Int)) = true := decide_eq_true (by omega)
          have c1 : (0 ≤ (j : Int)) = True := eq_true (by omega)
          have cB : ((j : Int) < (b.length : Int)) = True := eq_true (by omega)
          have cB2 : (0 < (ints b).length) = True := eq_true (by rw [ints_length]; omega)
          have c2 : (0 ≤ ((i + j : Nat) : Int)) = True := eq_true (by omega)
          have cO : (((i + j : Nat) : Int) < ((a.length + b.length : Nat) : Int)) = True := eq_true (by omega)
          have cO2 : (0 < (ints out).length) = True := eq_true (by rw [ints_length]; omega)
          have ro := Dig_rd hD (i + j)
          have rb := Dig_rd hb j
          obtain ⟨o, ho⟩ : ∃ o : Nat, rd out ((i + j : Nat) : Int) = o := ⟨(rd out ((i + j : Nat) : Int)).toNat, by omega⟩
          obtain ⟨m, hm⟩ : ∃ m : Nat, rd b (j : Int) = m := ⟨(rd b (j : Int)).toNat, by omega⟩
          obtain ⟨g1, g2, g3, g4, g5, g6⟩ := mul_in b out hb hD n i j c (val (a.take i) * val b) (by omega) hc hjt (by omega) hv o m ho hm
          have e1 : IntKind.i64.wrap ((i : Int) + (j : Int)) = ((i + j : Nat) : Int) := by rw [W64] <;> omega
          obtain ⟨s, hs⟩ : ∃ s, s = n * m := ⟨_, rfl⟩
          rw [← hs] at g3 g4 g5 g6
          have e2 : IntKind.i64.wrap ((n : Int) * (m : Int)) = (s : Int) := by rw [← Int.natCast_mul, ← hs, W64] <;> omega
          have e3 : IntKind.i64.wrap ((o : Int) + (s : Int)) = ((o + s : Nat) : Int) := by rw [W64] <;> omega
          have e4 : IntKind.i64.wrap (((o + s : Nat) : Int) + (c : Int)) = ((o + s + c : Nat) : Int) := by rw [W64] <;> omega
          have e5 : IntKind.i64.wrap ((j : Int) + 1) = ((j + 1 : Nat) : Int) := by rw [W64] <;> omega
          have e6 : IntKind.i64.wrap (((o + s + c) / 1000000000 : Nat) : Int) = (((o + s + c) / 1000000000 : Nat) : Int) := by rw [W64] <;> omega
          have hset : (out.set (i + j) (((o + s + c) % 1000000000 : Nat) : Int)).length = a.length + b.length := by rw [List.length_set]; exact hl
          refine Go.run hte hn 100 ?_; simp only [go_sem, Nat.reduceBEq, Nat.reduceLT, Nat.reduceAdd, Nat.reduceMul, Nat.reduceLeDiff, dB, c1, c2, cB, cB2, cO, cO2, e1, e2, e3, e4, ho, hm, nth_ints hjt, nth_ints (show i + j < out.length by omega), Int.toNat_natCast, Nat.mul_one]
          refine ⟨by omega, by omega, by rw [ints_length]; omega, ?_⟩
          simp only [tmod_nat, tdiv_nat, e5, e6, I_def, ints_set]
          refine Go.round (j + 1, out.set (i + j) (((o + s + c) % 1000000000 : Nat) : Int), (o + s + c) / 1000000000) [0] ⟨hjt, hset, g5, g4, ?_, g6⟩ (by simp only; omega) rfl rfl (by rw [h0]; rfl) (by simp [go_sem, tsI, slI, I, renL_ints, blk_ren, en_live, en_dead, ints_length, ints_nil, ints_one]) (by simp [go_sem, tsI, slI, I, renL_ints, blk_ren, en_live, en_dead, ints_length, ints_nil, ints_one])
          intro t h1 h2
          rw [rd_set_ne _ _ _ _ (by omega)]
          exact hz t h1 h2
        · have dB : decide ((j : Int) < (b.length : Int)) = false := decide_eq_false (by omega)
          have hjb : j = b.length := by omega
          subst hjb
          obtain ⟨g1, g2⟩ := mul_out a b out hD i c hlt hc (by omega) (hz _ (Nat.le_refl _) (by omega)) n hn' hv
          have e1 : IntKind.i64.wrap ((i : Int) + (b.length : Int)) = ((i + b.length : Nat) : Int) := by rw [W64] <;> omega
          have e5 : IntKind.i64.wrap ((i : Int) + 1) = ((i + 1 : Nat) : Int) := by rw [W64] <;> omega
          have c2 : (0 ≤ ((i + b.length : Nat) : Int)) = True := eq_true (by omega)
          have cO : (((i + b.length : Nat) : Int) < ((a.length + b.length : Nat) : Int)) = True := eq_true (by omega)
          refine Go.run hte hn 100 ?_; simp only [go_sem, Nat.reduceBEq, Nat.reduceLT, Nat.reduceAdd, Nat.reduceMul, Nat.reduceLeDiff, dB, e1, c2, cO, Int.toNat_natCast, Nat.mul_one]
          refine ⟨by rw [ints_length]; omega, ?_⟩
          simp only [e5, I_def, ints_set]
          refine Go.round (i + 1, out.set (i + b.length) (c : Int)) [0] ⟨hlt, by simp only [List.length_set]; exact hl, g1, ?_, g2⟩ (by simp only; omega) rfl rfl (by rw [h0]; rfl) (by simp [go_sem, tsI, slI, I, renL_ints, blk_ren, en_live, en_dead, ints_length, ints_nil, ints_one]) (by simp [go_sem, tsI, slI, I, renL_ints, blk_ren, en_live, en_dead, ints_length, ints_nil, ints_one])
          intro t h1 h2
          simp only at h1 h2
          rw [rd_set_ne _ _ _ _ (by omega)]
          exact hz t (by omega) h2
      · have dA : decide ((i : Int) < (a.length : Int)) = false := decide_eq_false (by omega)
        have hia : i = a.length := by omega
        subst hia
        rw [List.take_length] at hv
        refine Go.run hte hn 100 ?_; simp only [go_sem, Nat.reduceBEq, Nat.reduceLT, Nat.reduceAdd, Nat.reduceMul, Nat.reduceLeDiff, dA]
        have C := trimO_c out (by omega)
        rw [trim_dg_val hD, hv] at C
        rw [← hl]
        refine Go.call hP (C) [0] rfl rfl rfl (by omega) (by simp [go_sem, tsI, slI, I, renL_ints, blk_ren, en_live, en_dead, ints_length, ints_nil, ints_one]) (Lend.mk' rfl (by simp [go_sem, tsI, slI, I, renL_ints, blk_ren, en_live, en_dead, ints_length, ints_nil, ints_one])) ?_
        refine Go.run hte hn 100 ?_; simp only [go_sem, Nat.reduceBEq, Nat.reduceLT, Nat.reduceAdd, Nat.reduceMul, Nat.reduceLeDiff]
        refine Go.retG hte hE hf [0] rfl (by simp [go_sem, tsI, slI, I, renL_ints, blk_ren, en_live, en_dead, ints_length, ints_nil, ints_one]) rfl (by rw [h0]; rfl) (by simp [go_sem, tsI, slI, I, renL_ints, blk_ren, en_live, en_dead, ints_length, ints_nil, ints_one])
theorem l02Mul_c (a b : List Int) (ha : Dig a) (hb : Dig b) (hal : a.length ≤ 1000) (hbl : b.length ≤ 1000) : AC Try.prog 59 [tsI a, tsI b] [] (tsI (dg (val a * val b))) [] := by
  refine AC.intro (fn := Try.f59) (c := ?_) 72 Try.func59 (by rfl) (by kernel_rfl) (by kernel_rfl) (Nat.le_of_ble_eq_true rfl) fun e hP hf hn h0 hE => ?_
  have hte : TEok e.P te := hP ▸ teOk
  have hmx : e.P.follows .mixedOrders = true := hP ▸ mixedOk
  have hnil : a.length = 0 ∨ b.length = 0 → dg (val a * val b) = [] := by
    rintro (h | h)
    · rw [List.length_eq_zero_iff.mp h]; simp [val, dg_zero]
    · rw [List.length_eq_zero_iff.mp h]; simp [val, dg_zero]
  by_cases ha0 : a.length = 0
  · rw [hnil (.inl ha0)] at hE
    have d1 : decide ((a.length : Int) = 0) = true := decide_eq_true (by omega)
    refine Go.run hte hn 100 ?_; simp only [go_sem, Nat.reduceBEq, Nat.reduceLT, Nat.reduceAdd, Nat.reduceMul, Nat.reduceLeDiff, d1]
    refine Go.nilts 4 rfl ?_
    refine Go.retG hte hE hf [] rfl (by simp [go_sem, tsI, slI, I, renL_ints, blk_ren, en_live, en_dead, ints_length, ints_nil, ints_one]) rfl (by rw [h0]; rfl) trivial
  · have d1 : decide ((a.length : Int) = 0) = false := decide_eq_false (by omega)
    by_cases hb0 : b.length = 0
    · rw [hnil (.inr hb0)] at hE
      have d2 : decide ((b.length : Int) = 0) = true := decide_eq_true (by omega)
      refine Go.run hte hn 100 ?_; simp only [go_sem, Nat.reduceBEq, Nat.reduceLT, Nat.reduceAdd, Nat.reduceMul, Nat.reduceLeDiff, d1, d2]
      refine Go.nilts 4 rfl ?_
      refine Go.retG hte hE hf [] rfl (by simp [go_sem, tsI, slI, I, renL_ints, blk_ren, en_live, en_dead, ints_length, ints_nil, ints_one]) rfl (by rw [h0]; rfl) trivial
    · have d2 : decide ((b.length : Int) = 0) = false := decide_eq_false (by omega)
      have eL : IntKind.i64.wrap ((a.length : Int) + (b.length : Int)) = ((a.length + b.length : Nat) : Int) := by rw [W64] <;> omega
      refine Go.run hte hn 100 ?_; simp only [go_sem, Nat.reduceBEq, Nat.reduceLT, Nat.reduceAdd, Nat.reduceMul, Nat.reduceLeDiff, d1, d2, eL]
      refine ⟨⟨by omega, by omega, by omega⟩, ?_⟩
      have e0 : repA (a.length + b.length) [I 0] = ints (List.replicate (a.length + b.length) 0) := by rw [repA_I]
      unfold I at e0
      simp only [Int.toNat_natCast, e0]
      refine Go.enter (fun x : Nat × List Int => x.1 ≤ a.length ∧ x.2.length = a.length + b.length ∧ Dig x.2 ∧ (∀ t : Nat, x.1 + b.length ≤ t → t < a.length + b.length → rd x.2 (t : Int) = 0) ∧ val x.2 = val (a.take x.1) * val b) (fun x => a.length - x.1) (fun x => [(0, tsI a), (1, tsI b), (5, .sl 0 0 (a.length + b.length) 1), (26, tsI a), (27, I a.length), (28, I x.1)]) (fun x => [.live ⟨3, ints x.2⟩]) (0, List.replicate (a.length + b.length) 0) [0] ⟨Nat.zero_le _, by simp, Dig_rep _, fun t _ ht => rd_rep _ t, by simp [val, val_rep]⟩ rfl rfl (by rw [h0]; rfl) (by simp [go_sem, tsI, slI, I, renL_ints, blk_ren, en_live, en_dead, ints_length, ints_nil, ints_one]) (by simp [go_sem, tsI, slI, I, renL_ints, blk_ren, en_live, en_dead, ints_length, ints_nil, ints_one]) ?_
      rintro ⟨i, out⟩ ⟨hi, hl, hD, hz, hv⟩
      simp only at hi hl hD hz hv
      by_cases hlt : i < a.length
      · have dA : decide ((i : Int) < (a.length : Int)) = true := decide_eq_true (by omega)
        have c0 : (0 ≤ (i : Int)) = True := eq_true (by omega)
        have cA : ((i : Int) < (a.length : Int)) = True := eq_true (by omega)
        have cA2 : (0 < (ints a).length) = True := eq_true (by rw [ints_length]; omega)
        have ra := Dig_rd ha i
        obtain ⟨n, hn'⟩ : ∃ n : Nat, rd a (i : Int) = n := ⟨(rd a (i : Int)).toNat, by omega⟩
        rw [hn'] at ra
        refine Go.run hte hn 100 ?_; simp only [go_sem, Nat.reduceBEq, Nat.reduceLT, Nat.reduceAdd, Nat.reduceMul, Nat.reduceLeDiff, dA, c0, cA, cA2, hn', nth_ints hlt, Int.toNat_natCast, Nat.mul_one]
        refine Go.enter (fun x : Nat × List Int × Nat => x.1 ≤ b.length ∧ x.2.1.length = a.length + b.length ∧ Dig x.2.1 ∧ x.2.2 ≤ 999999999 ∧ (∀ t : Nat, i + b.length ≤ t → t < a.length + b.length → rd x.2.1 (t : Int) = 0) ∧ val x.2.1 + x.2.2 * 1000000000 ^ (i + x.1) = val (a.take i) * val b + n * val (b.take x.1) * 1000000000 ^ i) (fun x => b.length - x.1) (fun x => [(0, tsI a), (1, tsI b), (5, .sl 0 0 (a.length + b.length) 1), (6, I i), (7, I n), (8, I x.2.2), (26, tsI a), (27, I a.length), (28, I i), (33, tsI b), (34, I b.length), (35, I x.1)]) (fun x => [.live ⟨3, ints x.2.1⟩]) (0, out, 0) [0] ⟨Nat.zero_le _, hl, hD, Nat.zero_le _, hz, by simp [val, hv]⟩ rfl rfl (by rw [h0]; rfl) (by simp [go_sem, tsI, slI, I, renL_ints, blk_ren, en_live, en_dead, ints_length, ints_nil, ints_one]) (by simp [go_sem, tsI, slI, I, renL_ints, blk_ren, en_live, en_dead, ints_length, ints_nil, ints_one]) ?_
        rintro ⟨j, out, c⟩ ⟨hj, hl, hD, hc, hz, hv⟩
        simp only at hj hl hD hc hz hv
        by_cases hjt : j < b.length
        · have dB : decide ((j : Int) < (b.length : Int)) = true := decide_eq_true (by omega)
          have c1 : (0 ≤ (j : Int)) = True := eq_true (by omega)
          have cB : ((j : Int) < (b.length : Int)) = True := eq_true (by omega)
          have cB2 : (0 < (ints b).length) = True := eq_true (by rw [ints_length]; omega)
          have c2 : (0 ≤ ((i + j : Nat) : Int)) = True := eq_true (by omega)
          have cO : (((i + j : Nat) : Int) < ((a.length + b.length : Nat) : Int)) = True := eq_true (by omega)
          have cO2 : (0 < (ints out).length) = True := eq_true (by rw [ints_length]; omega)
          have ro := Dig_rd hD (i + j)
          have rb := Dig_rd hb j
          obtain ⟨o, ho⟩ : ∃ o : Nat, rd out ((i + j : Nat) : Int) = o := ⟨(rd out ((i + j : Nat) : Int)).toNat, by omega⟩
          obtain ⟨m, hm⟩ : ∃ m : Nat, rd b (j : Int) = m := ⟨(rd b (j : Int)).toNat, by omega⟩
          obtain ⟨g1, g2, g3, g4, g5, g6⟩ := mul_in b out hb hD n i j c (val (a.take i) * val b) (by omega) hc hjt (by omega) hv o m ho hm
          have e1 : IntKind.i64.wrap ((i : Int) + (j : Int)) = ((i + j : Nat) : Int) := by rw [W64] <;> omega
          obtain ⟨s, hs⟩ : ∃ s, s = n * m := ⟨_, rfl⟩
          rw [← hs] at g3 g4 g5 g6
          have e2 : IntKind.i64.wrap ((n : Int) * (m : Int)) = (s : Int) := by rw [← Int.natCast_mul, ← hs, W64] <;> omega
          have e3 : IntKind.i64.wrap ((o : Int) + (s : Int)) = ((o + s : Nat) : Int) := by rw [W64] <;> omega
          have e4 : IntKind.i64.wrap (((o + s : Nat) : Int) + (c : Int)) = ((o + s + c : Nat) : Int) := by rw [W64] <;> omega
          have e5 : IntKind.i64.wrap ((j : Int) + 1) = ((j + 1 : Nat) : Int) := by rw [W64] <;> omega
          have e6 : IntKind.i64.wrap (((o + s + c) / 1000000000 : Nat) : Int) = (((o + s + c) / 1000000000 : Nat) : Int) := by rw [W64] <;> omega
          have hset : (out.set (i + j) (((o + s + c) % 1000000000 : Nat) : Int)).length = a.length + b.length := by rw [List.length_set]; exact hl
          refine Go.run hte hn 100 ?_; simp only [go_sem, Nat.reduceBEq, Nat.reduceLT, Nat.reduceAdd, Nat.reduceMul, Nat.reduceLeDiff, dB, c1, c2, cB, cB2, cO, cO2, e1, e2, e3, e4, ho, hm, nth_ints hjt, nth_ints (show i + j < out.length by omega), Int.toNat_natCast, Nat.mul_one]
          refine ⟨by omega, by rw [ints_length]; omega, by omega, ?_⟩
          simp only [tmod_nat, tdiv_nat, e5, e6, I_def, ints_set]
          refine Go.round (j + 1, out.set (i + j) (((o + s + c) % 1000000000 : Nat) : Int), (o + s + c) / 1000000000) [0] ⟨hjt, hset, g5, g4, ?_, g6⟩ (by simp only; omega) rfl rfl (by rw [h0]; rfl) (by simp [go_sem, tsI, slI, I, renL_ints, blk_ren, en_live, en_dead, ints_length, ints_nil, ints_one]) (by simp [go_sem, tsI, slI, I, renL_ints, blk_ren, en_live, en_dead, ints_length, ints_nil, ints_one])
          intro t h1 h2
          rw [rd_set_ne _ _ _ _ (by omega)]
          exact hz t h1 h2
        · have dB : decide ((j : Int) < (b.length : Int)) = false := decide_eq_false (by omega)
          have hjb : j = b.length := by omega
          subst hjb
          obtain ⟨g1, g2⟩ := mul_out a b out hD i c hlt hc (by omega) (hz _ (Nat.le_refl _) (by omega)) n hn' hv
          have e1 : IntKind.i64.wrap ((i : Int) + (b.length : Int)) = ((i + b.length : Nat) : Int) := by rw [W64] <;> omega
          have e5 : IntKind.i64.wrap ((i : Int) + 1) = ((i + 1 : Nat) : Int) := by rw [W64] <;> omega
          have c2 : (0 ≤ ((i + b.length : Nat) : Int)) = True := eq_true (by omega)
          have cO : (((i + b.length : Nat) : Int) < ((a.length + b.length : Nat) : Int)) = True := eq_true (by omega)
          refine Go.run hte hn 100 ?_; simp only [go_sem, Nat.reduceBEq, Nat.reduceLT, Nat.reduceAdd, Nat.reduceMul, Nat.reduceLeDiff, dB, e1, c2, cO, Int.toNat_natCast, Nat.mul_one]
          refine ⟨by rw [ints_length]; omega, ?_⟩
          simp only [e5, I_def, ints_set]
          refine Go.round (i + 1, out.set (i + b.length) (c : Int)) [0] ⟨hlt, by simp only [List.length_set]; exact hl, g1, ?_, g2⟩ (by simp only; omega) rfl rfl (by rw [h0]; rfl) (by simp [go_sem, tsI, slI, I, renL_ints, blk_ren, en_live, en_dead, ints_length, ints_nil, ints_one]) (by simp [go_sem, tsI, slI, I, renL_ints, blk_ren, en_live, en_dead, ints_length, ints_nil, ints_one])
          intro t h1 h2
          simp only at h1 h2
          rw [rd_set_ne _ _ _ _ (by omega)]
          exact hz t (by omega) h2
      · have dA : decide ((i : Int) < (a.length : Int)) = false := decide_eq_false (by omega)
        have hia : i = a.length := by omega
        subst hia
        rw [List.take_length] at hv
        refine Go.run hte hn 100 ?_; simp only [go_sem, Nat.reduceBEq, Nat.reduceLT, Nat.reduceAdd, Nat.reduceMul, Nat.reduceLeDiff, dA]
        have C := l02Trim_c out (by omega)
        rw [trim_dg_val hD, hv] at C
        rw [← hl]
        refine Go.freeze (nm := 0) rfl ?_; simp only [go_sem, Nat.reduceBEq, Nat.reduceLT, Nat.reduceAdd, Nat.reduceMul, Nat.reduceLeDiff]
        refine Go.call0 hP (C) rfl rfl rfl (by omega) (by simp [go_sem, tsI, slI, I, renL_ints, blk_ren, en_live, en_dead, ints_length, ints_nil, ints_one]) ?_
        refine Go.run hte hn 100 ?_; simp only [go_sem, Nat.reduceBEq, Nat.reduceLT, Nat.reduceAdd, Nat.reduceMul, Nat.reduceLeDiff]
        refine Go.retG hte hE hf [] rfl (by simp [go_sem, tsI, slI, I, renL_ints, blk_ren, en_live, en_dead, ints_length, ints_nil, ints_one]) rfl (by rw [h0]; rfl) trivial
theorem timesF_c (a b : List Int) (ha : Dig a) (hb : Dig b) (hal : a.length ≤ 1000) (hbl : b.length ≤ 1000) : AC Try.prog 105 [tsI a, tsI b] [] (tsI (dg (val a * val b))) [] := by
  refine AC.intro (fn := Try.f105) (c := ?_) 72 Try.func105 (by rfl) (by kernel_rfl) (by kernel_rfl) (Nat.le_of_ble_eq_true rfl) fun e hP hf hn h0 hE => ?_
  have hte : TEok e.P te := hP ▸ teOk
  have hmx : e.P.follows .mixedOrders = true := hP ▸ mixedOk
  have hnil : a.length = 0 ∨ b.length = 0 → dg (val a * val b) = [] := by
    rintro (h | h)
    · rw [List.length_eq_zero_iff.mp h]; simp [val, dg_zero]
    · rw [List.length_eq_zero_iff.mp h]; simp [val, dg_zero]
  by_cases ha0 : a.length = 0
  · rw [hnil (.inl ha0)] at hE
    have d1 : decide ((a.length : Int) = 0) = true := decide_eq_true (by omega)
    refine Go.run hte hn 100 ?_; simp only [go_sem, Nat.reduceBEq, Nat.reduceLT, Nat.reduceAdd, Nat.reduceMul, Nat.reduceLeDiff, d1]
    refine Go.nilts 4 rfl ?_
    refine Go.retG hte hE hf [] rfl (by simp [go_sem, tsI, slI, I, renL_ints, blk_ren, en_live, en_dead, ints_length, ints_nil, ints_one]) rfl (by rw [h0]; rfl) trivial
  · have d1 : decide ((a.length : Int) = 0) = false := decide_eq_false (by omega)
    by_cases hb0 : b.length = 0
    · rw [hnil (.inr hb0)] at hE
      have d2 : decide ((b.length : Int) = 0) = true := decide_eq_true (by omega)
      refine Go.run hte hn 100 ?_; simp only [go_sem, Nat.reduceBEq, Nat.reduceLT, Nat.reduceAdd, Nat.reduceMul, Nat.reduceLeDiff, d1, d2]
      refine Go.nilts 4 rfl ?_
      refine Go.retG hte hE hf [] rfl (by simp [go_sem, tsI, slI, I, renL_ints, blk_ren, en_live, en_dead, ints_length, ints_nil, ints_one]) rfl (by rw [h0]; rfl) trivial
    · have d2 : decide ((b.length : Int) = 0) = false := decide_eq_false (by omega)
      have eL : IntKind.i64.wrap ((a.length : Int) + (b.length : Int)) = ((a.length + b.length : Nat) : Int) := by rw [W64] <;> omega
      refine Go.run hte hn 100 ?_; simp only [go_sem, Nat.reduceBEq, Nat.reduceLT, Nat.reduceAdd, Nat.reduceMul, Nat.reduceLeDiff, d1, d2, eL]
      refine ⟨⟨by omega, by omega, by omega⟩, ?_⟩
      have e0 : repA (a.length + b.length) [I 0] = ints (List.replicate (a.length + b.length) 0) := by rw [repA_I]
      unfold I at e0
      simp only [Int.toNat_natCast, e0]
      refine Go.enter (fun x : Nat × List Int => x.1 ≤ a.length ∧ x.2.length = a.length + b.length ∧ Dig x.2 ∧ (∀ t : Nat, x.1 + b.length ≤ t → t < a.length + b.length → rd x.2 (t : Int) = 0) ∧ val x.2 = val (a.take x.1) * val b) (fun x => a.length - x.1) (fun x => [(0, tsI a), (1, tsI b), (5, .sl 0 0 (a.length + b.length) 1), (26, tsI a), (27, I a.length), (28, I x.1)]) (fun x => [.live ⟨3, ints x.2⟩]) (0, List.replicate (a.length + b.length) 0) [0] ⟨Nat.zero_le _, by simp, Dig_rep _, fun t _ ht => rd_rep _ t, by simp [val, val_rep]⟩ rfl rfl (by rw [h0]; rfl) (by simp [go_sem, tsI, slI, I, renL_ints, blk_ren, en_live, en_dead, ints_length, ints_nil, ints_one]) (by simp [go_sem, tsI, slI, I, renL_ints, blk_ren, en_live, en_dead, ints_length, ints_nil, ints_one]) ?_
      rintro ⟨i, out⟩ ⟨hi, hl, hD, hz, hv⟩
      simp only at hi hl hD hz hv
      by_cases hlt : i < a.length
      · have dA : decide ((i : Int) < (a.length : Int)) = true := decide_eq_true (by omega)
        have c0 : (0 ≤ (i : Int)) = True := eq_true (by omega)
        have cA : ((i : Int) < (a.length : Int)) = True := eq_true (by omega)
        have cA2 : (0 < (ints a).length) = True := eq_true (by rw [ints_length]; omega)
        have ra := Dig_rd ha i
        obtain ⟨n, hn'⟩ : ∃ n : Nat, rd a (i : Int) = n := ⟨(rd a (i : Int)).toNat, by omega⟩
        rw [hn'] at ra
        refine Go.run hte hn 100 ?_; simp only [go_sem, Nat.reduceBEq, Nat.reduceLT, Nat.reduceAdd, Nat.reduceMul, Nat.reduceLeDiff, dA, c0, cA, cA2, hn', nth_ints hlt, Int.toNat_natCast, Nat.mul_one]
        refine Go.enter (fun x : Nat × List Int × Nat => x.1 ≤ b.length ∧ x.2.1.length = a.length + b.length ∧ Dig x.2.1 ∧ x.2.2 ≤ 999999999 ∧ (∀ t : Nat, i + b.length ≤ t → t < a.length + b.length → rd x.2.1 (t : Int) = 0) ∧ val x.2.1 + x.2.2 * 1000000000 ^ (i + x.1) = val (a.take i) * val b + n * val (b.take x.1) * 1000000000 ^ i) (fun x => b.length - x.1) (fun x => [(0, tsI a), (1, tsI b), (5, .sl 0 0 (a.length + b.length) 1), (6, I i), (7, I n), (8, I x.2.2), (26, tsI a), (27, I a.length), (28, I i), (33, tsI b), (34, I b.length), (35, I x.1)]) (fun x => [.live ⟨3, ints x.2.1⟩]) (0, out, 0) [0] ⟨Nat.zero_le _, hl, hD, Nat.zero_le _, hz, by simp [val, hv]⟩ rfl rfl (by rw [h0]; rfl) (by simp [go_sem, tsI, slI, I, renL_ints, blk_ren, en_live, en_dead, ints_length, ints_nil, ints_one]) (by simp [go_sem, tsI, slI, I, renL_ints, blk_ren, en_live, en_dead, ints_length, ints_nil, ints_one]) ?_
        rintro ⟨j, out, c⟩ ⟨hj, hl, hD, hc, hz, hv⟩
        simp only at hj hl hD hc hz hv
        by_cases hjt : j < b.length
        · have dB : decide ((j : Int) < (b.length : Int)) = true := decide_eq_true (by omega)
          have c1 : (0 ≤ (j : Int)) = True := eq_true (by omega)
          have cB : ((j : Int) < (b.length : Int)) = True := eq_true (by omega)
          have cB2 : (0 < (ints b).length) = True := eq_true (by rw [ints_length]; omega)
          have c2 : (0 ≤ ((i + j : Nat) : Int)) = True := eq_true (by omega)
          have cO : (((i + j : Nat) : Int) < ((a.length + b.length : Nat) : Int)) = True := eq_true (by omega)
          have cO2 : (0 < (ints out).length) = True := eq_true (by rw [ints_length]; omega)
          have ro := Dig_rd hD (i + j)
          have rb := Dig_rd hb j
          obtain ⟨o, ho⟩ : ∃ o : Nat, rd out ((i + j : Nat) : Int) = o := ⟨(rd out ((i + j : Nat) : Int)).toNat, by omega⟩
          obtain ⟨m, hm⟩ : ∃ m : Nat, rd b (j : Int) = m := ⟨(rd b (j : Int)).toNat, by omega⟩
          obtain ⟨g1, g2, g3, g4, g5, g6⟩ := mul_in b out hb hD n i j c (val (a.take i) * val b) (by omega) hc hjt (by omega) hv o m ho hm
          have e1 : IntKind.i64.wrap ((i : Int) + (j : Int)) = ((i + j : Nat) : Int) := by rw [W64] <;> omega
          obtain ⟨s, hs⟩ : ∃ s, s = n * m := ⟨_, rfl⟩
          rw [← hs] at g3 g4 g5 g6
          have e2 : IntKind.i64.wrap ((n : Int) * (m : Int)) = (s : Int) := by rw [← Int.natCast_mul, ← hs, W64] <;> omega
          have e3 : IntKind.i64.wrap ((o : Int) + (s : Int)) = ((o + s : Nat) : Int) := by rw [W64] <;> omega
          have e4 : IntKind.i64.wrap (((o + s : Nat) : Int) + (c : Int)) = ((o + s + c : Nat) : Int) := by rw [W64] <;> omega
          have e5 : IntKind.i64.wrap ((j : Int) + 1) = ((j + 1 : Nat) : Int) := by rw [W64] <;> omega
          have e6 : IntKind.i64.wrap (((o + s + c) / 1000000000 : Nat) : Int) = (((o + s + c) / 1000000000 : Nat) : Int) := by rw [W64] <;> omega
          have hset : (out.set (i + j) (((o + s + c) % 1000000000 : Nat) : Int)).length = a.length + b.length := by rw [List.length_set]; exact hl
          refine Go.run hte hn 100 ?_; simp only [go_sem, Nat.reduceBEq, Nat.reduceLT, Nat.reduceAdd, Nat.reduceMul, Nat.reduceLeDiff, dB, c1, c2, cB, cB2, cO, cO2, e1, e2, e3, e4, ho, hm, nth_ints hjt, nth_ints (show i + j < out.length by omega), Int.toNat_natCast, Nat.mul_one]
          refine ⟨by omega, by omega, by rw [ints_length]; omega, ?_⟩
          simp only [tmod_nat, tdiv_nat, e5, e6, I_def, ints_set]
          refine Go.round (j + 1, out.set (i + j) (((o + s + c) % 1000000000 : Nat) : Int), (o + s + c) / 1000000000) [0] ⟨hjt, hset, g5, g4, ?_, g6⟩ (by simp only; omega) rfl rfl (by rw [h0]; rfl) (by simp [go_sem, tsI, slI, I, renL_ints, blk_ren, en_live, en_dead, ints_length, ints_nil, ints_one]) (by simp [go_sem, tsI, slI, I, renL_ints, blk_ren, en_live, en_dead, ints_length, ints_nil, ints_one])
          intro t h1 h2
          rw [rd_set_ne _ _ _ _ (by omega)]
          exact hz t h1 h2
        · have dB : decide ((j : Int) < (b.length : Int)) = false := decide_eq_false (by omega)
          have hjb : j = b.length := by omega
          subst hjb
          obtain ⟨g1, g2⟩ := mul_out a b out hD i c hlt hc (by omega) (hz _ (Nat.le_refl _) (by omega)) n hn' hv
          have e1 : IntKind.i64.wrap ((i : Int) + (b.length : Int)) = ((i + b.length : Nat) : Int) := by rw [W64] <;> omega
          have e5 : IntKind.i64.wrap ((i : Int) + 1) = ((i + 1 : Nat) : Int) := by rw [W64] <;> omega
          have c2 : (0 ≤ ((i + b.length : Nat) : Int)) = True := eq_true (by omega)
          have cO : (((i + b.length : Nat) : Int) < ((a.length + b.length : Nat) : Int)) = True := eq_true (by omega)
          refine Go.run hte hn 100 ?_; simp only [go_sem, Nat.reduceBEq, Nat.reduceLT, Nat.reduceAdd, Nat.reduceMul, Nat.reduceLeDiff, dB, e1, c2, cO, Int.toNat_natCast, Nat.mul_one]
          refine ⟨by rw [ints_length]; omega, ?_⟩
          simp only [e5, I_def, ints_set]
          refine Go.round (i + 1, out.set (i + b.length) (c : Int)) [0] ⟨hlt, by simp only [List.length_set]; exact hl, g1, ?_, g2⟩ (by simp only; omega) rfl rfl (by rw [h0]; rfl) (by simp [go_sem, tsI, slI, I, renL_ints, blk_ren, en_live, en_dead, ints_length, ints_nil, ints_one]) (by simp [go_sem, tsI, slI, I, renL_ints, blk_ren, en_live, en_dead, ints_length, ints_nil, ints_one])
          intro t h1 h2
          simp only at h1 h2
          rw [rd_set_ne _ _ _ _ (by omega)]
          exact hz t (by omega) h2
      · have dA : decide ((i : Int) < (a.length : Int)) = false := decide_eq_false (by omega)
        have hia : i = a.length := by omega
        subst hia
        rw [List.take_length] at hv
        refine Go.run hte hn 100 ?_; simp only [go_sem, Nat.reduceBEq, Nat.reduceLT, Nat.reduceAdd, Nat.reduceMul, Nat.reduceLeDiff, dA]
        have C := trim_c out (by omega)
        rw [trim_dg_val hD, hv] at C
        rw [← hl]
        refine Go.freeze (nm := 0) rfl ?_; simp only [go_sem, Nat.reduceBEq, Nat.reduceLT, Nat.reduceAdd, Nat.reduceMul, Nat.reduceLeDiff]
        refine Go.call0 hP (C) rfl rfl rfl (by omega) (by simp [go_sem, tsI, slI, I, renL_ints, blk_ren, en_live, en_dead, ints_length, ints_nil, ints_one]) ?_
        refine Go.run hte hn 100 ?_; simp only [go_sem, Nat.reduceBEq, Nat.reduceLT, Nat.reduceAdd, Nat.reduceMul, Nat.reduceLeDiff]
        refine Go.retG hte hE hf [] rfl (by simp [go_sem, tsI, slI, I, renL_ints, blk_ren, en_live, en_dead, ints_length, ints_nil, ints_one]) rfl (by rw [h0]; rfl) trivial

end Go.Proofs.Ytbblhgldfcodfaa.Ab
