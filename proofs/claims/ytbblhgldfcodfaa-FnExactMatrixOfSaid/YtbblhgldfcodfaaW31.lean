/- Contracts of the given program's functions and of the reference's (walks). -/
import Derived.Test.YtbblhgldfcodfaaAbT
import Derived.Test.YtbblhgldfcodfaaAbP
import Derived.Test.YtbblhgldfcodfaaAbN
import Derived.Test.YtbblhgldfcodfaaAbD
import Derived.Test.YtbblhgldfcodfaaAbK
import Derived.Test.YtbblhgldfcodfaaRunW1
import Derived.Test.YtbblhgldfcodfaaRunW5
import Derived.Test.YtbblhgldfcodfaaRunW9
import Derived.Test.YtbblhgldfcodfaaW10
import Derived.Test.YtbblhgldfcodfaaW12
import Derived.Test.YtbblhgldfcodfaaW13
import Derived.Test.YtbblhgldfcodfaaW21
import Derived.Test.YtbblhgldfcodfaaW22
import Derived.Test.YtbblhgldfcodfaaW24
import Derived.Test.YtbblhgldfcodfaaW25
import Derived.Test.YtbblhgldfcodfaaW26
import Derived.Test.YtbblhgldfcodfaaW27
import Derived.Test.YtbblhgldfcodfaaW28
import Derived.Test.YtbblhgldfcodfaaW30
set_option linter.unusedVariables false
set_option linter.unusedSimpArgs false
set_option maxRecDepth 10000
namespace Go.Proofs.Ytbblhgldfcodfaa.Ab
open Go Go.RowKit
attribute [local go_sem] q_run q_seq q_skip q_block q_exit q_cond q_region q_nil q_op q_blk q_loop q_ret q_open q_inv q_fin q_go q_h0 q_h1 q_gskip q_stepC q_brt q_brf q_stepX q_sskip q_sskip0 q_val q_need q_new q_newc q_sv q_sto q_c1 q_c2 q_c3 q_c4 q_c5 q_c6 q_c7 q_c8 q_c9 q_c10 q_c11 q_c12 q_c13 q_c14 q_c15 q_c16 q_c17 q_c18 q_c19 q_c20 q_c21 q_c22 q_g0 q_g1 q_gC q_gD q_gE q_gB1 q_gB2 q_gB3 q_gB4 q_ev1 q_ev2 q_ev3 q_evo0 q_evo1 q_rv q_rva q_o1 q_o2 q_pk1 q_pk2 q_ld1p q_ld1e q_ld1t q_ldnp q_ldne q_ldnt q_sub0 q_sub1 q_subc q_stS q_stT q_box q_bldr q_bld q_fill0 q_fill1 q_fillB q_bsr q_bsl q_fap q_fat q_iasl q_iats q_lnsl q_lnts q_lnv q_lnS q_exA q_mkB q_lo0 q_lo1 q_hi0 q_hi1 q_slcA q_slcU1 q_slcU2 q_slcT1 q_slcT2 q_slsA q_slsU q_slsT q_apA q_apC q_srcE1 q_srcE2 q_srcE3 q_srcA1 q_srcB q_srcA2 q_srcA3 q_fnA q_nc1 q_nc2 q_bin q_bin2 q_bin3 q_bin4 q_bin5 q_bin6 q_bin7 q_bin8 q_bin9 q_bin10 q_i1 q_i2 q_i3 q_i4 q_i5 q_i6 q_i7 q_i8 q_i9 q_i10 q_i11 q_s1 q_s2 q_s3 q_u1 q_u2 q_min q_max q_ce1 q_ce2 q_ce3 q_ce4 q_ce5 q_ce6 q_ce7 q_ce8 q_ce9 q_ce10 q_ce11 q_on2 q_on3 q_on4 q_on5 q_on6 q_on7 q_on8 q_on9 q_on10 q_on11 q_enr1 q_gEt q_zr0 q_zr1 q_zgs q_zgg q_zk1 q_zk2 q_zd q_zv1 q_zv2 q_zv3 q_zp1 q_zp2 q_zf q_zs1 q_zs2 q_za q_za1 q_fi0 q_fi1 q_ln0 q_ln1 q_h01 q_h02 q_h03 q_h04 q_h05 q_h06 q_h07 q_h08 q_h09 q_h10 q_h11 q_h12 q_h13 q_h14 q_h15 q_h16 q_h17 q_h18 q_h19 q_h20 q_h21 q_h22 q_h23 q_h24 q_al q_b0 q_rs1 q_rs2 q_rs3 q_rs4 q_rs5 q_rs6 q_rs7 q_rs8 q_ro1 q_ro2 q_ro3 q_ro4 q_ro5 q_ro6 q_ro7 q_ro8 cond_true cond_false decide_true decide_false List.length_cons List.length_nil List.nil_append List.cons_append true_and and_true List.toList_toArray Option.map_some Nat.zero_add Nat.add_zero Bool.and_self Bool.and_true Bool.true_and Bool.and_false Bool.false_and Bool.not_true Bool.not_false FitF FitL LendL wb keys nodupB firstOk tupA op_move op_assign op_pick op_un op_box op_nc op_mf op_ex op_min op_max get put del nth evs evp sets setN ones popTo args0 AV.ren AV.renL rho List.take_succ_cons List.take_zero List.drop_succ_cons List.drop_zero Option.isNone_none Option.isNone_some o_al28 o_al30 o_al43 o_al80 o_al84 o_ap22 o_ap41 o_bi120 o_bi22 o_bi3 o_bi4 o_bi68 o_bs22_0 o_bs22_1 o_bs22_3 o_bs41_0 o_bs41_1 o_bu28 o_bu30 o_bu43 o_bu80 o_bu98 o_cn120 o_cn3 o_cv120_3 o_cv3_120 o_fa24_0 o_fa24_1 o_fa26_0 o_fa26_1 o_fa28_0 o_fa28_1 o_fa30_0 o_fa30_1 o_fa38_0 o_fa38_1 o_fa38_2 o_fa43_0 o_fa43_1 o_fa43_2 o_fa80_0 o_fa80_1 o_fa80_2 o_fa98_0 o_fa98_1 o_ia22 o_ia36 o_ia41 o_ia78 o_ia84 o_ib4 o_ip68 o_ld22 o_ld24 o_ld26 o_ld28 o_ld3 o_ld30 o_ld36 o_ld38 o_ld4 o_ld41 o_ld43 o_ld68 o_ld78 o_ld80 o_ld84 o_ln22 o_ln36 o_ln41 o_ln78 o_ln84 o_mk22 o_mk41 o_mk78 o_mk84 o_sl22 o_sl41 o_st22 o_st28 o_st3 o_st30 o_st4 o_st41 o_st43 o_st68 o_st80 o_st84 o_zb22 o_zb36 o_zb41 o_zb78 o_zb84 I tsI slI renL_ints blk_ren en_live en_dead List.set_cons_zero List.set_cons_succ List.map_cons List.map_nil List.append_nil frzF frzS AV.frz AV.frzL frzL_ints ints_all ints_all' ints_take1 ints_mk ints_mk1 mk_length res_ints resOk_ints plain_ints plainA plainL plainE plainS List.all_cons List.all_nil bigO bigT ratO ratT
/-! ### Lowest terms -/
def lwOk (A B : Nat) : Bool := decide (B ≠ 0) && (decide ((dg (A / Nat.gcd A B)).length ≤ 24) && decide ((dg (B / Nat.gcd A B)).length ≤ 24))
def lwB (s : Bool) (A B : Nat) : Bool := lwOk A B && (s && decide (0 < (dg (A / Nat.gcd A B)).length))
def lwN (A B : Nat) : List Int := if lwOk A B then dg (A / Nat.gcd A B) else []
def lwD (A B : Nat) : List Int := if lwOk A B then dg (B / Nat.gcd A B) else []
theorem lwOk_no {A B : Nat} (h : ¬ (B ≠ 0 ∧ (dg (A / Nat.gcd A B)).length ≤ 24 ∧ (dg (B / Nat.gcd A B)).length ≤ 24)) : lwOk A B = false := by
  cases h2 : lwOk A B
  · rfl
  · unfold lwOk at h2
    simp only [Bool.and_eq_true, decide_eq_true_eq] at h2
    exact absurd h2 h
theorem lwN_le (A B : Nat) : (lwN A B).length ≤ 24 := by
  unfold lwN
  split
  · rename_i h
    unfold lwOk at h
    simp only [Bool.and_eq_true, decide_eq_true_eq] at h
    exact h.2.1
  · simp
theorem lwD_le (A B : Nat) : (lwD A B).length ≤ 24 := by
  unfold lwD
  split
  · rename_i h
    unfold lwOk at h
    simp only [Bool.and_eq_true, decide_eq_true_eq] at h
    exact h.2.2
  · simp
theorem l04Low_c (s : Bool) (A B : Nat) (hal : (dg A).length ≤ 200) (hbl : (dg B).length ≤ 200) : AC Try.prog 58 [.v (.bool s), tsI (dg A), tsI (dg B)] [] (ratO (lwB s A B) 0 1 (lwN A B) (lwD A B)) [.live ⟨3, ints (lwN A B)⟩, .live ⟨3, ints (lwD A B)⟩] := by
  refine AC.intro (fn := Try.f58) (c := ?_) 55 Try.func58 (by rfl) (by kernel_rfl) (by kernel_rfl) (Nat.le_of_ble_eq_true rfl) fun e hP hf hn h0 hE => ?_
  have hte : TEok e.P te := hP ▸ teOk
  have hmx : e.P.follows .mixedOrders = true := hP ▸ mixedOk
  have bad : ¬ (B ≠ 0 ∧ (dg (A / Nat.gcd A B)).length ≤ 24 ∧ (dg (B / Nat.gcd A B)).length ≤ 24) → Ends e (ratO false 0 1 [] []) [.live ⟨3, ints []⟩, .live ⟨3, ints []⟩] := by
    intro h
    unfold lwB lwN lwD at hE
    rw [lwOk_no h, Bool.false_and, if_neg (by simp), if_neg (by simp)] at hE
    exact hE
  have T1 := l02Trim_c (dg A) (by omega)
  have T2 := l02Trim_c (dg B) (by omega)
  rw [trim_dg] at T1 T2
  have la : (dg (A / Nat.gcd A B)).length ≤ 200 := Nat.le_trans (dg_len_mono (Nat.div_le_self _ _)) hal
  have lb : (dg (B / Nat.gcd A B)).length ≤ 200 := Nat.le_trans (dg_len_mono (Nat.div_le_self _ _)) hbl
  refine Go.run hte hn 100 ?_; simp only [go_sem, Nat.reduceBEq, Nat.reduceLT, Nat.reduceAdd, Nat.reduceMul, Nat.reduceLeDiff]
  refine Go.call0 hP (T1) rfl rfl rfl (by omega) (by simp [go_sem, tsI, slI, I, renL_ints, blk_ren, en_live, en_dead, ints_length, ints_nil, ints_one]) ?_
  refine Go.run hte hn 100 ?_; simp only [go_sem, Nat.reduceBEq, Nat.reduceLT, Nat.reduceAdd, Nat.reduceMul, Nat.reduceLeDiff]
  refine Go.call0 hP (T2) rfl rfl rfl (by omega) (by simp [go_sem, tsI, slI, I, renL_ints, blk_ren, en_live, en_dead, ints_length, ints_nil, ints_one]) ?_
  by_cases hB : B = 0
  · have hE' := bad (fun h => h.1 hB)
    have d0 : decide (((dg B).length : Int) = 0) = true := decide_eq_true (by rw [hB, dg_zero]; rfl)
    refine Go.run hte hn 100 ?_; simp only [go_sem, Nat.reduceBEq, Nat.reduceLT, Nat.reduceAdd, Nat.reduceMul, Nat.reduceLeDiff, d0]
    refine Go.virt 3 ?_
    refine Go.nilcell 0 1 1 1 rfl rfl ?_
    refine Go.virt 3 ?_
    refine Go.nilcell 0 2 2 1 rfl rfl ?_
    simp only [go_sem, Nat.reduceBEq, Nat.reduceLT, Nat.reduceAdd, Nat.reduceMul, Nat.reduceLeDiff]
    refine Go.retG hte hE' hf [1, 2] rfl (by simp [go_sem, tsI, slI, I, renL_ints, blk_ren, en_live, en_dead, ints_length, ints_nil, ints_one]) rfl (by rw [h0]; rfl) (by simp [go_sem, tsI, slI, I, renL_ints, blk_ren, en_live, en_dead, ints_length, ints_nil, ints_one])
  · have hlB := dg_ne hB
    have d0 : decide (((dg B).length : Int) = 0) = false := decide_eq_false (by omega)
    have hg0 : Nat.gcd A B ≠ 0 := by have := Nat.gcd_pos_of_pos_right A (Nat.pos_of_ne_zero hB); omega
    have hgl : (dg (Nat.gcd A B)).length ≤ 200 := gcd_len A B 200 hal hbl
    refine Go.run hte hn 100 ?_; simp only [go_sem, Nat.reduceBEq, Nat.reduceLT, Nat.reduceAdd, Nat.reduceMul, Nat.reduceLeDiff, d0]
    refine Go.call0 hP (l04One_c B (by omega)) rfl rfl rfl (by omega) (by simp [go_sem, tsI, slI, I, renL_ints, blk_ren, en_live, en_dead, ints_length, ints_nil, ints_one]) ?_
    by_cases h1 : B = 1
    · have hg : Nat.gcd A B = 1 := by rw [h1]; exact Nat.gcd_one_right A
      have eA : A / Nat.gcd A B = A := by rw [hg, Nat.div_one]
      have eB : B / Nat.gcd A B = B := by rw [hg, Nat.div_one]
      rw [decide_eq_true h1]
      rw [eA] at la
      rw [eB] at lb
      rw [eA, eB] at bad
      by_cases hx : (dg (A)).length ≤ 24
      · have dx : decide ((24 : Int) < ((dg (A)).length : Int)) = false := decide_eq_false (by omega)
        by_cases hy : (dg (B)).length ≤ 24
        · have dy : decide ((24 : Int) < ((dg (B)).length : Int)) = false := decide_eq_false (by omega)
          have hok : lwOk A B = true := by unfold lwOk; rw [eA, eB]; rw [decide_eq_true hB, decide_eq_true hx, decide_eq_true hy]; rfl
          unfold lwB lwN lwD at hE
          rw [eA, eB] at hE
          rw [hok, Bool.true_and, if_pos rfl, if_pos rfl] at hE
          have hcap : capped (dg (A)) = dg (A) := by unfold capped; rw [trim_dg, if_neg (by omega)]
          have C2 := l03Make_c s (dg (A)) (by omega)
          rw [hcap] at C2
          refine Go.run hte hn 100 ?_; simp only [go_sem, Nat.reduceBEq, Nat.reduceLT, Nat.reduceAdd, Nat.reduceMul, Nat.reduceLeDiff, dx, dy]
          refine Go.call0 hP (C2) rfl rfl rfl (by omega) (by simp [go_sem, tsI, slI, I, renL_ints, blk_ren, en_live, en_dead, ints_length, ints_nil, ints_one]) ?_
          refine Go.run hte hn 100 ?_; simp only [go_sem, Nat.reduceBEq, Nat.reduceLT, Nat.reduceAdd, Nat.reduceMul, Nat.reduceLeDiff]
          refine ⟨⟨by rw [ints_length]; omega, ones_ints _, by omega, by omega⟩, ?_⟩
          refine Go.retG hte hE hf [1, 3] rfl (by simp [go_sem, tsI, slI, I, renL_ints, blk_ren, en_live, en_dead, ints_length, ints_nil, ints_one]) rfl (by rw [h0]; rfl) (by simp [go_sem, tsI, slI, I, renL_ints, blk_ren, en_live, en_dead, ints_length, ints_nil, ints_one])
        · have dy : decide ((24 : Int) < ((dg (B)).length : Int)) = true := decide_eq_true (by omega)
          have hE' := bad (fun h => hy h.2.2)
          refine Go.run hte hn 100 ?_; simp only [go_sem, Nat.reduceBEq, Nat.reduceLT, Nat.reduceAdd, Nat.reduceMul, Nat.reduceLeDiff, dx, dy]
          refine Go.virt 3 ?_
          refine Go.nilcell 0 1 1 1 rfl rfl ?_
          refine Go.virt 3 ?_
          refine Go.nilcell 0 2 2 1 rfl rfl ?_
          simp only [go_sem, Nat.reduceBEq, Nat.reduceLT, Nat.reduceAdd, Nat.reduceMul, Nat.reduceLeDiff]
          refine Go.retG hte hE' hf [1, 2] rfl (by simp [go_sem, tsI, slI, I, renL_ints, blk_ren, en_live, en_dead, ints_length, ints_nil, ints_one]) rfl (by rw [h0]; rfl) (by simp [go_sem, tsI, slI, I, renL_ints, blk_ren, en_live, en_dead, ints_length, ints_nil, ints_one])
      · have dx : decide ((24 : Int) < ((dg (A)).length : Int)) = true := decide_eq_true (by omega)
        have hE' := bad (fun h => hx h.2.1)
        refine Go.run hte hn 100 ?_; simp only [go_sem, Nat.reduceBEq, Nat.reduceLT, Nat.reduceAdd, Nat.reduceMul, Nat.reduceLeDiff, dx]
        refine Go.virt 3 ?_
        refine Go.nilcell 0 1 1 1 rfl rfl ?_
        refine Go.virt 3 ?_
        refine Go.nilcell 0 2 2 1 rfl rfl ?_
        simp only [go_sem, Nat.reduceBEq, Nat.reduceLT, Nat.reduceAdd, Nat.reduceMul, Nat.reduceLeDiff]
        refine Go.retG hte hE' hf [1, 2] rfl (by simp [go_sem, tsI, slI, I, renL_ints, blk_ren, en_live, en_dead, ints_length, ints_nil, ints_one]) rfl (by rw [h0]; rfl) (by simp [go_sem, tsI, slI, I, renL_ints, blk_ren, en_live, en_dead, ints_length, ints_nil, ints_one])
    · rw [decide_eq_false h1]
      refine Go.run hte hn 100 ?_; simp only [go_sem, Nat.reduceBEq, Nat.reduceLT, Nat.reduceAdd, Nat.reduceMul, Nat.reduceLeDiff]
      refine Go.call0 hP (l02Gcd_c A B (by omega) (by omega)) rfl rfl rfl (by omega) (by simp [go_sem, tsI, slI, I, renL_ints, blk_ren, en_live, en_dead, ints_length, ints_nil, ints_one]) ?_
      refine Go.run hte hn 100 ?_; simp only [go_sem, Nat.reduceBEq, Nat.reduceLT, Nat.reduceAdd, Nat.reduceMul, Nat.reduceLeDiff]
      refine Go.call0 hP (l04One_c (Nat.gcd A B) (by omega)) rfl rfl rfl (by omega) (by simp [go_sem, tsI, slI, I, renL_ints, blk_ren, en_live, en_dead, ints_length, ints_nil, ints_one]) ?_
      by_cases hg : Nat.gcd A B = 1
      · have eA : A / Nat.gcd A B = A := by rw [hg, Nat.div_one]
        have eB : B / Nat.gcd A B = B := by rw [hg, Nat.div_one]
        rw [decide_eq_true hg]
        rw [eA] at la
        rw [eB] at lb
        rw [eA, eB] at bad
        by_cases hx : (dg (A)).length ≤ 24
        · have dx : decide ((24 : Int) < ((dg (A)).length : Int)) = false := decide_eq_false (by omega)
          by_cases hy : (dg (B)).length ≤ 24
          · have dy : decide ((24 : Int) < ((dg (B)).length : Int)) = false := decide_eq_false (by omega)
            have hok : lwOk A B = true := by unfold lwOk; rw [eA, eB]; rw [decide_eq_true hB, decide_eq_true hx, decide_eq_true hy]; rfl
            unfold lwB lwN lwD at hE
            rw [eA, eB] at hE
            rw [hok, Bool.true_and, if_pos rfl, if_pos rfl] at hE
            have hcap : capped (dg (A)) = dg (A) := by unfold capped; rw [trim_dg, if_neg (by omega)]
            have C2 := l03Make_c s (dg (A)) (by omega)
            rw [hcap] at C2
            refine Go.run hte hn 100 ?_; simp only [go_sem, Nat.reduceBEq, Nat.reduceLT, Nat.reduceAdd, Nat.reduceMul, Nat.reduceLeDiff, dx, dy]
            refine Go.call0 hP (C2) rfl rfl rfl (by omega) (by simp [go_sem, tsI, slI, I, renL_ints, blk_ren, en_live, en_dead, ints_length, ints_nil, ints_one]) ?_
            refine Go.run hte hn 100 ?_; simp only [go_sem, Nat.reduceBEq, Nat.reduceLT, Nat.reduceAdd, Nat.reduceMul, Nat.reduceLeDiff]
            refine ⟨⟨by rw [ints_length]; omega, ones_ints _, by omega, by omega⟩, ?_⟩
            refine Go.retG hte hE hf [1, 3] rfl (by simp [go_sem, tsI, slI, I, renL_ints, blk_ren, en_live, en_dead, ints_length, ints_nil, ints_one]) rfl (by rw [h0]; rfl) (by simp [go_sem, tsI, slI, I, renL_ints, blk_ren, en_live, en_dead, ints_length, ints_nil, ints_one])
          · have dy : decide ((24 : Int) < ((dg (B)).length : Int)) = true := decide_eq_true (by omega)
            have hE' := bad (fun h => hy h.2.2)
            refine Go.run hte hn 100 ?_; simp only [go_sem, Nat.reduceBEq, Nat.reduceLT, Nat.reduceAdd, Nat.reduceMul, Nat.reduceLeDiff, dx, dy]
            refine Go.virt 3 ?_
            refine Go.nilcell 0 1 1 1 rfl rfl ?_
            refine Go.virt 3 ?_
            refine Go.nilcell 0 2 2 1 rfl rfl ?_
            simp only [go_sem, Nat.reduceBEq, Nat.reduceLT, Nat.reduceAdd, Nat.reduceMul, Nat.reduceLeDiff]
            refine Go.retG hte hE' hf [1, 2] rfl (by simp [go_sem, tsI, slI, I, renL_ints, blk_ren, en_live, en_dead, ints_length, ints_nil, ints_one]) rfl (by rw [h0]; rfl) (by simp [go_sem, tsI, slI, I, renL_ints, blk_ren, en_live, en_dead, ints_length, ints_nil, ints_one])
        · have dx : decide ((24 : Int) < ((dg (A)).length : Int)) = true := decide_eq_true (by omega)
          have hE' := bad (fun h => hx h.2.1)
          refine Go.run hte hn 100 ?_; simp only [go_sem, Nat.reduceBEq, Nat.reduceLT, Nat.reduceAdd, Nat.reduceMul, Nat.reduceLeDiff, dx]
          refine Go.virt 3 ?_
          refine Go.nilcell 0 1 1 1 rfl rfl ?_
          refine Go.virt 3 ?_
          refine Go.nilcell 0 2 2 1 rfl rfl ?_
          simp only [go_sem, Nat.reduceBEq, Nat.reduceLT, Nat.reduceAdd, Nat.reduceMul, Nat.reduceLeDiff]
          refine Go.retG hte hE' hf [1, 2] rfl (by simp [go_sem, tsI, slI, I, renL_ints, blk_ren, en_live, en_dead, ints_length, ints_nil, ints_one]) rfl (by rw [h0]; rfl) (by simp [go_sem, tsI, slI, I, renL_ints, blk_ren, en_live, en_dead, ints_length, ints_nil, ints_one])
      · rw [decide_eq_false hg]
        refine Go.run hte hn 100 ?_; simp only [go_sem, Nat.reduceBEq, Nat.reduceLT, Nat.reduceAdd, Nat.reduceMul, Nat.reduceLeDiff]
        refine Go.call0 hP (l02Div_c A (Nat.gcd A B) hg0 (by omega) (by omega)) rfl rfl rfl (by omega) (by simp [go_sem, tsI, slI, I, renL_ints, blk_ren, en_live, en_dead, ints_length, ints_nil, ints_one]) ?_
        refine Go.run hte hn 100 ?_; simp only [go_sem, Nat.reduceBEq, Nat.reduceLT, Nat.reduceAdd, Nat.reduceMul, Nat.reduceLeDiff]
        refine Go.call0 hP (l02Div_c B (Nat.gcd A B) hg0 (by omega) (by omega)) rfl rfl rfl (by omega) (by simp [go_sem, tsI, slI, I, renL_ints, blk_ren, en_live, en_dead, ints_length, ints_nil, ints_one]) ?_
        by_cases hx : (dg (A / Nat.gcd A B)).length ≤ 24
        · have dx : decide ((24 : Int) < ((dg (A / Nat.gcd A B)).length : Int)) = false := decide_eq_false (by omega)
          by_cases hy : (dg (B / Nat.gcd A B)).length ≤ 24
          · have dy : decide ((24 : Int) < ((dg (B / Nat.gcd A B)).length : Int)) = false := decide_eq_false (by omega)
            have hok : lwOk A B = true := by unfold lwOk; rw [decide_eq_true hB, decide_eq_true hx, decide_eq_true hy]; rfl
            unfold lwB lwN lwD at hE
            rw [hok, Bool.true_and, if_pos rfl, if_pos rfl] at hE
            have hcap : capped (dg (A / Nat.gcd A B)) = dg (A / Nat.gcd A B) := by unfold capped; rw [trim_dg, if_neg (by omega)]
            have C2 := l03Make_c s (dg (A / Nat.gcd A B)) (by omega)
            rw [hcap] at C2
            refine Go.run hte hn 100 ?_; simp only [go_sem, Nat.reduceBEq, Nat.reduceLT, Nat.reduceAdd, Nat.reduceMul, Nat.reduceLeDiff, dx, dy]
            refine Go.call0 hP (C2) rfl rfl rfl (by omega) (by simp [go_sem, tsI, slI, I, renL_ints, blk_ren, en_live, en_dead, ints_length, ints_nil, ints_one]) ?_
            refine Go.run hte hn 100 ?_; simp only [go_sem, Nat.reduceBEq, Nat.reduceLT, Nat.reduceAdd, Nat.reduceMul, Nat.reduceLeDiff]
            refine ⟨⟨by rw [ints_length]; omega, ones_ints _, by omega, by omega⟩, ?_⟩
            refine Go.retG hte hE hf [1, 3] rfl (by simp [go_sem, tsI, slI, I, renL_ints, blk_ren, en_live, en_dead, ints_length, ints_nil, ints_one]) rfl (by rw [h0]; rfl) (by simp [go_sem, tsI, slI, I, renL_ints, blk_ren, en_live, en_dead, ints_length, ints_nil, ints_one])
          · have dy : decide ((24 : Int) < ((dg (B / Nat.gcd A B)).length : Int)) = true := decide_eq_true (by omega)
            have hE' := bad (fun h => hy h.2.2)
            refine Go.run hte hn 100 ?_; simp only [go_sem, Nat.reduceBEq, Nat.reduceLT, Nat.reduceAdd, Nat.reduceMul, Nat.reduceLeDiff, dx, dy]
            refine Go.virt 3 ?_
            refine Go.nilcell 0 1 1 1 rfl rfl ?_
            refine Go.virt 3 ?_
            refine Go.nilcell 0 2 2 1 rfl rfl ?_
            simp only [go_sem, Nat.reduceBEq, Nat.reduceLT, Nat.reduceAdd, Nat.reduceMul, Nat.reduceLeDiff]
            refine Go.retG hte hE' hf [1, 2] rfl (by simp [go_sem, tsI, slI, I, renL_ints, blk_ren, en_live, en_dead, ints_length, ints_nil, ints_one]) rfl (by rw [h0]; rfl) (by simp [go_sem, tsI, slI, I, renL_ints, blk_ren, en_live, en_dead, ints_length, ints_nil, ints_one])
        · have dx : decide ((24 : Int) < ((dg (A / Nat.gcd A B)).length : Int)) = true := decide_eq_true (by omega)
          have hE' := bad (fun h => hx h.2.1)
          refine Go.run hte hn 100 ?_; simp only [go_sem, Nat.reduceBEq, Nat.reduceLT, Nat.reduceAdd, Nat.reduceMul, Nat.reduceLeDiff, dx]
          refine Go.virt 3 ?_
          refine Go.nilcell 0 1 1 1 rfl rfl ?_
          refine Go.virt 3 ?_
          refine Go.nilcell 0 2 2 1 rfl rfl ?_
          simp only [go_sem, Nat.reduceBEq, Nat.reduceLT, Nat.reduceAdd, Nat.reduceMul, Nat.reduceLeDiff]
          refine Go.retG hte hE' hf [1, 2] rfl (by simp [go_sem, tsI, slI, I, renL_ints, blk_ren, en_live, en_dead, ints_length, ints_nil, ints_one]) rfl (by rw [h0]; rfl) (by simp [go_sem, tsI, slI, I, renL_ints, blk_ren, en_live, en_dead, ints_length, ints_nil, ints_one])

end Go.Proofs.Ytbblhgldfcodfaa.Ab
