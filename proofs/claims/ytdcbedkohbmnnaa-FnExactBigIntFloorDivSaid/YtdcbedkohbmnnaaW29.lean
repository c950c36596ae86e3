/- Contracts of the given program's functions and of the reference's (walks). -/
import Derived.Test.YtdcbedkohbmnnaaAbT
import Derived.Test.YtdcbedkohbmnnaaAbP
import Derived.Test.YtdcbedkohbmnnaaAbN
import Derived.Test.YtdcbedkohbmnnaaAbD
import Derived.Test.YtdcbedkohbmnnaaAbK
import Derived.Test.YtdcbedkohbmnnaaW1
import Derived.Test.YtdcbedkohbmnnaaW2
import Derived.Test.YtdcbedkohbmnnaaW3
import Derived.Test.YtdcbedkohbmnnaaW4
import Derived.Test.YtdcbedkohbmnnaaW6
import Derived.Test.YtdcbedkohbmnnaaW7
import Derived.Test.YtdcbedkohbmnnaaW9
import Derived.Test.YtdcbedkohbmnnaaT1
import Derived.Test.YtdcbedkohbmnnaaW11
import Derived.Test.YtdcbedkohbmnnaaW12
import Derived.Test.YtdcbedkohbmnnaaW13
import Derived.Test.YtdcbedkohbmnnaaW21
import Derived.Test.YtdcbedkohbmnnaaW22
import Derived.Test.YtdcbedkohbmnnaaW24
import Derived.Test.YtdcbedkohbmnnaaW25
import Derived.Test.YtdcbedkohbmnnaaW26
import Derived.Test.YtdcbedkohbmnnaaW28
set_option linter.unusedVariables false
set_option linter.unusedSimpArgs false
set_option maxRecDepth 10000
namespace Go.Proofs.Ytdcbedkohbmnnaa.Ab
open Go Go.RowKit
attribute [local go_sem] q_run q_seq q_skip q_block q_exit q_cond q_region q_nil q_op q_blk q_loop q_ret q_open q_inv q_fin q_go q_h0 q_h1 q_gskip q_stepC q_brt q_brf q_stepX q_sskip q_sskip0 q_val q_need q_new q_newc q_sv q_sto q_c1 q_c2 q_c3 q_c4 q_c5 q_c6 q_c7 q_c8 q_c9 q_c10 q_c11 q_c12 q_c13 q_c14 q_c15 q_c16 q_c17 q_c18 q_c19 q_c20 q_c21 q_c22 q_g0 q_g1 q_gC q_gD q_gE q_gB1 q_gB2 q_gB3 q_gB4 q_ev1 q_ev2 q_ev3 q_evo0 q_evo1 q_rv q_rva q_o1 q_o2 q_pk1 q_pk2 q_ld1p q_ld1e q_ld1t q_ldnp q_ldne q_ldnt q_sub0 q_sub1 q_subc q_stS q_stT q_box q_bldr q_bld q_fill0 q_fill1 q_fillB q_bsr q_bsl q_fap q_fat q_iasl q_iats q_lnsl q_lnts q_lnv q_lnS q_exA q_mkB q_lo0 q_lo1 q_hi0 q_hi1 q_slcA q_slcU1 q_slcU2 q_slcT1 q_slcT2 q_slsA q_slsU q_slsT q_apA q_apC q_srcE1 q_srcE2 q_srcE3 q_srcA1 q_srcB q_srcA2 q_srcA3 q_fnA q_nc1 q_nc2 q_bin q_bin2 q_bin3 q_bin4 q_bin5 q_bin6 q_bin7 q_bin8 q_bin9 q_bin10 q_i1 q_i2 q_i3 q_i4 q_i5 q_i6 q_i7 q_i8 q_i9 q_i10 q_i11 q_s1 q_s2 q_s3 q_u1 q_u2 q_min q_max q_ce1 q_ce2 q_ce3 q_ce4 q_ce5 q_ce6 q_ce7 q_ce8 q_ce9 q_ce10 q_ce11 q_on2 q_on3 q_on4 q_on5 q_on6 q_on7 q_on8 q_on9 q_on10 q_on11 q_enr1 q_gEt q_zr0 q_zr1 q_zgs q_zgg q_zk1 q_zk2 q_zd q_zv1 q_zv2 q_zv3 q_zp1 q_zp2 q_zf q_zs1 q_zs2 q_za q_za1 q_fi0 q_fi1 q_ln0 q_ln1 q_h01 q_h02 q_h03 q_h04 q_h05 q_h06 q_h07 q_h08 q_h09 q_h10 q_h11 q_h12 q_h13 q_h14 q_h15 q_h16 q_h17 q_h18 q_h19 q_h20 q_h21 q_h22 q_h23 q_h24 q_al q_b0 q_rs1 q_rs2 q_rs3 q_rs4 q_rs5 q_rs6 q_rs7 q_rs8 q_ro1 q_ro2 q_ro3 q_ro4 q_ro5 q_ro6 q_ro7 q_ro8 cond_true cond_false decide_true decide_false List.length_cons List.length_nil List.nil_append List.cons_append true_and and_true List.toList_toArray Option.map_some Nat.zero_add Nat.add_zero Bool.and_self Bool.and_true Bool.true_and Bool.and_false Bool.false_and Bool.not_true Bool.not_false FitF FitL LendL wb keys nodupB firstOk tupA op_move op_assign op_pick op_un op_box op_nc op_mf op_ex op_min op_max get put del nth evs evp sets setN ones popTo args0 AV.ren AV.renL rho List.take_succ_cons List.take_zero List.drop_succ_cons List.drop_zero Option.isNone_none Option.isNone_some o_al35 o_al37 o_ap22 o_bi22 o_bi3 o_bi4 o_bi69 o_bi88 o_bs22_0 o_bs22_1 o_bs22_3 o_bu35 o_bu37 o_bu95 o_cn3 o_cn88 o_cv3_88 o_cv88_3 o_fa30_0 o_fa30_1 o_fa32_0 o_fa32_1 o_fa35_0 o_fa35_1 o_fa37_0 o_fa37_1 o_fa95_0 o_fa95_1 o_ia22 o_ia58 o_ia61 o_ia78 o_ib4 o_ip69 o_ld22 o_ld3 o_ld30 o_ld32 o_ld35 o_ld37 o_ld4 o_ld69 o_ln22 o_ln58 o_ln61 o_mk22 o_mk61 o_mk78 o_sl22 o_st22 o_st3 o_st35 o_st37 o_st4 o_st69 o_zb22 o_zb58 o_zb61 o_zb78 I tsI slI renL_ints blk_ren en_live en_dead List.set_cons_zero List.set_cons_succ List.map_cons List.map_nil List.append_nil frzF frzS AV.frz AV.frzL frzL_ints ints_all ints_all' ints_take1 ints_mk ints_mk1 mk_length res_ints resOk_ints plain_ints plainA plainL plainE plainS List.all_cons List.all_nil bigO bigT ratO ratT
/-! ### A quotient rounded down -/
def fdOk (s : Bool) (a m : List Int) : Bool := bok s a && nok m && decide (0 < m.length)
def fdQ (s : Bool) (a m : List Int) : Nat := if s = true ∧ val a % val m ≠ 0 then val a / val m + 1 else val a / val m
def fdV (s : Bool) (a m : List Int) : Nat := if s = true ∧ val a % val m ≠ 0 then val m - val a % val m else val a % val m
def fdB (s : Bool) (a m : List Int) : Bool := fdOk s a m && (s && decide (0 < (dg (fdQ s a m)).length))
def fdL (s : Bool) (a m : List Int) : List Int := if fdOk s a m then dg (fdQ s a m) else []
def fdR (s : Bool) (a m : List Int) : List Int := if fdOk s a m then dg (fdV s a m) else []
theorem bok_nok {s : Bool} {a : List Int} (h : bok s a = true) : nok a = true := by
  unfold bok at h
  simp only [Bool.and_eq_true] at h
  exact h.1
theorem fd_le {s : Bool} {a m : List Int} (h : fdOk s a m = true) : (dg (fdQ s a m)).length ≤ 60 ∧ (dg (fdV s a m)).length ≤ 60 := by
  unfold fdOk at h
  simp only [Bool.and_eq_true, decide_eq_true_eq] at h
  have ha := bok_nok h.1.1
  have hm := h.1.2
  have la : (dg (val a)).length ≤ 60 := by rw [nok_dg ha]; exact nok_len ha
  have lm : (dg (val m)).length ≤ 60 := by rw [nok_dg hm]; exact nok_len hm
  have hm0 := nok_val hm h.2
  have hr : val a % val m < val m := Nat.mod_lt _ (Nat.pos_of_ne_zero hm0)
  have hd : val m * (val a / val m) + val a % val m = val a := Nat.div_add_mod _ _
  have h1 : 1 * (val a / val m) ≤ val m * (val a / val m) := Nat.mul_le_mul_right _ (Nat.pos_of_ne_zero hm0)
  constructor
  · refine Nat.le_trans (dg_len_mono (n := val a) ?_) la
    unfold fdQ
    split <;> omega
  · refine Nat.le_trans (dg_len_mono (n := val m) ?_) lm
    unfold fdV
    split <;> omega
theorem fdL_le (s : Bool) (a m : List Int) : (fdL s a m).length ≤ 60 := by
  unfold fdL
  split
  · rename_i h; exact (fd_le h).1
  · simp
theorem fdR_le (s : Bool) (a m : List Int) : (fdR s a m).length ≤ 60 := by
  unfold fdR
  split
  · rename_i h; exact (fd_le h).2
  · simp
theorem spec_BigIntFloorDiv_c (s : Bool) (a m : List Int) (ha : a.length ≤ 1152921504606846976) (hm : m.length ≤ 1152921504606846976) : AC Try.prog 29 [bigT s a, tsI m] [] (.tup [bigO (fdB s a m) 0 (fdL s a m), tsI (fdR s a m)]) [.live ⟨3, ints (fdL s a m)⟩] := by
  refine AC.intro (fn := Try.f29) (c := ?_) 48 Try.func29 (by rfl) (by kernel_rfl) (by kernel_rfl) (Nat.le_of_ble_eq_true rfl) fun e hP hf hn h0 hE => ?_
  have hte : TEok e.P te := hP ▸ teOk
  have hmx : e.P.follows .mixedOrders = true := hP ▸ mixedOk
  have bad : fdOk s a m = false → Ends e (.tup [bigO false 0 [], tsI []]) [.live ⟨3, ints []⟩] := by
    intro h
    unfold fdB fdL fdR at hE
    rw [h, Bool.false_and, if_neg (by simp), if_neg (by simp)] at hE
    exact hE
  refine Go.run hte hn 100 ?_; simp only [go_sem, Nat.reduceBEq, Nat.reduceLT, Nat.reduceAdd, Nat.reduceMul, Nat.reduceLeDiff]
  refine Go.call0 hP (spec_BigIntOk_c s a ha) rfl rfl rfl (by omega) (by simp [go_sem, tsI, slI, I, renL_ints, blk_ren, en_live, en_dead, ints_length, ints_nil, ints_one]) ?_
  cases h1 : bok s a
  · have hE' := bad (by unfold fdOk; rw [h1]; rfl)
    refine Go.run hte hn 100 ?_; simp only [go_sem, Nat.reduceBEq, Nat.reduceLT, Nat.reduceAdd, Nat.reduceMul, Nat.reduceLeDiff, h1]
    refine Go.virt 3 ?_
    refine Go.nilcell 1 1 2 1 rfl rfl ?_
    refine Go.nilts 5 rfl ?_
    simp only [go_sem, Nat.reduceBEq, Nat.reduceLT, Nat.reduceAdd, Nat.reduceMul, Nat.reduceLeDiff]
    refine Go.retG hte hE' hf [2] rfl (by simp [go_sem, tsI, slI, I, renL_ints, blk_ren, en_live, en_dead, ints_length, ints_nil, ints_one]) rfl (by rw [h0]; rfl) (by simp [go_sem, tsI, slI, I, renL_ints, blk_ren, en_live, en_dead, ints_length, ints_nil, ints_one])
  · refine Go.run hte hn 100 ?_; simp only [go_sem, Nat.reduceBEq, Nat.reduceLT, Nat.reduceAdd, Nat.reduceMul, Nat.reduceLeDiff, h1]
    refine Go.call0 hP (spec_NatOk_c m hm) rfl rfl rfl (by omega) (by simp [go_sem, tsI, slI, I, renL_ints, blk_ren, en_live, en_dead, ints_length, ints_nil, ints_one]) ?_
    cases h2 : nok m
    · have hE' := bad (by unfold fdOk; rw [h1, h2]; rfl)
      refine Go.run hte hn 100 ?_; simp only [go_sem, Nat.reduceBEq, Nat.reduceLT, Nat.reduceAdd, Nat.reduceMul, Nat.reduceLeDiff, h2]
      refine Go.virt 3 ?_
      refine Go.nilcell 1 1 2 1 rfl rfl ?_
      refine Go.nilts 5 rfl ?_
      simp only [go_sem, Nat.reduceBEq, Nat.reduceLT, Nat.reduceAdd, Nat.reduceMul, Nat.reduceLeDiff]
      refine Go.retG hte hE' hf [2] rfl (by simp [go_sem, tsI, slI, I, renL_ints, blk_ren, en_live, en_dead, ints_length, ints_nil, ints_one]) rfl (by rw [h0]; rfl) (by simp [go_sem, tsI, slI, I, renL_ints, blk_ren, en_live, en_dead, ints_length, ints_nil, ints_one])
    · by_cases h3 : 0 < m.length
      · have d3 : decide ((m.length : Int) = 0) = false := decide_eq_false (by omega)
        have hok : fdOk s a m = true := by unfold fdOk; rw [h1, h2, decide_eq_true h3]; rfl
        have hle := fd_le hok
        unfold fdB fdL fdR at hE
        rw [hok, Bool.true_and, if_pos rfl, if_pos rfl] at hE
        have ha' := bok_nok h1
        have la := nok_len ha'
        have lm := nok_len h2
        have hm0 := nok_val h2 h3
        have C := l02Div_c (val a) (val m) hm0 (by rw [nok_dg ha']; omega) (by rw [nok_dg h2]; omega)
        rw [nok_dg ha', nok_dg h2] at C
        refine Go.run hte hn 100 ?_; simp only [go_sem, Nat.reduceBEq, Nat.reduceLT, Nat.reduceAdd, Nat.reduceMul, Nat.reduceLeDiff, h2, d3]
        refine Go.call0 hP (C) rfl rfl rfl (by omega) (by simp [go_sem, tsI, slI, I, renL_ints, blk_ren, en_live, en_dead, ints_length, ints_nil, ints_one]) ?_
        by_cases hr : s = true ∧ val a % val m ≠ 0
        · obtain ⟨hs, hr0⟩ := hr
          subst hs
          have dr : decide ((0 : Int) < ((dg (val a % val m)).length : Int)) = true := decide_eq_true (by have := dg_ne hr0; omega)
          have hq : fdQ true a m = val a / val m + 1 := by unfold fdQ; rw [if_pos ⟨rfl, hr0⟩]
          have hv : fdV true a m = val m - val a % val m := by unfold fdV; rw [if_pos ⟨rfl, hr0⟩]
          rw [hq, hv] at hE hle
          have lq : (dg (val a / val m)).length ≤ 60 := Nat.le_trans (dg_len_mono (Nat.le_succ _)) hle.1
          have D1 : Dig [(1 : Int)] := Dig_cons.mpr ⟨by omega, Dig_nil⟩
          have C1 := l02Add_c (dg (val a / val m)) [1] (dg_Dig _) D1 (by omega) (by simp)
          have al := addL_len (dg (val a / val m)) [1]
          have hcap : capped (addL (dg (val a / val m)) [1]) = dg (val a / val m + 1) := by
            have := addL_trim (dg_Dig (val a / val m)) D1
            rw [val_dg] at this
            unfold capped
            rw [this, show val [(1 : Int)] = 1 from rfl, if_neg (by omega)]
          have C2 := l03Make_c true (addL (dg (val a / val m)) [1]) (by simp only [List.length_cons, List.length_nil] at al; omega)
          rw [hcap] at C2
          have hrm : val a % val m < val m := Nat.mod_lt _ (Nat.pos_of_ne_zero hm0)
          have C3 := l02Sub_c m (dg (val a % val m)) (nok_Dig h2) (dg_Dig _) (by omega) (by have := dg_len_mono (Nat.le_of_lt hrm); rw [nok_dg h2] at this; exact this) (by rw [val_dg]; omega)
          rw [val_dg] at C3
          refine Go.run hte hn 100 ?_; simp only [go_sem, Nat.reduceBEq, Nat.reduceLT, Nat.reduceAdd, Nat.reduceMul, Nat.reduceLeDiff, dr]
          refine Go.freeze (nm := 2) rfl ?_; simp only [go_sem, Nat.reduceBEq, Nat.reduceLT, Nat.reduceAdd, Nat.reduceMul, Nat.reduceLeDiff]
          refine Go.call0 hP (C1) rfl rfl rfl (by omega) (by simp [go_sem, tsI, slI, I, renL_ints, blk_ren, en_live, en_dead, ints_length, ints_nil, ints_one]) ?_
          refine Go.run hte hn 100 ?_; simp only [go_sem, Nat.reduceBEq, Nat.reduceLT, Nat.reduceAdd, Nat.reduceMul, Nat.reduceLeDiff]
          refine Go.freeze (nm := 3) rfl ?_; simp only [go_sem, Nat.reduceBEq, Nat.reduceLT, Nat.reduceAdd, Nat.reduceMul, Nat.reduceLeDiff]
          refine Go.call0 hP (C2) rfl rfl rfl (by omega) (by simp [go_sem, tsI, slI, I, renL_ints, blk_ren, en_live, en_dead, ints_length, ints_nil, ints_one]) ?_
          refine Go.run hte hn 100 ?_; simp only [go_sem, Nat.reduceBEq, Nat.reduceLT, Nat.reduceAdd, Nat.reduceMul, Nat.reduceLeDiff]
          refine Go.call0 hP (C3) rfl rfl rfl (by omega) (by simp [go_sem, tsI, slI, I, renL_ints, blk_ren, en_live, en_dead, ints_length, ints_nil, ints_one]) ?_
          refine Go.run hte hn 100 ?_; simp only [go_sem, Nat.reduceBEq, Nat.reduceLT, Nat.reduceAdd, Nat.reduceMul, Nat.reduceLeDiff]
          refine Go.retG hte hE hf [4] rfl (by simp [go_sem, tsI, slI, I, renL_ints, blk_ren, en_live, en_dead, ints_length, ints_nil, ints_one]) rfl (by rw [h0]; rfl) (by simp [go_sem, tsI, slI, I, renL_ints, blk_ren, en_live, en_dead, ints_length, ints_nil, ints_one])
        · have hq : fdQ s a m = val a / val m := by unfold fdQ; rw [if_neg hr]
          have hv : fdV s a m = val a % val m := by unfold fdV; rw [if_neg hr]
          rw [hq, hv] at hE hle
          have hcap : capped (dg (val a / val m)) = dg (val a / val m) := by unfold capped; rw [trim_dg, if_neg (by omega)]
          have C2 := l03Make_c s (dg (val a / val m)) (by omega)
          rw [hcap] at C2
          cases s
          · refine Go.run hte hn 100 ?_; simp only [go_sem, Nat.reduceBEq, Nat.reduceLT, Nat.reduceAdd, Nat.reduceMul, Nat.reduceLeDiff]
            refine Go.call0 hP (C2) rfl rfl rfl (by omega) (by simp [go_sem, tsI, slI, I, renL_ints, blk_ren, en_live, en_dead, ints_length, ints_nil, ints_one]) ?_
            refine Go.run hte hn 100 ?_; simp only [go_sem, Nat.reduceBEq, Nat.reduceLT, Nat.reduceAdd, Nat.reduceMul, Nat.reduceLeDiff]
            refine Go.retG hte hE hf [2] rfl (by simp [go_sem, tsI, slI, I, renL_ints, blk_ren, en_live, en_dead, ints_length, ints_nil, ints_one]) rfl (by rw [h0]; rfl) (by simp [go_sem, tsI, slI, I, renL_ints, blk_ren, en_live, en_dead, ints_length, ints_nil, ints_one])
          · have hr0 : val a % val m = 0 := by
              rcases Nat.eq_zero_or_pos (val a % val m) with h | h
              · exact h
              · exact absurd ⟨rfl, by omega⟩ hr
            have dr : decide ((0 : Int) < ((dg (val a % val m)).length : Int)) = false := decide_eq_false (by rw [hr0, dg_zero]; simp)
            refine Go.run hte hn 100 ?_; simp only [go_sem, Nat.reduceBEq, Nat.reduceLT, Nat.reduceAdd, Nat.reduceMul, Nat.reduceLeDiff, dr]
            refine Go.call0 hP (C2) rfl rfl rfl (by omega) (by simp [go_sem, tsI, slI, I, renL_ints, blk_ren, en_live, en_dead, ints_length, ints_nil, ints_one]) ?_
            refine Go.run hte hn 100 ?_; simp only [go_sem, Nat.reduceBEq, Nat.reduceLT, Nat.reduceAdd, Nat.reduceMul, Nat.reduceLeDiff]
            refine Go.retG hte hE hf [2] rfl (by simp [go_sem, tsI, slI, I, renL_ints, blk_ren, en_live, en_dead, ints_length, ints_nil, ints_one]) rfl (by rw [h0]; rfl) (by simp [go_sem, tsI, slI, I, renL_ints, blk_ren, en_live, en_dead, ints_length, ints_nil, ints_one])
      · have hE' := bad (by unfold fdOk; rw [decide_eq_false h3]; simp)
        have d3 : decide ((m.length : Int) = 0) = true := decide_eq_true (by omega)
        refine Go.run hte hn 100 ?_; simp only [go_sem, Nat.reduceBEq, Nat.reduceLT, Nat.reduceAdd, Nat.reduceMul, Nat.reduceLeDiff, h2, d3]
        refine Go.virt 3 ?_
        refine Go.nilcell 1 1 2 1 rfl rfl ?_
        refine Go.nilts 5 rfl ?_
        simp only [go_sem, Nat.reduceBEq, Nat.reduceLT, Nat.reduceAdd, Nat.reduceMul, Nat.reduceLeDiff]
        refine Go.retG hte hE' hf [2] rfl (by simp [go_sem, tsI, slI, I, renL_ints, blk_ren, en_live, en_dead, ints_length, ints_nil, ints_one]) rfl (by rw [h0]; rfl) (by simp [go_sem, tsI, slI, I, renL_ints, blk_ren, en_live, en_dead, ints_length, ints_nil, ints_one])
theorem impl_BigIntFloorDiv_c (s : Bool) (a m : List Int) (ha : a.length ≤ 1152921504606846976) (hm : m.length ≤ 1152921504606846976) : AC Try.prog 31 [bigT s a, tsI m] [] (.tup [bigO (fdB s a m) 0 (fdL s a m), slI 1 (fdR s a m)]) [.live ⟨3, ints (fdL s a m)⟩, .live ⟨3, ints (fdR s a m)⟩] := by
  refine AC.intro (fn := Try.f31) (c := ?_) 51 Try.func31 (by rfl) (by kernel_rfl) (by kernel_rfl) (Nat.le_of_ble_eq_true rfl) fun e hP hf hn h0 hE => ?_
  have hte : TEok e.P te := hP ▸ teOk
  have hmx : e.P.follows .mixedOrders = true := hP ▸ mixedOk
  have bad : fdOk s a m = false → Ends e (.tup [bigO false 0 [], slI 1 []]) [.live ⟨3, ints []⟩, .live ⟨3, ints []⟩] := by
    intro h
    unfold fdB fdL fdR at hE
    rw [h, Bool.false_and, if_neg (by simp), if_neg (by simp)] at hE
    exact hE
  refine Go.run hte hn 100 ?_; simp only [go_sem, Nat.reduceBEq, Nat.reduceLT, Nat.reduceAdd, Nat.reduceMul, Nat.reduceLeDiff]
  refine Go.call0 hP (impl_BigIntOk_c s a ha) rfl rfl rfl (by omega) (by simp [go_sem, tsI, slI, I, renL_ints, blk_ren, en_live, en_dead, ints_length, ints_nil, ints_one]) ?_
  cases h1 : bok s a
  · have hE' := bad (by unfold fdOk; rw [h1]; rfl)
    refine Go.run hte hn 100 ?_; simp only [go_sem, Nat.reduceBEq, Nat.reduceLT, Nat.reduceAdd, Nat.reduceMul, Nat.reduceLeDiff, h1]
    refine Go.virt 3 ?_
    refine Go.nilcell 1 1 2 1 rfl rfl ?_
    refine Go.virt 3 ?_
    refine Go.nilsl 5 3 1 rfl ?_
    simp only [go_sem, Nat.reduceBEq, Nat.reduceLT, Nat.reduceAdd, Nat.reduceMul, Nat.reduceLeDiff]
    refine Go.retG hte hE' hf [2, 3] rfl (by simp [go_sem, tsI, slI, I, renL_ints, blk_ren, en_live, en_dead, ints_length, ints_nil, ints_one]) rfl (by rw [h0]; rfl) (by simp [go_sem, tsI, slI, I, renL_ints, blk_ren, en_live, en_dead, ints_length, ints_nil, ints_one])
  · refine Go.run hte hn 100 ?_; simp only [go_sem, Nat.reduceBEq, Nat.reduceLT, Nat.reduceAdd, Nat.reduceMul, Nat.reduceLeDiff, h1]
    refine Go.call0 hP (impl_NatOk_c m hm) rfl rfl rfl (by omega) (by simp [go_sem, tsI, slI, I, renL_ints, blk_ren, en_live, en_dead, ints_length, ints_nil, ints_one]) ?_
    cases h2 : nok m
    · have hE' := bad (by unfold fdOk; rw [h1, h2]; rfl)
      refine Go.run hte hn 100 ?_; simp only [go_sem, Nat.reduceBEq, Nat.reduceLT, Nat.reduceAdd, Nat.reduceMul, Nat.reduceLeDiff, h2]
      refine Go.virt 3 ?_
      refine Go.nilcell 1 1 2 1 rfl rfl ?_
      refine Go.virt 3 ?_
      refine Go.nilsl 5 3 1 rfl ?_
      simp only [go_sem, Nat.reduceBEq, Nat.reduceLT, Nat.reduceAdd, Nat.reduceMul, Nat.reduceLeDiff]
      refine Go.retG hte hE' hf [2, 3] rfl (by simp [go_sem, tsI, slI, I, renL_ints, blk_ren, en_live, en_dead, ints_length, ints_nil, ints_one]) rfl (by rw [h0]; rfl) (by simp [go_sem, tsI, slI, I, renL_ints, blk_ren, en_live, en_dead, ints_length, ints_nil, ints_one])
    · by_cases h3 : 0 < m.length
      · have d3 : decide ((m.length : Int) = 0) = false := decide_eq_false (by omega)
        have hok : fdOk s a m = true := by unfold fdOk; rw [h1, h2, decide_eq_true h3]; rfl
        have hle := fd_le hok
        unfold fdB fdL fdR at hE
        rw [hok, Bool.true_and, if_pos rfl, if_pos rfl] at hE
        have ha' := bok_nok h1
        have la := nok_len ha'
        have lm := nok_len h2
        have hm0 := nok_val h2 h3
        have C := over_c (val a) (val m) hm0 (by rw [nok_dg ha']; omega) (by rw [nok_dg h2]; omega)
        rw [nok_dg ha', nok_dg h2] at C
        refine Go.run hte hn 100 ?_; simp only [go_sem, Nat.reduceBEq, Nat.reduceLT, Nat.reduceAdd, Nat.reduceMul, Nat.reduceLeDiff, h2, d3]
        refine Go.call0 hP (C) rfl rfl rfl (by omega) (by simp [go_sem, tsI, slI, I, renL_ints, blk_ren, en_live, en_dead, ints_length, ints_nil, ints_one]) ?_
        by_cases hr : s = true ∧ val a % val m ≠ 0
        · obtain ⟨hs, hr0⟩ := hr
          subst hs
          have dr : decide ((0 : Int) < ((dg (val a % val m)).length : Int)) = true := decide_eq_true (by have := dg_ne hr0; omega)
          have hq : fdQ true a m = val a / val m + 1 := by unfold fdQ; rw [if_pos ⟨rfl, hr0⟩]
          have hv : fdV true a m = val m - val a % val m := by unfold fdV; rw [if_pos ⟨rfl, hr0⟩]
          rw [hq, hv] at hE hle
          have lq : (dg (val a / val m)).length ≤ 60 := Nat.le_trans (dg_len_mono (Nat.le_succ _)) hle.1
          have D1 : Dig [(1 : Int)] := Dig_cons.mpr ⟨by omega, Dig_nil⟩
          have C1 := plusO_c (dg (val a / val m)) [1] (dg_Dig _) D1 (by omega) (by simp)
          rw [val_dg, show val [(1 : Int)] = 1 from rfl] at C1
          have hrm : val a % val m < val m := Nat.mod_lt _ (Nat.pos_of_ne_zero hm0)
          have C3 := minusO_c m (dg (val a % val m)) (nok_Dig h2) (dg_Dig _) (by omega) (by have := dg_len_mono (Nat.le_of_lt hrm); rw [nok_dg h2] at this; exact this) (by rw [val_dg]; omega)
          rw [val_dg] at C3
          have d60 : decide ((60 : Int) < ((dg (val a / val m + 1)).length : Int)) = false := decide_eq_false (by omega)
          have C4 := signedO_c true (dg (val a / val m + 1))
          refine Go.run hte hn 100 ?_; simp only [go_sem, Nat.reduceBEq, Nat.reduceLT, Nat.reduceAdd, Nat.reduceMul, Nat.reduceLeDiff, dr]
          refine Go.freeze (nm := 2) rfl ?_; simp only [go_sem, Nat.reduceBEq, Nat.reduceLT, Nat.reduceAdd, Nat.reduceMul, Nat.reduceLeDiff]
          refine Go.freeze (nm := 3) rfl ?_; simp only [go_sem, Nat.reduceBEq, Nat.reduceLT, Nat.reduceAdd, Nat.reduceMul, Nat.reduceLeDiff]
          refine Go.freeze (nm := 4) rfl ?_; simp only [go_sem, Nat.reduceBEq, Nat.reduceLT, Nat.reduceAdd, Nat.reduceMul, Nat.reduceLeDiff]
          refine Go.call0 hP (C1) rfl rfl rfl (by omega) (by simp [go_sem, tsI, slI, I, renL_ints, blk_ren, en_live, en_dead, ints_length, ints_nil, ints_one]) ?_
          refine Go.run hte hn 100 ?_; simp only [go_sem, Nat.reduceBEq, Nat.reduceLT, Nat.reduceAdd, Nat.reduceMul, Nat.reduceLeDiff]
          refine Go.call0 hP (C3) rfl rfl rfl (by omega) (by simp [go_sem, tsI, slI, I, renL_ints, blk_ren, en_live, en_dead, ints_length, ints_nil, ints_one]) ?_
          refine Go.run hte hn 100 ?_; simp only [go_sem, Nat.reduceBEq, Nat.reduceLT, Nat.reduceAdd, Nat.reduceMul, Nat.reduceLeDiff, d60]
          refine Go.call hP (C4) [5] rfl rfl rfl (by omega) (by simp [go_sem, tsI, slI, I, renL_ints, blk_ren, en_live, en_dead, ints_length, ints_nil, ints_one]) (Lend.mk' rfl (by simp [go_sem, tsI, slI, I, renL_ints, blk_ren, en_live, en_dead, ints_length, ints_nil, ints_one])) ?_
          refine Go.run hte hn 100 ?_; simp only [go_sem, Nat.reduceBEq, Nat.reduceLT, Nat.reduceAdd, Nat.reduceMul, Nat.reduceLeDiff]
          refine Go.retG hte hE hf [5, 6] rfl (by simp [go_sem, tsI, slI, I, renL_ints, blk_ren, en_live, en_dead, ints_length, ints_nil, ints_one]) rfl (by rw [h0]; rfl) (by simp [go_sem, tsI, slI, I, renL_ints, blk_ren, en_live, en_dead, ints_length, ints_nil, ints_one])
        · have hq : fdQ s a m = val a / val m := by unfold fdQ; rw [if_neg hr]
          have hv : fdV s a m = val a % val m := by unfold fdV; rw [if_neg hr]
          rw [hq, hv] at hE hle
          have d60 : decide ((60 : Int) < ((dg (val a / val m)).length : Int)) = false := decide_eq_false (by omega)
          have C4 := signedO_c s (dg (val a / val m))
          cases s
          · refine Go.run hte hn 100 ?_; simp only [go_sem, Nat.reduceBEq, Nat.reduceLT, Nat.reduceAdd, Nat.reduceMul, Nat.reduceLeDiff, d60]
            refine Go.call hP (C4) [2] rfl rfl rfl (by omega) (by simp [go_sem, tsI, slI, I, renL_ints, blk_ren, en_live, en_dead, ints_length, ints_nil, ints_one]) (Lend.mk' rfl (by simp [go_sem, tsI, slI, I, renL_ints, blk_ren, en_live, en_dead, ints_length, ints_nil, ints_one])) ?_
            refine Go.run hte hn 100 ?_; simp only [go_sem, Nat.reduceBEq, Nat.reduceLT, Nat.reduceAdd, Nat.reduceMul, Nat.reduceLeDiff]
            refine Go.retG hte hE hf [2, 3] rfl (by simp [go_sem, tsI, slI, I, renL_ints, blk_ren, en_live, en_dead, ints_length, ints_nil, ints_one]) rfl (by rw [h0]; rfl) (by simp [go_sem, tsI, slI, I, renL_ints, blk_ren, en_live, en_dead, ints_length, ints_nil, ints_one])
          · have hr0 : val a % val m = 0 := by
              rcases Nat.eq_zero_or_pos (val a % val m) with h | h
              · exact h
              · exact absurd ⟨rfl, by omega⟩ hr
            have dr : decide ((0 : Int) < ((dg (val a % val m)).length : Int)) = false := decide_eq_false (by rw [hr0, dg_zero]; simp)
            refine Go.run hte hn 100 ?_; simp only [go_sem, Nat.reduceBEq, Nat.reduceLT, Nat.reduceAdd, Nat.reduceMul, Nat.reduceLeDiff, dr, d60]
            refine Go.call hP (C4) [2] rfl rfl rfl (by omega) (by simp [go_sem, tsI, slI, I, renL_ints, blk_ren, en_live, en_dead, ints_length, ints_nil, ints_one]) (Lend.mk' rfl (by simp [go_sem, tsI, slI, I, renL_ints, blk_ren, en_live, en_dead, ints_length, ints_nil, ints_one])) ?_
            refine Go.run hte hn 100 ?_; simp only [go_sem, Nat.reduceBEq, Nat.reduceLT, Nat.reduceAdd, Nat.reduceMul, Nat.reduceLeDiff]
            refine Go.retG hte hE hf [2, 3] rfl (by simp [go_sem, tsI, slI, I, renL_ints, blk_ren, en_live, en_dead, ints_length, ints_nil, ints_one]) rfl (by rw [h0]; rfl) (by simp [go_sem, tsI, slI, I, renL_ints, blk_ren, en_live, en_dead, ints_length, ints_nil, ints_one])
      · have hE' := bad (by unfold fdOk; rw [decide_eq_false h3]; simp)
        have d3 : decide ((m.length : Int) = 0) = true := decide_eq_true (by omega)
        refine Go.run hte hn 100 ?_; simp only [go_sem, Nat.reduceBEq, Nat.reduceLT, Nat.reduceAdd, Nat.reduceMul, Nat.reduceLeDiff, h2, d3]
        refine Go.virt 3 ?_
        refine Go.nilcell 1 1 2 1 rfl rfl ?_
        refine Go.virt 3 ?_
        refine Go.nilsl 5 3 1 rfl ?_
        simp only [go_sem, Nat.reduceBEq, Nat.reduceLT, Nat.reduceAdd, Nat.reduceMul, Nat.reduceLeDiff]
        refine Go.retG hte hE' hf [2, 3] rfl (by simp [go_sem, tsI, slI, I, renL_ints, blk_ren, en_live, en_dead, ints_length, ints_nil, ints_one]) rfl (by rw [h0]; rfl) (by simp [go_sem, tsI, slI, I, renL_ints, blk_ren, en_live, en_dead, ints_length, ints_nil, ints_one])

end Go.Proofs.Ytdcbedkohbmnnaa.Ab
