/- Contracts of the given program's functions and of the reference's (walks). -/
import Derived.Test.YtjnlpomfjlpikaaDoorAbT
import Derived.Test.YtjnlpomfjlpikaaDoorAbP
import Derived.Test.YtjnlpomfjlpikaaDoorAbQ
import Derived.Test.YtjnlpomfjlpikaaDoorAbS
import Derived.Test.YtjnlpomfjlpikaaDoorAbI
import Derived.Test.YtjnlpomfjlpikaaDoorW1
import Derived.Test.YtjnlpomfjlpikaaDoorW2
import Derived.Test.YtjnlpomfjlpikaaDoorW4
import Derived.Test.YtjnlpomfjlpikaaDoorW8
import Derived.Test.YtjnlpomfjlpikaaDoorW9
import Derived.Test.YtjnlpomfjlpikaaDoorT1
import Derived.Test.YtjnlpomfjlpikaaDoorW54
import Derived.Test.YtjnlpomfjlpikaaDoorW60
import Derived.Test.YtjnlpomfjlpikaaDoorW61
import Derived.Test.YtjnlpomfjlpikaaDoorW62
import Derived.Test.YtjnlpomfjlpikaaDoorW63
import Derived.Test.YtjnlpomfjlpikaaDoorW64
import Derived.Test.YtjnlpomfjlpikaaDoorW65
import Derived.Test.YtjnlpomfjlpikaaDoorW66
import Derived.Test.YtjnlpomfjlpikaaDoorW72
import Derived.Test.YtjnlpomfjlpikaaDoorW73
import Derived.Test.YtjnlpomfjlpikaaDoorW75
set_option linter.unusedVariables false
set_option linter.unusedSimpArgs false
set_option maxRecDepth 10000
namespace Go.Proofs.YtjnlpomfjlpikaaDoor.Ab
open Go Go.RowKit
attribute [local go_sem] q_run q_seq q_skip q_block q_exit q_cond q_region q_nil q_op q_blk q_loop q_ret q_open q_inv q_fin q_go q_h0 q_h1 q_gskip q_stepC q_brt q_brf q_stepX q_sskip q_sskip0 q_val q_need q_new q_newc q_sv q_sto q_c1 q_c2 q_c3 q_c4 q_c5 q_c6 q_c7 q_c8 q_c9 q_c10 q_c11 q_c12 q_c13 q_c14 q_c15 q_c16 q_c17 q_c18 q_c19 q_c20 q_c21 q_c22 q_g0 q_g1 q_gC q_gD q_gE q_gB1 q_gB2 q_gB3 q_gB4 q_ev1 q_ev2 q_ev3 q_evo0 q_evo1 q_rv q_rva q_o1 q_o2 q_pk1 q_pk2 q_ld1p q_ld1e q_ld1t q_ldnp q_ldne q_ldnt q_sub0 q_sub1 q_subc q_stS q_stT q_box q_bldr q_bld q_fill0 q_fill1 q_fillB q_bsr q_bsl q_fap q_fat q_iasl q_iats q_lnsl q_lnts q_lnv q_lnS q_exA q_mkB q_lo0 q_lo1 q_hi0 q_hi1 q_slcA q_slcU1 q_slcU2 q_slcT1 q_slcT2 q_slsA q_slsU q_slsT q_apA q_apC q_srcE1 q_srcE2 q_srcE3 q_srcA1 q_srcB q_srcA2 q_srcA3 q_fnA q_nc1 q_nc2 q_bin q_bin2 q_bin3 q_bin4 q_bin5 q_bin6 q_bin7 q_bin8 q_bin9 q_bin10 q_i1 q_i2 q_i3 q_i4 q_i5 q_i6 q_i7 q_i8 q_i9 q_i10 q_i11 q_s1 q_s2 q_s3 q_u1 q_u2 q_min q_max q_ce1 q_ce2 q_ce3 q_ce4 q_ce5 q_ce6 q_ce7 q_ce8 q_ce9 q_ce10 q_ce11 q_on2 q_on3 q_on4 q_on5 q_on6 q_on7 q_on8 q_on9 q_on10 q_on11 q_enr1 q_gEt q_zr0 q_zr1 q_zgs q_zgg q_zk1 q_zk2 q_zd q_zv1 q_zv2 q_zv3 q_zp1 q_zp2 q_zf q_zs1 q_zs2 q_za q_za1 q_fi0 q_fi1 q_ln0 q_ln1 q_h01 q_h02 q_h03 q_h04 q_h05 q_h06 q_h07 q_h08 q_h09 q_h10 q_h11 q_h12 q_h13 q_h14 q_h15 q_h16 q_h17 q_h18 q_h19 q_h20 q_h21 q_h22 q_h23 q_h24 q_al q_b0 q_rs1 q_rs2 q_rs3 q_rs4 q_rs5 q_rs6 q_rs7 q_rs8 q_ro1 q_ro2 q_ro3 q_ro4 q_ro5 q_ro6 q_ro7 q_ro8 q_ixS q_cvS1 q_cvN q_u8s0 q_u8s1 q_u8s2 q_strS q_h25 q_shr q_i12 q_i13 q_bn q_bn0 q_bn1 q_zbn q_zn cond_true cond_false decide_true decide_false List.length_cons List.length_nil List.nil_append List.cons_append true_and and_true List.toList_toArray Option.map_some Nat.zero_add Nat.add_zero Bool.and_self Bool.and_true Bool.true_and Bool.and_false Bool.false_and Bool.not_true Bool.not_false FitF FitL LendL wb keys nodupB firstOk tupA op_move op_assign op_pick op_un op_box op_nc op_mf op_ex op_min op_max get put del nth evs evp sets setN ones popTo args0 AV.ren AV.renL rho List.take_succ_cons List.take_zero List.drop_succ_cons List.drop_zero Option.isNone_none Option.isNone_some o_al134 o_al29 o_al75 o_ap22 o_ap34 o_ap41 o_bi121 o_bi2 o_bi21 o_bi3 o_bi4 o_bi5 o_bi73 o_bi79 o_bi9 o_bi96 o_bs22_0 o_bs22_1 o_bs34_1 o_bs41_0 o_bs41_1 o_bs41_5 o_bu120 o_bu134 o_bu29 o_bu78 o_cn121 o_cn2 o_cn21 o_cn3 o_cn5 o_cn79 o_cn96 o_cv121_5 o_cv121_79 o_cv121_96 o_cv2_96 o_cv34_9 o_cv3_5 o_cv3_79 o_cv3_96 o_cv5_121 o_cv5_21 o_cv5_3 o_cv5_96 o_cv79_121 o_cv79_3 o_cv96_121 o_cv96_2 o_cv96_5 o_fa134_0 o_fa134_1 o_fa29_0 o_fa29_1 o_fa51_0 o_fa51_1 o_fa75_0 o_fa75_1 o_fa78_0 o_fa78_1 o_fa78_2 o_ia22 o_ia34 o_ia41 o_ib4 o_ip73 o_ip90 o_ix9 o_ld134 o_ld22 o_ld29 o_ld3 o_ld34 o_ld4 o_ld5 o_ld51 o_ld73 o_ld9 o_ld96 o_ln22 o_ln34 o_ln41 o_ln9 o_mk22 o_mk34 o_mk41 o_sl22 o_sl34 o_sl41 o_sl9 o_st134 o_st22 o_st29 o_st3 o_st34 o_st4 o_st5 o_st73 o_st9 o_zb22 o_zb34 o_zb41 I tsI slI renL_ints blk_ren en_live en_dead List.set_cons_zero List.set_cons_succ List.map_cons List.map_nil List.append_nil frzF frzS AV.frz AV.frzL frzL_ints ints_all ints_all' ints_take1 ints_mk ints_mk1 mk_length res_ints resOk_ints plain_ints plainA plainL plainE plainS List.all_cons List.all_nil bigO bigT ratO ratT strT slS renL_strs frzL_strs res_strs resOk_strs plain_strs strs_all strs_all' strs_length
/-! ### impl.ParseNat -/
/-- Zeros at the end of a row of one's own. -/
theorem trimO_c (a : List Int) (ha : a.length ≤ 1152921504606846976) : AC Tryd.prog 46 [slI 0 a] [.live ⟨3, ints a⟩] (slI 0 (trim a)) [.live ⟨3, ints (trim a)⟩] := by
  refine AC.intro (fn := Tryd.f46) (c := ?_) 21 Tryd.func46 (by rfl) (by kernel_rfl) (by kernel_rfl) (Nat.le_of_ble_eq_true rfl) fun e hP hf hn h0 hE => ?_
  have hte : TEok e.P te := hP ▸ teOk
  have hmx : e.P.follows .mixedOrders = true := hP ▸ mixedOk
  refine Go.run hte hn 100 ?_; simp only [go_sem, Nat.reduceBEq, Nat.reduceLT, Nat.reduceAdd, Nat.reduceMul, Nat.reduceLeDiff]
  refine Go.enter (fun i : Nat => i ≤ a.length ∧ trimTo a i = trim a) (fun i => i) (fun i => [(0, .sl 0 0 i 1)]) (fun i => [.live ⟨3, ints a⟩]) a.length [0] ⟨Nat.le_refl _, rfl⟩ rfl rfl (by rw [h0]; rfl) (by simp [go_sem, tsI, slI, I, renL_ints, blk_ren, en_live, en_dead, ints_length, ints_nil, ints_one]) (by simp [go_sem, tsI, slI, I, renL_ints, blk_ren, en_live, en_dead, ints_length, ints_nil, ints_one]) ?_
  rintro i ⟨hi, hv⟩
  cases i with
  | zero =>
    refine Go.run hte hn 100 ?_; simp only [go_sem, Nat.reduceBEq, Nat.reduceLT, Nat.reduceAdd, Nat.reduceMul, Nat.reduceLeDiff, Int.natCast_zero, Int.lt_irrefl]
    refine Go.fewer 0 0 rfl ?_
    simp only [go_sem, Nat.reduceBEq, Nat.reduceLT, Nat.reduceAdd, Nat.reduceMul, Nat.reduceLeDiff, ints_take]
    refine Go.retG hte hE hf [0] rfl ?_ rfl (by rw [h0]; rfl) ?_
    · rw [← hv]
      simp [go_sem, tsI, slI, I, renL_ints, blk_ren, en_live, en_dead, ints_length, ints_nil, ints_one, trimTo]
    · rw [← hv]
      simp [go_sem, tsI, slI, I, renL_ints, blk_ren, en_live, en_dead, ints_length, ints_nil, ints_one, trimTo]
  | succ j =>
    have e1 : IntKind.i64.wrap (((j + 1 : Nat) : Int) - 1) = (j : Int) := by rw [W64] <;> omega
    have d1 : decide ((0 : Int) < ((j + 1 : Nat) : Int)) = true := decide_eq_true (by omega)
    have c0 : (0 ≤ (j : Int)) = True := eq_true (by omega)
    have c1 : ((j : Int) < ((j + 1 : Nat) : Int)) = True := eq_true (by omega)
    have c2 : (0 < (ints a).length) = True := eq_true (by rw [ints_length]; omega)
    refine Go.run hte hn 100 ?_; simp only [go_sem, Nat.reduceBEq, Nat.reduceLT, Nat.reduceAdd, Nat.reduceMul, Nat.reduceLeDiff, d1, e1, c0, c1, c2, Int.toNat_natCast, Nat.mul_one, nth_ints (show j < a.length by omega)]
    refine Br.mk (fun hz => ?_) (fun hz => ?_)
    · refine ⟨by omega, ?_⟩
      refine Go.round j [0] ⟨by omega, ?_⟩ (Nat.lt_succ_self j) rfl rfl (by rw [h0]; rfl) (by simp [go_sem, tsI, slI, I, renL_ints, blk_ren, en_live, en_dead, ints_length, ints_nil, ints_one]) (by simp [go_sem, tsI, slI, I, renL_ints, blk_ren, en_live, en_dead, ints_length, ints_nil, ints_one])
      rw [← hv, trimTo, if_pos (of_decide_eq_true hz)]
    · have hv' : a.take (j + 1) = trim a := by rw [← hv, trimTo, if_neg (of_decide_eq_false hz)]
      have hl : (trim a).length = j + 1 := by rw [← hv', List.length_take]; omega
      refine Go.fewer 0 (j + 1) rfl ?_
      simp only [go_sem, Nat.reduceBEq, Nat.reduceLT, Nat.reduceAdd, Nat.reduceMul, Nat.reduceLeDiff, ints_take, hv']
      refine Go.retG hte hE hf [0] rfl (by simp [go_sem, tsI, slI, I, renL_ints, blk_ren, en_live, en_dead, ints_length, ints_nil, ints_one, hl]) rfl (by rw [h0]; rfl) (by simp [go_sem, tsI, slI, I, renL_ints, blk_ren, en_live, en_dead, ints_length, ints_nil, ints_one])
theorem impl_ParseNat_cv (s : ByteArray) (hs : s.size ≤ 1048576) : ACv PhiE Tryd.prog 12 [.v (.string s)] (.tup [slI 0 (pnL s), .v (.bool (pnB s))]) [.live ⟨3, ints (pnL s)⟩] := by
  refine ACv.intro (fn := Tryd.f12) (c := ?_) 43 Tryd.func12 (by rfl) (by kernel_rfl) (by kernel_rfl) (Nat.le_of_ble_eq_true rfl) fun e hP hf hn h0 hw0 hE => ?_
  have hte : TEok e.P te := hP ▸ teOk
  have hmx : e.P.follows .mixedOrders = true := hP ▸ mixedOk
  have hsz : s.size = s.data.toList.length := size_eq s
  refine Go.run hte hn 100 ?_; simp only [go_sem, Nat.reduceBEq, Nat.reduceLT, Nat.reduceAdd, Nat.reduceMul, Nat.reduceLeDiff]
  refine Go.call0 hP (impl_IsDigits_c s hs) rfl rfl rfl (by omega) (by simp [go_sem, tsI, slI, I, renL_ints, blk_ren, en_live, en_dead, ints_length, ints_nil, ints_one]) ?_
  have no : pnB s = false → Ends e (.tup [slI 0 [], .v (.bool false)]) [.live ⟨3, ints []⟩] := fun h => by
    unfold pnL at hE
    rw [h, if_neg (by decide)] at hE
    exact hE
  cases hdg : isDig s
  · have hE' := no (by unfold pnB; rw [hdg]; rfl)
    refine Go.run hte hn 100 ?_; simp only [go_sem, Nat.reduceBEq, Nat.reduceLT, Nat.reduceAdd, Nat.reduceMul, Nat.reduceLeDiff]
    refine Go.virt 3 ?_
    simp only [go_sem, Nat.reduceBEq, Nat.reduceLT, Nat.reduceAdd, Nat.reduceMul, Nat.reduceLeDiff]
    refine Go.nilsl 2 0 1 rfl ?_
    simp only [go_sem, Nat.reduceBEq, Nat.reduceLT, Nat.reduceAdd, Nat.reduceMul, Nat.reduceLeDiff]
    refine Go.retG hte hE' hf [0] rfl (by simp [go_sem, tsI, slI, I, renL_ints, blk_ren, en_live, en_dead, ints_length, ints_nil, ints_one]) rfl (by rw [h0]; rfl) (by simp [go_sem, tsI, slI, I, renL_ints, blk_ren, en_live, en_dead, ints_length, ints_nil, ints_one])
  obtain ⟨hd, hne⟩ := (isDig_iff s).1 hdg
  by_cases h540 : 540 < s.size
  · have d1 : decide ((540 : Int) < (s.size : Int)) = true := decide_eq_true (by omega)
    have hE' := no (by unfold pnB; rw [decide_eq_false (show ¬ s.size ≤ 540 by omega), Bool.and_false, Bool.false_and])
    refine Go.run hte hn 100 ?_; simp only [go_sem, Nat.reduceBEq, Nat.reduceLT, Nat.reduceAdd, Nat.reduceMul, Nat.reduceLeDiff, d1]
    refine Go.virt 3 ?_
    simp only [go_sem, Nat.reduceBEq, Nat.reduceLT, Nat.reduceAdd, Nat.reduceMul, Nat.reduceLeDiff]
    refine Go.nilsl 2 0 1 rfl ?_
    simp only [go_sem, Nat.reduceBEq, Nat.reduceLT, Nat.reduceAdd, Nat.reduceMul, Nat.reduceLeDiff]
    refine Go.retG hte hE' hf [0] rfl (by simp [go_sem, tsI, slI, I, renL_ints, blk_ren, en_live, en_dead, ints_length, ints_nil, ints_one]) rfl (by rw [h0]; rfl) (by simp [go_sem, tsI, slI, I, renL_ints, blk_ren, en_live, en_dead, ints_length, ints_nil, ints_one])
  have d1 : decide ((540 : Int) < (s.size : Int)) = false := decide_eq_false (by omega)
  refine Go.run hte hn 100 ?_; simp only [go_sem, Nat.reduceBEq, Nat.reduceLT, Nat.reduceAdd, Nat.reduceMul, Nat.reduceLeDiff, d1]
  refine Go.virt 3 ?_
  simp only [go_sem, Nat.reduceBEq, Nat.reduceLT, Nat.reduceAdd, Nat.reduceMul, Nat.reduceLeDiff]
  refine Go.nilsl 4 0 1 rfl ?_
  simp only [go_sem, Nat.reduceBEq, Nat.reduceLT, Nat.reduceAdd, Nat.reduceMul, Nat.reduceLeDiff]
  refine Go.enter (fun p : List Int × Int => p.1 ++ cw s.data.toList p.2.toNat = cw s.data.toList s.size ∧ -9 ≤ p.2 ∧ p.2 ≤ s.size) (fun p => p.2.toNat) (fun p => [(0, .v (.string s)), (4, slI 0 p.1), (5, I p.2)]) (fun p => [.live ⟨3, ints p.1⟩]) ([], (s.size : Int)) [0] ⟨by simp, by omega, by omega⟩ rfl rfl (by rw [h0]; rfl) (by simp [go_sem, tsI, slI, I, renL_ints, blk_ren, en_live, en_dead, ints_length, ints_nil, ints_one]) (by simp [go_sem, tsI, slI, I, renL_ints, blk_ren, en_live, en_dead, ints_length, ints_nil, ints_one]) ?_
  rintro ⟨out, E⟩ ⟨hout, hE1, hE2⟩
  simp only at hout hE1 hE2
  by_cases hpos : 0 < E
  · obtain ⟨q, rfl⟩ : ∃ q : Nat, E = (q : Int) := ⟨E.toNat, by omega⟩
    have dA : decide ((0 : Int) < (q : Int)) = true := decide_eq_true (by omega)
    have w1 : IntKind.i64.wrap ((q : Int) - 9) = (q : Int) - 9 := by rw [W64] <;> omega
    have em : (if (0 : Int) > (q : Int) - 9 then (0 : Int) else (q : Int) - 9) = ((q - 9 : Nat) : Int) := by
      split <;> omega
    have hq : q ≤ s.data.toList.length := by omega
    have hcl : (s.extract (q - 9) q).data.toList = (s.data.toList.take q).drop (q - 9) := by rw [ext_list, List.drop_take]
    have hcd := chunk_dgt hd q
    have hlt := chunk_lt hd q hq
    have hcn := chunk_len s.data.toList q hq
    have hcne : (s.data.toList.take q).drop (q - 9) ≠ [] := fun h0 => by
      have := congrArg List.length h0
      rw [List.length_drop, List.length_take] at this
      simp at this
      omega
    have hat := atoi_dgt hcd hcne (by omega)
    have hst := cw_pos s.data.toList (e := q) (by omega)
    rw [Int.toNat_natCast] at hout
    rw [hst] at hout
    rw [← hcl] at hat hcn hlt hout
    have hcsz : (s.extract (q - 9) q).size ≤ 1048576 := by rw [size_eq]; omega
    obtain ⟨g1, g2, g3⟩ := cw_facts hd s.size (by omega)
    have hol : out.length ≤ 70 := by
      have := congrArg List.length hout
      rw [List.length_append, List.length_cons] at this
      omega
    refine Go.run hte hn 100 ?_; simp only [go_sem, Nat.reduceBEq, Nat.reduceLT, Nat.reduceAdd, Nat.reduceMul, Nat.reduceLeDiff, dA, w1, em, Int.toNat_natCast]
    refine ⟨⟨by omega, by omega, by omega⟩, ?_⟩
    generalize s.extract (q - 9) q = ch at hat hcn hlt hout hcsz
    generalize valF 0 ch.data.toList = n at hat hlt hout
    refine Go.call0x hP h0 stays_E hw0 (strconv_Atoi_cx ch hcsz) rfl rfl rfl (by omega) (by simp [go_sem, tsI, slI, I, renL_ints, blk_ren, en_live, en_dead, ints_length, ints_nil, ints_one]) ?_
    rintro x (⟨v, hc, _, _, rfl⟩ | ⟨hno, _⟩)
    · rw [hat] at hc
      injection hc with hc
      subst hc
      refine Go.run hte hn 100 ?_; simp only [go_sem, Nat.reduceBEq, Nat.reduceLT, Nat.reduceAdd, Nat.reduceMul, Nat.reduceLeDiff, w1]
      refine ⟨⟨by rw [ints_length]; omega, by omega, by omega⟩, ?_⟩
      rw [ints_snoc]
      refine Go.round (out ++ [(n : Int)], (q : Int) - 9) [2] ⟨?_, by simp only; omega, by simp only; omega⟩ (by simp only; omega) rfl rfl (by rw [h0]; rfl) (by simp [go_sem, tsI, slI, I, renL_ints, blk_ren, en_live, en_dead, ints_length, ints_nil, ints_one]) (by simp [go_sem, tsI, slI, I, renL_ints, blk_ren, en_live, en_dead, ints_length, ints_nil, ints_one])
      simp only
      rw [show ((q : Int) - 9).toNat = q - 9 by omega, List.append_assoc]
      exact hout
    · exact absurd hat (hno _)
  · have dA : decide ((0 : Int) < E) = false := decide_eq_false (by omega)
    have h00 : E.toNat = 0 := by omega
    rw [h00, cw_zero, List.append_nil] at hout
    subst hout
    refine Go.run hte hn 100 ?_; simp only [go_sem, Nat.reduceBEq, Nat.reduceLT, Nat.reduceAdd, Nat.reduceMul, Nat.reduceLeDiff, dA]
    obtain ⟨g1, g2, g3⟩ := cw_facts hd s.size (by omega)
    have htr : trim (cw s.data.toList s.size) = dg (valF 0 s.data.toList) := by
      rw [trim_dg_val g1, g2, List.take_of_length_le (by omega)]
    have hlen : (cw s.data.toList s.size).length ≤ 70 := by omega
    have CT := trimO_c (cw s.data.toList s.size) (by omega)
    have htl := trim_le (cw s.data.toList s.size)
    rw [htr] at CT htl
    generalize cw s.data.toList s.size = out at CT hlen htl
    refine Go.call hP (CT) [0] rfl rfl rfl (by omega) (by simp [go_sem, tsI, slI, I, renL_ints, blk_ren, en_live, en_dead, ints_length, ints_nil, ints_one]) (Lend.mk' rfl (by simp [go_sem, tsI, slI, I, renL_ints, blk_ren, en_live, en_dead, ints_length, ints_nil, ints_one])) ?_
    refine Go.run hte hn 100 ?_; simp only [go_sem, Nat.reduceBEq, Nat.reduceLT, Nat.reduceAdd, Nat.reduceMul, Nat.reduceLeDiff]
    have CN := impl_natText_cw (dg (valF 0 s.data.toList)) (fun z hz => by have := dg_Dig _ z hz; omega) (by omega)
    rw [ntL_dg] at CN
    refine Go.callBv 2 hP h0 (stays_E) hw0 ((CN.weak (Φ := PhiE) (fun _ h => h.1)).toV) rfl rfl rfl (by omega) (by first | (simp only [go_sem, Nat.reduceBEq, Nat.reduceLT, Nat.reduceAdd, Nat.reduceMul, Nat.reduceLeDiff]; done) | simp [go_sem, tsI, slI, I, renL_ints, blk_ren, en_live, en_dead, ints_length, ints_nil, ints_one]) (by first | (simp only [go_sem, Nat.reduceBEq, Nat.reduceLT, Nat.reduceAdd, Nat.reduceMul, Nat.reduceLeDiff]; done) | simp [go_sem, tsI, slI, I, renL_ints, blk_ren, en_live, en_dead, ints_length, ints_nil, ints_one]) (by first | (simp only [go_sem, Nat.reduceBEq, Nat.reduceLT, Nat.reduceAdd, Nat.reduceMul, Nat.reduceLeDiff]; done) | simp [go_sem, tsI, slI, I, renL_ints, blk_ren, en_live, en_dead, ints_length, ints_nil, ints_one]) (by first | (simp only [go_sem, Nat.reduceBEq, Nat.reduceLT, Nat.reduceAdd, Nat.reduceMul, Nat.reduceLeDiff]; done) | simp [go_sem, tsI, slI, I, renL_ints, blk_ren, en_live, en_dead, ints_length, ints_nil, ints_one]) ?_
    have e1 : ((⟨(Lib.decDigits (valF 0 s.data.toList)).toArray⟩ : ByteArray).toList == s.toList) = decide (Lib.decDigits (valF 0 s.data.toList) = s.data.toList) := seq_dec _ _
    have hsame := dd_same hdg
    by_cases he : Lib.decDigits (valF 0 s.data.toList) = s.data.toList
    · rw [decide_eq_true he] at e1
      have hp : pnB s = true := by
        unfold pnB
        rw [hdg, decide_eq_true (show s.size ≤ 540 by omega)]
        have := hsame.1 he
        by_cases h1 : 1 < s.size
        · by_cases h2 : byteAt s 0 = 48
          · exact absurd ⟨h1, h2⟩ this
          · simp [h2]
        · simp [h1]
      unfold pnL at hE
      rw [hp, if_pos rfl] at hE
      refine Go.run hte hn 100 ?_; simp only [go_sem, Nat.reduceBEq, Nat.reduceLT, Nat.reduceAdd, Nat.reduceMul, Nat.reduceLeDiff, e1]
      refine Go.retG hte hE hf [0] rfl (by simp [go_sem, tsI, slI, I, renL_ints, blk_ren, en_live, en_dead, ints_length, ints_nil, ints_one]) rfl (by rw [h0]; rfl) (by simp [go_sem, tsI, slI, I, renL_ints, blk_ren, en_live, en_dead, ints_length, ints_nil, ints_one])
    · rw [decide_eq_false he] at e1
      have hp : pnB s = false := by
        unfold pnB
        have h3 : 1 < s.size ∧ byteAt s 0 = 48 := Decidable.byContradiction fun h => he (hsame.2 h)
        rw [decide_eq_true h3.1, decide_eq_true h3.2]
        simp
      have hE' := no hp
      refine Go.run hte hn 100 ?_; simp only [go_sem, Nat.reduceBEq, Nat.reduceLT, Nat.reduceAdd, Nat.reduceMul, Nat.reduceLeDiff, e1]
      refine Go.virt 3 ?_
      simp only [go_sem, Nat.reduceBEq, Nat.reduceLT, Nat.reduceAdd, Nat.reduceMul, Nat.reduceLeDiff]
      refine Go.nilsl 2 1 1 rfl ?_
      simp only [go_sem, Nat.reduceBEq, Nat.reduceLT, Nat.reduceAdd, Nat.reduceMul, Nat.reduceLeDiff]
      refine Go.retG hte hE' hf [1] rfl (by simp [go_sem, tsI, slI, I, renL_ints, blk_ren, en_live, en_dead, ints_length, ints_nil, ints_one]) rfl (by rw [h0]; rfl) (by simp [go_sem, tsI, slI, I, renL_ints, blk_ren, en_live, en_dead, ints_length, ints_nil, ints_one])

end Go.Proofs.YtjnlpomfjlpikaaDoor.Ab
