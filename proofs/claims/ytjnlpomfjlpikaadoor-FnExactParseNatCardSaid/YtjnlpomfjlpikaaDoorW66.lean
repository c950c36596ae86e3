/- Contracts of the given program's functions and of the reference's (walks). -/
import Derived.Test.YtjnlpomfjlpikaaDoorAbT
import Derived.Test.YtjnlpomfjlpikaaDoorAbP
import Derived.Test.YtjnlpomfjlpikaaDoorAbQ
import Derived.Test.YtjnlpomfjlpikaaDoorAbS
import Derived.Test.YtjnlpomfjlpikaaDoorAbI
import Derived.Test.YtjnlpomfjlpikaaDoorW60
import Derived.Test.YtjnlpomfjlpikaaDoorW61
import Derived.Test.YtjnlpomfjlpikaaDoorW62
import Derived.Test.YtjnlpomfjlpikaaDoorW63
import Derived.Test.YtjnlpomfjlpikaaDoorW64
import Derived.Test.YtjnlpomfjlpikaaDoorW65
set_option linter.unusedVariables false
set_option linter.unusedSimpArgs false
set_option maxRecDepth 10000
namespace Go.Proofs.YtjnlpomfjlpikaaDoor.Ab
open Go Go.RowKit
attribute [local go_sem] q_run q_seq q_skip q_block q_exit q_cond q_region q_nil q_op q_blk q_loop q_ret q_open q_inv q_fin q_go q_h0 q_h1 q_gskip q_stepC q_brt q_brf q_stepX q_sskip q_sskip0 q_val q_need q_new q_newc q_sv q_sto q_c1 q_c2 q_c3 q_c4 q_c5 q_c6 q_c7 q_c8 q_c9 q_c10 q_c11 q_c12 q_c13 q_c14 q_c15 q_c16 q_c17 q_c18 q_c19 q_c20 q_c21 q_c22 q_g0 q_g1 q_gC q_gD q_gE q_gB1 q_gB2 q_gB3 q_gB4 q_ev1 q_ev2 q_ev3 q_evo0 q_evo1 q_rv q_rva q_o1 q_o2 q_pk1 q_pk2 q_ld1p q_ld1e q_ld1t q_ldnp q_ldne q_ldnt q_sub0 q_sub1 q_subc q_stS q_stT q_box q_bldr q_bld q_fill0 q_fill1 q_fillB q_bsr q_bsl q_fap q_fat q_iasl q_iats q_lnsl q_lnts q_lnv q_lnS q_exA q_mkB q_lo0 q_lo1 q_hi0 q_hi1 q_slcA q_slcU1 q_slcU2 q_slcT1 q_slcT2 q_slsA q_slsU q_slsT q_apA q_apC q_srcE1 q_srcE2 q_srcE3 q_srcA1 q_srcB q_srcA2 q_srcA3 q_fnA q_nc1 q_nc2 q_bin q_bin2 q_bin3 q_bin4 q_bin5 q_bin6 q_bin7 q_bin8 q_bin9 q_bin10 q_i1 q_i2 q_i3 q_i4 q_i5 q_i6 q_i7 q_i8 q_i9 q_i10 q_i11 q_s1 q_s2 q_s3 q_u1 q_u2 q_min q_max q_ce1 q_ce2 q_ce3 q_ce4 q_ce5 q_ce6 q_ce7 q_ce8 q_ce9 q_ce10 q_ce11 q_on2 q_on3 q_on4 q_on5 q_on6 q_on7 q_on8 q_on9 q_on10 q_on11 q_enr1 q_gEt q_zr0 q_zr1 q_zgs q_zgg q_zk1 q_zk2 q_zd q_zv1 q_zv2 q_zv3 q_zp1 q_zp2 q_zf q_zs1 q_zs2 q_za q_za1 q_fi0 q_fi1 q_ln0 q_ln1 q_h01 q_h02 q_h03 q_h04 q_h05 q_h06 q_h07 q_h08 q_h09 q_h10 q_h11 q_h12 q_h13 q_h14 q_h15 q_h16 q_h17 q_h18 q_h19 q_h20 q_h21 q_h22 q_h23 q_h24 q_al q_b0 q_rs1 q_rs2 q_rs3 q_rs4 q_rs5 q_rs6 q_rs7 q_rs8 q_ro1 q_ro2 q_ro3 q_ro4 q_ro5 q_ro6 q_ro7 q_ro8 q_ixS q_cvS1 q_cvN q_u8s0 q_u8s1 q_u8s2 q_strS q_h25 q_shr q_i12 q_i13 q_bn q_bn0 q_bn1 q_zbn q_zn cond_true cond_false decide_true decide_false List.length_cons List.length_nil List.nil_append List.cons_append true_and and_true List.toList_toArray Option.map_some Nat.zero_add Nat.add_zero Bool.and_self Bool.and_true Bool.true_and Bool.and_false Bool.false_and Bool.not_true Bool.not_false FitF FitL LendL wb keys nodupB firstOk tupA op_move op_assign op_pick op_un op_box op_nc op_mf op_ex op_min op_max get put del nth evs evp sets setN ones popTo args0 AV.ren AV.renL rho List.take_succ_cons List.take_zero List.drop_succ_cons List.drop_zero Option.isNone_none Option.isNone_some o_al134 o_al29 o_al75 o_ap22 o_ap34 o_ap41 o_bi121 o_bi2 o_bi21 o_bi3 o_bi4 o_bi5 o_bi73 o_bi79 o_bi9 o_bi96 o_bs22_0 o_bs22_1 o_bs34_1 o_bs41_0 o_bs41_1 o_bs41_5 o_bu120 o_bu134 o_bu29 o_bu78 o_cn121 o_cn2 o_cn21 o_cn3 o_cn5 o_cn79 o_cn96 o_cv121_5 o_cv121_79 o_cv121_96 o_cv2_96 o_cv34_9 o_cv3_5 o_cv3_79 o_cv3_96 o_cv5_121 o_cv5_21 o_cv5_3 o_cv5_96 o_cv79_121 o_cv79_3 o_cv96_121 o_cv96_2 o_cv96_5 o_fa134_0 o_fa134_1 o_fa29_0 o_fa29_1 o_fa51_0 o_fa51_1 o_fa75_0 o_fa75_1 o_fa78_0 o_fa78_1 o_fa78_2 o_ia22 o_ia34 o_ia41 o_ib4 o_ip73 o_ip90 o_ix9 o_ld134 o_ld22 o_ld29 o_ld3 o_ld34 o_ld4 o_ld5 o_ld51 o_ld73 o_ld9 o_ld96 o_ln22 o_ln34 o_ln41 o_ln9 o_mk22 o_mk34 o_mk41 o_sl22 o_sl34 o_sl41 o_sl9 o_st134 o_st22 o_st29 o_st3 o_st34 o_st4 o_st5 o_st73 o_st9 o_zb22 o_zb34 o_zb41 I tsI slI renL_ints blk_ren en_live en_dead List.set_cons_zero List.set_cons_succ List.map_cons List.map_nil List.append_nil frzF frzS AV.frz AV.frzL frzL_ints ints_all ints_all' ints_take1 ints_mk ints_mk1 mk_length res_ints resOk_ints plain_ints plainA plainL plainE plainS List.all_cons List.all_nil strT slS renL_strs frzL_strs res_strs resOk_strs plain_strs strs_all strs_all' strs_length
/-! ### spec.ParseInt -/
def ngL (l : List UInt8) : Bool := match l with
  | c :: _ => decide (c.toNat = 45)
  | [] => false
def tlL (l : List UInt8) : List UInt8 := if ngL l = true then l.drop 1 else l
theorem spells_facts {l : List UInt8} {v : Int} (h : Spells l v) : (∀ c ∈ tlL l, dgt c) ∧ tlL l ≠ [] ∧ (tlL l).length ≤ 19 ∧ valF 0 (tlL l) ≤ 9223372036854775808 ∧ v = (if ngL l = true then -(valF 0 (tlL l) : Int) else valF 0 (tlL l)) := by
  obtain ⟨h1, h2, rfl⟩ := h
  by_cases hn : v < 0
  · obtain ⟨m, rfl⟩ : ∃ m : Nat, v = -(m : Int) := ⟨v.natAbs, by omega⟩
    rw [itoa_m (by omega)]
    have e1 : ngL (45 :: Lib.decDigits m) = true := rfl
    have e2 : tlL (45 :: Lib.decDigits m) = Lib.decDigits m := rfl
    rw [e1, e2, if_pos rfl, dd_val]
    exact ⟨dd_dgt m, dd_ne m, dd_len m (by omega), by omega, rfl⟩
  · obtain ⟨m, rfl⟩ : ∃ m : Nat, v = (m : Int) := ⟨v.natAbs, by omega⟩
    rw [itoa_n]
    have e1 : ngL (Lib.decDigits m) = false := by
      have hd := dd_dgt m
      cases hl : Lib.decDigits m with
      | nil => rfl
      | cons c r =>
        rw [hl] at hd
        have hc := hd c (List.mem_cons_self ..)
        unfold dgt at hc
        exact decide_eq_false (by omega)
    have e2 : tlL (Lib.decDigits m) = Lib.decDigits m := by unfold tlL; rw [e1, if_neg (by decide)]
    rw [e1, e2, if_neg (by decide), dd_val]
    exact ⟨dd_dgt m, dd_ne m, dd_len m (by omega), by omega, rfl⟩
theorem valF_take (t : List UInt8) (i : Nat) (h : i < t.length) : valF 0 (t.take (i + 1)) = valF 0 (t.take i) * 10 + ((t.getD i 0).toNat - 48) := by
  rw [List.take_succ_eq_append_getElem h, valF_append, valF_one, List.getD_eq_getElem?_getD, List.getElem?_eq_getElem h, Option.getD_some]
theorem valF_take_le (t : List UInt8) (i : Nat) : valF 0 (t.take i) ≤ valF 0 t := by
  have := le_valF (valF 0 (t.take i)) (t.drop i)
  rwa [← valF_append, List.take_append_drop] at this
theorem ext_list (s : ByteArray) (a b : Nat) : (s.extract a b).data.toList = (s.data.toList.drop a).take (b - a) := by
  rw [ByteArray.data_extract, Array.toList_extract, List.extract_eq_take_drop]
theorem spells_not {l : List UInt8} (h : ¬ ((∀ c ∈ tlL l, dgt c) ∧ tlL l ≠ [] ∧ (tlL l).length ≤ 19 ∧ valF 0 (tlL l) ≤ 9223372036854775808)) : ∀ v, ¬ Spells l v := fun v hv => by
  obtain ⟨a, b, c, d, _⟩ := spells_facts hv
  exact h ⟨a, b, c, d⟩
theorem chk (m d x : Nat) (hx : x = 9223372036854775808 - d) (hd : d ≤ 9) : decide (-(m : Int) < -((x / 10 : Nat) : Int)) = decide (9223372036854775808 < m * 10 + d) := decide_eq_decide.2 (by omega)
/-- The whole walk. -/
theorem spec_ParseInt_c (s : ByteArray) (hs : s.size ≤ 1048576) : AC Tryd.prog 41 [.v (.string s)] [] (.tup [I (pInt s.data.toList).1, .v (.bool (pInt s.data.toList).2)]) [] := by
  refine AC.intro (fn := Tryd.f41) (c := ?_) 60 Tryd.func41 (by rfl) (by kernel_rfl) (by kernel_rfl) (Nat.le_of_ble_eq_true rfl) fun e hP hf hn h0 hE => ?_
  have hte : TEok e.P te := hP ▸ teOk
  have hmx : e.P.follows .mixedOrders = true := hP ▸ mixedOk
  have hsz : s.size = s.data.toList.length := size_eq s
  have hsn := fun h => spells_not (l := s.data.toList) h
  have t0 : Int.toNat 0 = 0 := rfl
  have t1 : Int.toNat 1 = 1 := rfl
  by_cases hnl : s.data.toList = []
  · rw [hnl] at hsz
    have d1 : decide ((0 : Int) < (s.size : Int)) = false := decide_eq_false (by rw [hsz]; simp)
    rw [pInt_no (hsn fun h => h.2.1 (by rw [hnl]; rfl))] at hE
    refine Go.run hte hn 100 ?_; simp only [go_sem, Nat.reduceBEq, Nat.reduceLT, Nat.reduceAdd, Nat.reduceMul, Nat.reduceLeDiff, d1]
    refine Go.call0 hP (spec_IsDigits_c s hs) rfl rfl rfl (by omega) (by simp [go_sem, tsI, slI, I, renL_ints, blk_ren, en_live, en_dead, ints_length, ints_nil, ints_one]) ?_
    have hdg : isDig s = false := by
      cases h : isDig s
      · rfl
      · exact absurd hnl ((isDig_iff s).1 h).2
    rw [hdg]
    refine Go.run hte hn 100 ?_; simp only [go_sem, Nat.reduceBEq, Nat.reduceLT, Nat.reduceAdd, Nat.reduceMul, Nat.reduceLeDiff]
    refine Go.retG hte hE hf [] rfl (by simp [go_sem, tsI, slI, I, renL_ints, blk_ren, en_live, en_dead, ints_length, ints_nil, ints_one]) rfl (by rw [h0]; rfl) trivial
  obtain ⟨c0, r0, hl⟩ := List.exists_cons_of_ne_nil hnl
  have hp : 1 ≤ s.size := by rw [hsz, hl]; simp
  have d1 : decide ((0 : Int) < (s.size : Int)) = true := decide_eq_true (by omega)
  have hb0 : byteAt s 0 = (c0.toNat : Int) := by unfold byteAt; rw [hl]; rfl
  have d2 : decide ((c0.toNat : Int) = 45) = ngL s.data.toList := by rw [hl]; exact decide_eq_decide.2 (by omega)
  cases hng : ngL s.data.toList <;> rw [hng] at d2
  · have hsf : ∀ v, Spells s.data.toList v → v = ((valF 0 (tlL s.data.toList) : Nat) : Int) := fun v hv => by
      have := (spells_facts hv).2.2.2.2
      rwa [hng, if_neg (by decide)] at this
    refine Go.run hte hn 100 ?_; simp only [go_sem, Nat.reduceBEq, Nat.reduceLT, Nat.reduceAdd, Nat.reduceMul, Nat.reduceLeDiff, d1, t0, hb0, d2]
    refine ⟨⟨by omega, by omega⟩, ?_⟩
    have htl : (s).data.toList = tlL s.data.toList := (by unfold tlL; rw [hng, if_neg (by decide)])
    have htz : (s).size ≤ 1048576 := hs
    have hts : s.size = s.data.toList.length := size_eq s
    rw [← htl] at hsn hsf
    refine Go.call0 hP (spec_IsDigits_c s htz) rfl rfl rfl (by omega) (by simp [go_sem, tsI, slI, I, renL_ints, blk_ren, en_live, en_dead, ints_length, ints_nil, ints_one]) ?_
    cases hdg : isDig s
    · rw [pInt_no (hsn fun h => by rw [(isDig_iff s).2 ⟨h.1, h.2.1⟩] at hdg; cases hdg)] at hE
      refine Go.run hte hn 100 ?_; simp only [go_sem, Nat.reduceBEq, Nat.reduceLT, Nat.reduceAdd, Nat.reduceMul, Nat.reduceLeDiff]
      refine Go.retG hte hE hf [] rfl (by simp [go_sem, tsI, slI, I, renL_ints, blk_ren, en_live, en_dead, ints_length, ints_nil, ints_one]) rfl (by rw [h0]; rfl) trivial
    obtain ⟨hdd, hne⟩ := (isDig_iff s).1 hdg
    by_cases h19 : 19 < s.size
    · have d3 : decide ((19 : Int) < (s.size : Int)) = true := decide_eq_true (by omega)
      rw [pInt_no (hsn fun h => by have := h.2.2.1; omega)] at hE
      refine Go.run hte hn 100 ?_; simp only [go_sem, Nat.reduceBEq, Nat.reduceLT, Nat.reduceAdd, Nat.reduceMul, Nat.reduceLeDiff, d3]
      refine Go.retG hte hE hf [] rfl (by simp [go_sem, tsI, slI, I, renL_ints, blk_ren, en_live, en_dead, ints_length, ints_nil, ints_one]) rfl (by rw [h0]; rfl) trivial
    have d3 : decide ((19 : Int) < (s.size : Int)) = false := decide_eq_false (by omega)
    refine Go.run hte hn 100 ?_; simp only [go_sem, Nat.reduceBEq, Nat.reduceLT, Nat.reduceAdd, Nat.reduceMul, Nat.reduceLeDiff, d3]
    refine Go.enter (fun i : Nat => i ≤ s.size ∧ valF 0 (s.data.toList.take i) ≤ 9223372036854775808) (fun i => s.size - i) (fun i => [(0, .v (.string s)), (4, .v (.bool false)), (5, .v (.string s)), (6, I (-((valF 0 (s.data.toList.take i) : Nat) : Int))), (7, I i)]) (fun i => []) 0 [] ⟨Nat.zero_le _, by simp [valF]⟩ rfl rfl (by rw [h0]; rfl) (by simp [go_sem, tsI, slI, I, renL_ints, blk_ren, en_live, en_dead, ints_length, ints_nil, ints_one, valF]) trivial ?_
    rintro i ⟨hi, hm⟩
    by_cases hlt : i < s.size
    · have dA : decide ((i : Int) < (s.size : Int)) = true := decide_eq_true (by omega)
      have e2 : IntKind.i64.wrap ((i : Int) + 1) = ((i + 1 : Nat) : Int) := by rw [W64] <;> omega
      have hb : byteAt s i = ((s.data.toList.getD i 0).toNat : Int) := rfl
      have hst := valF_take s.data.toList i (by omega)
      have hle := valF_take_le s.data.toList (i + 1)
      have hc : dgt (s.data.toList.getD i 0) := by
        rw [List.getD_eq_getElem?_getD, List.getElem?_eq_getElem (by omega), Option.getD_some]
        exact hdd _ (List.getElem_mem _)
      generalize s.data.toList.getD i 0 = c at hb hst hc
      unfold dgt at hc
      generalize hmm : valF 0 (s.data.toList.take i) = m at hm hst
      obtain ⟨d, hd⟩ : ∃ d, d = c.toNat - 48 := ⟨_, rfl⟩
      rw [← hd] at hst
      have hd9 : d ≤ 9 := by omega
      obtain ⟨x, hx⟩ : ∃ x, x = 9223372036854775808 - d := ⟨_, rfl⟩
      have w1 : IntKind.i64.wrap (c.toNat : Int) = ((c.toNat : Nat) : Int) := W64 (by omega) (by omega)
      have w2 : IntKind.i64.wrap (((c.toNat : Nat) : Int) - 48) = (d : Int) := by rw [W64] <;> omega
      have w3 : IntKind.i64.wrap (-9223372036854775808 + (d : Int)) = -(x : Int) := by rw [W64] <;> omega
      have w4 : Int.tdiv (-(x : Int)) 10 = -((x / 10 : Nat) : Int) := by rw [Int.neg_tdiv]; rfl
      have w5 : IntKind.i64.wrap (-((x / 10 : Nat) : Int)) = -((x / 10 : Nat) : Int) := W64 (by omega) (by omega)
      have dC := chk m d x hx hd9
      by_cases hov : 9223372036854775808 < m * 10 + d
      · rw [decide_eq_true hov] at dC
        rw [pInt_no (hsn fun h => by have := h.2.2.2; omega)] at hE
        refine Go.run hte hn 100 ?_; simp only [go_sem, Nat.reduceBEq, Nat.reduceLT, Nat.reduceAdd, Nat.reduceMul, Nat.reduceLeDiff, dA, Int.toNat_natCast, hb, w1, w2, w3, w4, w5, dC]
        refine ⟨⟨by omega, by omega⟩, by decide, ?_⟩
        refine Go.retG hte hE hf [] rfl (by simp [go_sem, tsI, slI, I, renL_ints, blk_ren, en_live, en_dead, ints_length, ints_nil, ints_one]) rfl (by rw [h0]; rfl) trivial
      · rw [decide_eq_false hov] at dC
        have w6 : IntKind.i64.wrap (-(m : Int) * 10) = -((m * 10 : Nat) : Int) := by rw [W64] <;> omega
        have w7 : IntKind.i64.wrap (-((m * 10 : Nat) : Int) - (d : Int)) = -((m * 10 + d : Nat) : Int) := by rw [W64] <;> omega
        refine Go.run hte hn 100 ?_; simp only [go_sem, Nat.reduceBEq, Nat.reduceLT, Nat.reduceAdd, Nat.reduceMul, Nat.reduceLeDiff, dA, Int.toNat_natCast, hb, w1, w2, w3, w4, w5, w6, w7, dC, e2]
        refine ⟨⟨by omega, by omega⟩, by decide, ?_⟩
        refine Go.round (i + 1) [] ⟨hlt, by rw [hst]; omega⟩ (by omega) rfl rfl (by rw [h0]; rfl) (by simp [go_sem, tsI, slI, I, renL_ints, blk_ren, en_live, en_dead, ints_length, ints_nil, ints_one, hst]) trivial
    · have dA : decide ((i : Int) < (s.size : Int)) = false := decide_eq_false (by omega)
      have hj : i = s.data.toList.length := by omega
      subst hj
      rw [List.take_length] at hm
      have hsz2 := hts
      generalize hmm : valF 0 s.data.toList = m at hm hsf

      by_cases hmx2 : m = 9223372036854775808
      · subst hmx2
        rw [pInt_no (fun v hv => by have := hsf v hv; have := hv.2.1; omega)] at hE
        refine Go.run hte hn 100 ?_; simp only [go_sem, Nat.reduceBEq, Nat.reduceLT, Nat.reduceAdd, Nat.reduceMul, Nat.reduceLeDiff, dA, List.take_length, hmm]
        refine Go.retG hte hE hf [] rfl (by simp [go_sem, tsI, slI, I, renL_ints, blk_ren, en_live, en_dead, ints_length, ints_nil, ints_one]) rfl (by rw [h0]; rfl) trivial
      have d5 : decide (-(m : Int) = -9223372036854775808) = false := decide_eq_false (by omega)
      have w8 : IntKind.i64.wrap (- -(m : Int)) = (m : Int) := by rw [W64] <;> omega
      have w9 : IntKind.i64.wrap (m : Int) = (m : Int) := by rw [W64] <;> omega
      refine Go.run hte hn 100 ?_; simp only [go_sem, Nat.reduceBEq, Nat.reduceLT, Nat.reduceAdd, Nat.reduceMul, Nat.reduceLeDiff, dA, List.take_length, hmm, d5, w8, w9, Int.neg_neg]
      have hb1 : -9223372036854775808 ≤ (m : Int) ∧ (m : Int) ≤ 9223372036854775807 := ⟨by omega, by omega⟩
      have C1 := spec_FormatInt_c ((m : Int).natAbs + 1) (m) (by omega) hb1.1 hb1.2
      have e1 : ((⟨(Lib.itoa (m)).toArray⟩ : ByteArray).toList == s.toList) = decide (Lib.itoa (m) = s.data.toList) := seq_dec _ _
      refine Go.call0 hP C1 rfl rfl rfl (by omega) (by simp [go_sem, tsI, slI, I, renL_ints, blk_ren, en_live, en_dead, ints_length, ints_nil, ints_one, w9]) ?_
      by_cases he : Lib.itoa (m) = s.data.toList
      · rw [pInt_yes ⟨hb1.1, hb1.2, he⟩] at hE
        rw [decide_eq_true he] at e1
        refine Go.run hte hn 100 ?_; simp only [go_sem, Nat.reduceBEq, Nat.reduceLT, Nat.reduceAdd, Nat.reduceMul, Nat.reduceLeDiff, e1]
        refine Go.retG hte hE hf [] rfl (by simp [go_sem, tsI, slI, I, renL_ints, blk_ren, en_live, en_dead, ints_length, ints_nil, ints_one, w9]) rfl (by rw [h0]; rfl) trivial
      · rw [pInt_no (fun v hv => he (by have := hsf v hv; rw [← this]; exact hv.2.2))] at hE
        rw [decide_eq_false he] at e1
        refine Go.run hte hn 100 ?_; simp only [go_sem, Nat.reduceBEq, Nat.reduceLT, Nat.reduceAdd, Nat.reduceMul, Nat.reduceLeDiff, e1]
        refine Go.retG hte hE hf [] rfl (by simp [go_sem, tsI, slI, I, renL_ints, blk_ren, en_live, en_dead, ints_length, ints_nil, ints_one, w9]) rfl (by rw [h0]; rfl) trivial
  · have hsf : ∀ v, Spells s.data.toList v → v = -((valF 0 (tlL s.data.toList) : Nat) : Int) := fun v hv => by
      have := (spells_facts hv).2.2.2.2
      rwa [hng, if_pos rfl] at this
    refine Go.run hte hn 100 ?_; simp only [go_sem, Nat.reduceBEq, Nat.reduceLT, Nat.reduceAdd, Nat.reduceMul, Nat.reduceLeDiff, d1, t0, t1, Int.toNat_natCast, hb0, d2]
    refine ⟨⟨by omega, by omega⟩, ⟨by omega, by omega, by omega⟩, ?_⟩
    have htl : (s.extract 1 s.size).data.toList = tlL s.data.toList := (by rw [ext_list]; unfold tlL; rw [hng, if_pos rfl, hsz, List.take_of_length_le (by rw [List.length_drop]; omega)])
    have htz : (s.extract 1 s.size).size ≤ 1048576 := (by rw [size_eq, ext_list]; simp only [List.length_take, List.length_drop]; omega)
    generalize s.extract 1 s.size = t at htl htz ⊢
    have hts : t.size = t.data.toList.length := size_eq t
    rw [← htl] at hsn hsf
    refine Go.call0 hP (spec_IsDigits_c t htz) rfl rfl rfl (by omega) (by simp [go_sem, tsI, slI, I, renL_ints, blk_ren, en_live, en_dead, ints_length, ints_nil, ints_one]) ?_
    cases hdg : isDig t
    · rw [pInt_no (hsn fun h => by rw [(isDig_iff t).2 ⟨h.1, h.2.1⟩] at hdg; cases hdg)] at hE
      refine Go.run hte hn 100 ?_; simp only [go_sem, Nat.reduceBEq, Nat.reduceLT, Nat.reduceAdd, Nat.reduceMul, Nat.reduceLeDiff]
      refine Go.retG hte hE hf [] rfl (by simp [go_sem, tsI, slI, I, renL_ints, blk_ren, en_live, en_dead, ints_length, ints_nil, ints_one]) rfl (by rw [h0]; rfl) trivial
    obtain ⟨hdd, hne⟩ := (isDig_iff t).1 hdg
    by_cases h19 : 19 < t.size
    · have d3 : decide ((19 : Int) < (t.size : Int)) = true := decide_eq_true (by omega)
      rw [pInt_no (hsn fun h => by have := h.2.2.1; omega)] at hE
      refine Go.run hte hn 100 ?_; simp only [go_sem, Nat.reduceBEq, Nat.reduceLT, Nat.reduceAdd, Nat.reduceMul, Nat.reduceLeDiff, d3]
      refine Go.retG hte hE hf [] rfl (by simp [go_sem, tsI, slI, I, renL_ints, blk_ren, en_live, en_dead, ints_length, ints_nil, ints_one]) rfl (by rw [h0]; rfl) trivial
    have d3 : decide ((19 : Int) < (t.size : Int)) = false := decide_eq_false (by omega)
    refine Go.run hte hn 100 ?_; simp only [go_sem, Nat.reduceBEq, Nat.reduceLT, Nat.reduceAdd, Nat.reduceMul, Nat.reduceLeDiff, d3]
    refine Go.enter (fun i : Nat => i ≤ t.size ∧ valF 0 (t.data.toList.take i) ≤ 9223372036854775808) (fun i => t.size - i) (fun i => [(0, .v (.string s)), (4, .v (.bool true)), (5, .v (.string t)), (6, I (-((valF 0 (t.data.toList.take i) : Nat) : Int))), (7, I i)]) (fun i => []) 0 [] ⟨Nat.zero_le _, by simp [valF]⟩ rfl rfl (by rw [h0]; rfl) (by simp [go_sem, tsI, slI, I, renL_ints, blk_ren, en_live, en_dead, ints_length, ints_nil, ints_one, valF]) trivial ?_
    rintro i ⟨hi, hm⟩
    by_cases hlt : i < t.size
    · have dA : decide ((i : Int) < (t.size : Int)) = true := decide_eq_true (by omega)
      have e2 : IntKind.i64.wrap ((i : Int) + 1) = ((i + 1 : Nat) : Int) := by rw [W64] <;> omega
      have hb : byteAt t i = ((t.data.toList.getD i 0).toNat : Int) := rfl
      have hst := valF_take t.data.toList i (by omega)
      have hle := valF_take_le t.data.toList (i + 1)
      have hc : dgt (t.data.toList.getD i 0) := by
        rw [List.getD_eq_getElem?_getD, List.getElem?_eq_getElem (by omega), Option.getD_some]
        exact hdd _ (List.getElem_mem _)
      generalize t.data.toList.getD i 0 = c at hb hst hc
      unfold dgt at hc
      generalize hmm : valF 0 (t.data.toList.take i) = m at hm hst
      obtain ⟨d, hd⟩ : ∃ d, d = c.toNat - 48 := ⟨_, rfl⟩
      rw [← hd] at hst
      have hd9 : d ≤ 9 := by omega
      obtain ⟨x, hx⟩ : ∃ x, x = 9223372036854775808 - d := ⟨_, rfl⟩
      have w1 : IntKind.i64.wrap (c.toNat : Int) = ((c.toNat : Nat) : Int) := W64 (by omega) (by omega)
      have w2 : IntKind.i64.wrap (((c.toNat : Nat) : Int) - 48) = (d : Int) := by rw [W64] <;> omega
      have w3 : IntKind.i64.wrap (-9223372036854775808 + (d : Int)) = -(x : Int) := by rw [W64] <;> omega
      have w4 : Int.tdiv (-(x : Int)) 10 = -((x / 10 : Nat) : Int) := by rw [Int.neg_tdiv]; rfl
      have w5 : IntKind.i64.wrap (-((x / 10 : Nat) : Int)) = -((x / 10 : Nat) : Int) := W64 (by omega) (by omega)
      have dC := chk m d x hx hd9
      by_cases hov : 9223372036854775808 < m * 10 + d
      · rw [decide_eq_true hov] at dC
        rw [pInt_no (hsn fun h => by have := h.2.2.2; omega)] at hE
        refine Go.run hte hn 100 ?_; simp only [go_sem, Nat.reduceBEq, Nat.reduceLT, Nat.reduceAdd, Nat.reduceMul, Nat.reduceLeDiff, dA, Int.toNat_natCast, hb, w1, w2, w3, w4, w5, dC]
        refine ⟨⟨by omega, by omega⟩, by decide, ?_⟩
        refine Go.retG hte hE hf [] rfl (by simp [go_sem, tsI, slI, I, renL_ints, blk_ren, en_live, en_dead, ints_length, ints_nil, ints_one]) rfl (by rw [h0]; rfl) trivial
      · rw [decide_eq_false hov] at dC
        have w6 : IntKind.i64.wrap (-(m : Int) * 10) = -((m * 10 : Nat) : Int) := by rw [W64] <;> omega
        have w7 : IntKind.i64.wrap (-((m * 10 : Nat) : Int) - (d : Int)) = -((m * 10 + d : Nat) : Int) := by rw [W64] <;> omega
        refine Go.run hte hn 100 ?_; simp only [go_sem, Nat.reduceBEq, Nat.reduceLT, Nat.reduceAdd, Nat.reduceMul, Nat.reduceLeDiff, dA, Int.toNat_natCast, hb, w1, w2, w3, w4, w5, w6, w7, dC, e2]
        refine ⟨⟨by omega, by omega⟩, by decide, ?_⟩
        refine Go.round (i + 1) [] ⟨hlt, by rw [hst]; omega⟩ (by omega) rfl rfl (by rw [h0]; rfl) (by simp [go_sem, tsI, slI, I, renL_ints, blk_ren, en_live, en_dead, ints_length, ints_nil, ints_one, hst]) trivial
    · have dA : decide ((i : Int) < (t.size : Int)) = false := decide_eq_false (by omega)
      have hj : i = t.data.toList.length := by omega
      subst hj
      rw [List.take_length] at hm
      have hsz2 := hts
      generalize hmm : valF 0 t.data.toList = m at hm hsf

      have w9 : IntKind.i64.wrap (-(m : Int)) = -(m : Int) := by rw [W64] <;> omega
      refine Go.run hte hn 100 ?_; simp only [go_sem, Nat.reduceBEq, Nat.reduceLT, Nat.reduceAdd, Nat.reduceMul, Nat.reduceLeDiff, dA, List.take_length, hmm]
      have hb1 : -9223372036854775808 ≤ (-(m : Int) : Int) ∧ (-(m : Int) : Int) ≤ 9223372036854775807 := ⟨by omega, by omega⟩
      have C1 := spec_FormatInt_c ((-(m : Int) : Int).natAbs + 1) (-(m : Int)) (by omega) hb1.1 hb1.2
      have e1 : ((⟨(Lib.itoa (-(m : Int))).toArray⟩ : ByteArray).toList == s.toList) = decide (Lib.itoa (-(m : Int)) = s.data.toList) := seq_dec _ _
      refine Go.call0 hP C1 rfl rfl rfl (by omega) (by simp [go_sem, tsI, slI, I, renL_ints, blk_ren, en_live, en_dead, ints_length, ints_nil, ints_one, w9]) ?_
      by_cases he : Lib.itoa (-(m : Int)) = s.data.toList
      · rw [pInt_yes ⟨hb1.1, hb1.2, he⟩] at hE
        rw [decide_eq_true he] at e1
        refine Go.run hte hn 100 ?_; simp only [go_sem, Nat.reduceBEq, Nat.reduceLT, Nat.reduceAdd, Nat.reduceMul, Nat.reduceLeDiff, e1]
        refine Go.retG hte hE hf [] rfl (by simp [go_sem, tsI, slI, I, renL_ints, blk_ren, en_live, en_dead, ints_length, ints_nil, ints_one, w9]) rfl (by rw [h0]; rfl) trivial
      · rw [pInt_no (fun v hv => he (by have := hsf v hv; rw [← this]; exact hv.2.2))] at hE
        rw [decide_eq_false he] at e1
        refine Go.run hte hn 100 ?_; simp only [go_sem, Nat.reduceBEq, Nat.reduceLT, Nat.reduceAdd, Nat.reduceMul, Nat.reduceLeDiff, e1]
        refine Go.retG hte hE hf [] rfl (by simp [go_sem, tsI, slI, I, renL_ints, blk_ren, en_live, en_dead, ints_length, ints_nil, ints_one, w9]) rfl (by rw [h0]; rfl) trivial

end Go.Proofs.YtjnlpomfjlpikaaDoor.Ab
