/- Contracts of the given program's functions and of the reference's (walks). -/
import Derived.Test.YtjnlpomfjlpikaaDoorAbT
import Derived.Test.YtjnlpomfjlpikaaDoorAbP
import Derived.Test.YtjnlpomfjlpikaaDoorAbQ
import Derived.Test.YtjnlpomfjlpikaaDoorAbS
import Derived.Test.YtjnlpomfjlpikaaDoorAbI
set_option linter.unusedVariables false
set_option linter.unusedSimpArgs false
set_option maxRecDepth 10000
namespace Go.Proofs.YtjnlpomfjlpikaaDoor.Ab
open Go Go.RowKit
attribute [local go_sem] q_run q_seq q_skip q_block q_exit q_cond q_region q_nil q_op q_blk q_loop q_ret q_open q_inv q_fin q_go q_h0 q_h1 q_gskip q_stepC q_brt q_brf q_stepX q_sskip q_sskip0 q_val q_need q_new q_newc q_sv q_sto q_c1 q_c2 q_c3 q_c4 q_c5 q_c6 q_c7 q_c8 q_c9 q_c10 q_c11 q_c12 q_c13 q_c14 q_c15 q_c16 q_c17 q_c18 q_c19 q_c20 q_c21 q_c22 q_g0 q_g1 q_gC q_gD q_gE q_gB1 q_gB2 q_gB3 q_gB4 q_ev1 q_ev2 q_ev3 q_evo0 q_evo1 q_rv q_rva q_o1 q_o2 q_pk1 q_pk2 q_ld1p q_ld1e q_ld1t q_ldnp q_ldne q_ldnt q_sub0 q_sub1 q_subc q_stS q_stT q_box q_bldr q_bld q_fill0 q_fill1 q_fillB q_bsr q_bsl q_fap q_fat q_iasl q_iats q_lnsl q_lnts q_lnv q_lnS q_exA q_mkB q_lo0 q_lo1 q_hi0 q_hi1 q_slcA q_slcU1 q_slcU2 q_slcT1 q_slcT2 q_slsA q_slsU q_slsT q_apA q_apC q_srcE1 q_srcE2 q_srcE3 q_srcA1 q_srcB q_srcA2 q_srcA3 q_fnA q_nc1 q_nc2 q_bin q_bin2 q_bin3 q_bin4 q_bin5 q_bin6 q_bin7 q_bin8 q_bin9 q_bin10 q_i1 q_i2 q_i3 q_i4 q_i5 q_i6 q_i7 q_i8 q_i9 q_i10 q_i11 q_s1 q_s2 q_s3 q_u1 q_u2 q_min q_max q_ce1 q_ce2 q_ce3 q_ce4 q_ce5 q_ce6 q_ce7 q_ce8 q_ce9 q_ce10 q_ce11 q_on2 q_on3 q_on4 q_on5 q_on6 q_on7 q_on8 q_on9 q_on10 q_on11 q_enr1 q_gEt q_zr0 q_zr1 q_zgs q_zgg q_zk1 q_zk2 q_zd q_zv1 q_zv2 q_zv3 q_zp1 q_zp2 q_zf q_zs1 q_zs2 q_za q_za1 q_fi0 q_fi1 q_ln0 q_ln1 q_h01 q_h02 q_h03 q_h04 q_h05 q_h06 q_h07 q_h08 q_h09 q_h10 q_h11 q_h12 q_h13 q_h14 q_h15 q_h16 q_h17 q_h18 q_h19 q_h20 q_h21 q_h22 q_h23 q_h24 q_al q_b0 q_rs1 q_rs2 q_rs3 q_rs4 q_rs5 q_rs6 q_rs7 q_rs8 q_ro1 q_ro2 q_ro3 q_ro4 q_ro5 q_ro6 q_ro7 q_ro8 q_ixS q_cvS1 q_cvN q_u8s0 q_u8s1 q_u8s2 q_strS q_h25 q_shr q_i12 q_i13 q_bn q_bn0 q_bn1 q_zbn q_zn cond_true cond_false decide_true decide_false List.length_cons List.length_nil List.nil_append List.cons_append true_and and_true List.toList_toArray Option.map_some Nat.zero_add Nat.add_zero Bool.and_self Bool.and_true Bool.true_and Bool.and_false Bool.false_and Bool.not_true Bool.not_false FitF FitL LendL wb keys nodupB firstOk tupA op_move op_assign op_pick op_un op_box op_nc op_mf op_ex op_min op_max get put del nth evs evp sets setN ones popTo args0 AV.ren AV.renL rho List.take_succ_cons List.take_zero List.drop_succ_cons List.drop_zero Option.isNone_none Option.isNone_some o_al134 o_al29 o_al75 o_ap22 o_ap34 o_ap41 o_bi121 o_bi2 o_bi21 o_bi3 o_bi4 o_bi5 o_bi73 o_bi79 o_bi9 o_bi96 o_bs22_0 o_bs22_1 o_bs34_1 o_bs41_0 o_bs41_1 o_bs41_5 o_bu120 o_bu134 o_bu29 o_bu78 o_cn121 o_cn2 o_cn21 o_cn3 o_cn5 o_cn79 o_cn96 o_cv121_5 o_cv121_79 o_cv121_96 o_cv2_96 o_cv34_9 o_cv3_5 o_cv3_79 o_cv3_96 o_cv5_121 o_cv5_21 o_cv5_3 o_cv5_96 o_cv79_121 o_cv79_3 o_cv96_121 o_cv96_2 o_cv96_5 o_fa134_0 o_fa134_1 o_fa29_0 o_fa29_1 o_fa51_0 o_fa51_1 o_fa75_0 o_fa75_1 o_fa78_0 o_fa78_1 o_fa78_2 o_ia22 o_ia34 o_ia41 o_ib4 o_ip73 o_ip90 o_ix9 o_ld134 o_ld22 o_ld29 o_ld3 o_ld34 o_ld4 o_ld5 o_ld51 o_ld73 o_ld9 o_ld96 o_ln22 o_ln34 o_ln41 o_ln9 o_mk22 o_mk34 o_mk41 o_sl22 o_sl34 o_sl41 o_sl9 o_st134 o_st22 o_st29 o_st3 o_st34 o_st4 o_st5 o_st73 o_st9 o_zb22 o_zb34 o_zb41 I tsI slI renL_ints blk_ren en_live en_dead List.set_cons_zero List.set_cons_succ List.map_cons List.map_nil List.append_nil frzF frzS AV.frz AV.frzL frzL_ints ints_all ints_all' ints_take1 ints_mk ints_mk1 mk_length res_ints resOk_ints plain_ints plainA plainL plainE plainS List.all_cons List.all_nil strT slS renL_strs frzL_strs res_strs resOk_strs plain_strs strs_all strs_all' strs_length
/-! ### Texts of digits -/
def isDgB (c : UInt8) : Bool := decide (48 ≤ c.toNat) && decide (c.toNat ≤ 57)
def isDig (s : ByteArray) : Bool := s.data.toList.all isDgB && decide (0 < s.size)
theorem seq_dec (a b : ByteArray) : (a.toList == b.toList) = decide (a.data.toList = b.data.toList) := by
  rw [ByteArray.toList_eq, ByteArray.toList_eq]
  by_cases h : a.data.toList = b.data.toList
  · rw [h, decide_eq_true rfl]
    exact beq_self_eq_true _
  · rw [decide_eq_false h]
    exact beq_eq_false_iff_ne.2 h
theorem isDgB_iff (c : UInt8) : isDgB c = true ↔ dgt c := by unfold isDgB dgt; simp
theorem size_eq (s : ByteArray) : s.size = s.data.toList.length := (Array.length_toList ..).symm
theorem isDig_iff (s : ByteArray) : isDig s = true ↔ (∀ c ∈ s.data.toList, dgt c) ∧ s.data.toList ≠ [] := by
  unfold isDig
  rw [Bool.and_eq_true, List.all_eq_true, decide_eq_true_eq, size_eq]
  constructor
  · rintro ⟨a, b⟩
    exact ⟨fun c hc => (isDgB_iff c).1 (a c hc), fun h => by rw [h] at b; simp at b⟩
  · rintro ⟨a, b⟩
    exact ⟨fun c hc => (isDgB_iff c).2 (a c hc), List.length_pos_iff.2 b⟩
theorem isDig_false {s : ByteArray} {j : Nat} (h : j < s.size) (hn : isDgB (s.data.toList.getD j 0) = false) : isDig s = false := by
  rw [size_eq] at h
  unfold isDig
  rw [Bool.and_eq_false_iff]
  left
  rw [List.all_eq_false]
  refine ⟨s.data.toList[j], List.getElem_mem h, ?_⟩
  rw [List.getD_eq_getElem?_getD, List.getElem?_eq_getElem h, Option.getD_some] at hn
  rw [hn]
  simp
theorem isDig_all {s : ByteArray} (h : ∀ j, j < s.size → isDgB (s.data.toList.getD j 0) = true) : isDig s = decide (0 < s.size) := by
  unfold isDig
  have : s.data.toList.all isDgB = true := by
    rw [List.all_eq_true]
    intro c hc
    obtain ⟨j, hj, rfl⟩ := List.mem_iff_getElem.1 hc
    have := h j (by rw [size_eq]; exact hj)
    rwa [List.getD_eq_getElem?_getD, List.getElem?_eq_getElem hj, Option.getD_some] at this
  rw [this, Bool.true_and]
theorem impl_isDigit_c (c : UInt8) : AC Tryd.prog 59 [.v (.int .u8 (c.toNat : Int))] [] (.v (.bool (isDgB c))) [] := by
  refine AC.intro (fn := Tryd.f59) (c := ?_) 9 Tryd.func59 (by rfl) (by kernel_rfl) (by kernel_rfl) (Nat.le_of_ble_eq_true rfl) fun e hP hf hn h0 hE => ?_
  have hte : TEok e.P te := hP ▸ teOk
  have hmx : e.P.follows .mixedOrders = true := hP ▸ mixedOk
  have e : isDgB c = (decide ((48 : Int) ≤ (c.toNat : Int)) && decide ((c.toNat : Int) ≤ 57)) := by
    unfold isDgB
    congr 1 <;> exact decide_eq_decide.2 (by omega)
  rw [e] at hE
  cases h : decide ((48 : Int) ≤ (c.toNat : Int))
  · rw [h] at hE
    refine Go.run hte hn 100 ?_; simp only [go_sem, Nat.reduceBEq, Nat.reduceLT, Nat.reduceAdd, Nat.reduceMul, Nat.reduceLeDiff, h]
    refine Go.retG hte hE hf [] rfl (by simp [go_sem, tsI, slI, I, renL_ints, blk_ren, en_live, en_dead, ints_length, ints_nil, ints_one]) rfl (by rw [h0]; rfl) trivial
  · rw [h] at hE
    refine Go.run hte hn 100 ?_; simp only [go_sem, Nat.reduceBEq, Nat.reduceLT, Nat.reduceAdd, Nat.reduceMul, Nat.reduceLeDiff, h]
    refine Go.retG hte hE hf [] rfl (by simp [go_sem, tsI, slI, I, renL_ints, blk_ren, en_live, en_dead, ints_length, ints_nil, ints_one]) rfl (by rw [h0]; rfl) trivial
theorem spec_IsDigits_c (s : ByteArray) (hs : s.size ≤ 1048576) : AC Tryd.prog 42 [.v (.string s)] [] (.v (.bool (isDig s))) [] := by
  refine AC.intro (fn := Tryd.f42) (c := ?_) 23 Tryd.func42 (by rfl) (by kernel_rfl) (by kernel_rfl) (Nat.le_of_ble_eq_true rfl) fun e hP hf hn h0 hE => ?_
  have hte : TEok e.P te := hP ▸ teOk
  have hmx : e.P.follows .mixedOrders = true := hP ▸ mixedOk
  refine Go.run hte hn 100 ?_; simp only [go_sem, Nat.reduceBEq, Nat.reduceLT, Nat.reduceAdd, Nat.reduceMul, Nat.reduceLeDiff]
  refine Go.enter (fun i : Nat => i ≤ s.size ∧ ∀ j, j < i → isDgB (s.data.toList.getD j 0) = true) (fun i => s.size - i) (fun i => [(0, .v (.string s)), (3, I i)]) (fun i => []) 0 [] ⟨Nat.zero_le _, by intro j hj; omega⟩ rfl rfl (by rw [h0]; rfl) (by simp [go_sem, tsI, slI, I, renL_ints, blk_ren, en_live, en_dead, ints_length, ints_nil, ints_one]) trivial ?_
  rintro i ⟨hi, hall⟩
  by_cases hlt : i < s.size
  · have dA : decide ((i : Int) < (s.size : Int)) = true := decide_eq_true (by omega)
    have e2 : IntKind.i64.wrap ((i : Int) + 1) = ((i + 1 : Nat) : Int) := by rw [W64] <;> omega
    have hb : byteAt s i = ((s.data.toList.getD i 0).toNat : Int) := rfl
    have hfl := fun h => isDig_false (s := s) hlt h
    have hstep : isDgB (s.data.toList.getD i 0) = true → ∀ j, j < i + 1 → isDgB (s.data.toList.getD j 0) = true := fun h j hj => by
      rcases Nat.lt_or_ge j i with h1 | h1
      · exact hall j h1
      · rw [show j = i by omega]; exact h
    generalize s.data.toList.getD i 0 = c at hb hfl hstep
    by_cases h1 : c.toNat < 48
    · have d1 : decide ((c.toNat : Int) < 48) = true := decide_eq_true (by omega)
      have e3 : isDgB c = false := by unfold isDgB; rw [decide_eq_false (by omega)]; rfl
      rw [hfl e3] at hE
      refine Go.run hte hn 100 ?_; simp only [go_sem, Nat.reduceBEq, Nat.reduceLT, Nat.reduceAdd, Nat.reduceMul, Nat.reduceLeDiff, dA, Int.toNat_natCast, hb, d1]
      refine ⟨⟨by omega, by omega⟩, ?_⟩
      refine Go.retG hte hE hf [] rfl (by simp [go_sem, tsI, slI, I, renL_ints, blk_ren, en_live, en_dead, ints_length, ints_nil, ints_one]) rfl (by rw [h0]; rfl) trivial
    · have d1 : decide ((c.toNat : Int) < 48) = false := decide_eq_false (by omega)
      by_cases h2 : 57 < c.toNat
      · have d2 : decide ((57 : Int) < (c.toNat : Int)) = true := decide_eq_true (by omega)
        have e3 : isDgB c = false := by unfold isDgB; rw [decide_eq_false (show ¬ c.toNat ≤ 57 by omega), Bool.and_false]
        rw [hfl e3] at hE
        refine Go.run hte hn 100 ?_; simp only [go_sem, Nat.reduceBEq, Nat.reduceLT, Nat.reduceAdd, Nat.reduceMul, Nat.reduceLeDiff, dA, Int.toNat_natCast, hb, d1, d2]
        refine ⟨⟨by omega, by omega⟩, ⟨by omega, by omega⟩, ?_⟩
        refine Go.retG hte hE hf [] rfl (by simp [go_sem, tsI, slI, I, renL_ints, blk_ren, en_live, en_dead, ints_length, ints_nil, ints_one]) rfl (by rw [h0]; rfl) trivial
      · have d2 : decide ((57 : Int) < (c.toNat : Int)) = false := decide_eq_false (by omega)
        have e3 : isDgB c = true := by unfold isDgB; rw [decide_eq_true (by omega), decide_eq_true (by omega)]; rfl
        refine Go.run hte hn 100 ?_; simp only [go_sem, Nat.reduceBEq, Nat.reduceLT, Nat.reduceAdd, Nat.reduceMul, Nat.reduceLeDiff, dA, Int.toNat_natCast, hb, d1, d2, e2]
        refine ⟨⟨by omega, by omega⟩, ⟨by omega, by omega⟩, ?_⟩
        refine Go.round (i + 1) [] ⟨hlt, hstep e3⟩ (by omega) rfl rfl (by rw [h0]; rfl) (by simp [go_sem, tsI, slI, I, renL_ints, blk_ren, en_live, en_dead, ints_length, ints_nil, ints_one]) trivial
  · have dA : decide ((i : Int) < (s.size : Int)) = false := decide_eq_false (by omega)
    have hj : i = s.size := by omega
    subst hj
    have e := isDig_all hall
    have e4 : decide ((0 : Int) < (s.size : Int)) = decide (0 < s.size) := decide_eq_decide.2 (by omega)
    rw [e, ← e4] at hE
    refine Go.run hte hn 100 ?_; simp only [go_sem, Nat.reduceBEq, Nat.reduceLT, Nat.reduceAdd, Nat.reduceMul, Nat.reduceLeDiff, dA]
    refine Go.retG hte hE hf [] rfl (by simp [go_sem, tsI, slI, I, renL_ints, blk_ren, en_live, en_dead, ints_length, ints_nil, ints_one]) rfl (by rw [h0]; rfl) trivial
theorem impl_IsDigits_c (s : ByteArray) (hs : s.size ≤ 1048576) : AC Tryd.prog 44 [.v (.string s)] [] (.v (.bool (isDig s))) [] := by
  refine AC.intro (fn := Tryd.f44) (c := ?_) 17 Tryd.func44 (by rfl) (by kernel_rfl) (by kernel_rfl) (Nat.le_of_ble_eq_true rfl) fun e hP hf hn h0 hE => ?_
  have hte : TEok e.P te := hP ▸ teOk
  have hmx : e.P.follows .mixedOrders = true := hP ▸ mixedOk
  refine Go.run hte hn 100 ?_; simp only [go_sem, Nat.reduceBEq, Nat.reduceLT, Nat.reduceAdd, Nat.reduceMul, Nat.reduceLeDiff]
  refine Go.enter (fun i : Nat => i ≤ s.size ∧ ∀ j, j < i → isDgB (s.data.toList.getD j 0) = true) (fun i => s.size - i) (fun i => [(0, .v (.string s)), (5, I s.size), (6, I i)]) (fun i => []) 0 [] ⟨Nat.zero_le _, by intro j hj; omega⟩ rfl rfl (by rw [h0]; rfl) (by simp [go_sem, tsI, slI, I, renL_ints, blk_ren, en_live, en_dead, ints_length, ints_nil, ints_one]) trivial ?_
  rintro i ⟨hi, hall⟩
  by_cases hlt : i < s.size
  · have dA : decide ((i : Int) < (s.size : Int)) = true := decide_eq_true (by omega)
    have e2 : IntKind.i64.wrap ((i : Int) + 1) = ((i + 1 : Nat) : Int) := by rw [W64] <;> omega
    have hb : byteAt s i = ((s.data.toList.getD i 0).toNat : Int) := rfl
    have hfl := fun h => isDig_false (s := s) hlt h
    have hstep : isDgB (s.data.toList.getD i 0) = true → ∀ j, j < i + 1 → isDgB (s.data.toList.getD j 0) = true := fun h j hj => by
      rcases Nat.lt_or_ge j i with h1 | h1
      · exact hall j h1
      · rw [show j = i by omega]; exact h
    generalize s.data.toList.getD i 0 = c at hb hfl hstep
    refine Go.run hte hn 100 ?_; simp only [go_sem, Nat.reduceBEq, Nat.reduceLT, Nat.reduceAdd, Nat.reduceMul, Nat.reduceLeDiff, dA, Int.toNat_natCast, hb]
    refine ⟨⟨by omega, by omega⟩, ?_⟩
    refine Go.call0 hP (impl_isDigit_c c) rfl rfl rfl (by omega) (by simp [go_sem, tsI, slI, I, renL_ints, blk_ren, en_live, en_dead, ints_length, ints_nil, ints_one]) ?_
    cases e3 : isDgB c
    · rw [hfl e3] at hE
      refine Go.run hte hn 100 ?_; simp only [go_sem, Nat.reduceBEq, Nat.reduceLT, Nat.reduceAdd, Nat.reduceMul, Nat.reduceLeDiff]
      refine Go.retG hte hE hf [] rfl (by simp [go_sem, tsI, slI, I, renL_ints, blk_ren, en_live, en_dead, ints_length, ints_nil, ints_one]) rfl (by rw [h0]; rfl) trivial
    · refine Go.run hte hn 100 ?_; simp only [go_sem, Nat.reduceBEq, Nat.reduceLT, Nat.reduceAdd, Nat.reduceMul, Nat.reduceLeDiff, e2]
      refine Go.round (i + 1) [] ⟨hlt, hstep e3⟩ (by omega) rfl rfl (by rw [h0]; rfl) (by simp [go_sem, tsI, slI, I, renL_ints, blk_ren, en_live, en_dead, ints_length, ints_nil, ints_one]) trivial
  · have dA : decide ((i : Int) < (s.size : Int)) = false := decide_eq_false (by omega)
    have hj : i = s.size := by omega
    subst hj
    have e := isDig_all hall
    have e4 : (!(s.toList == (⟨#[]⟩ : ByteArray).toList)) = decide (0 < s.size) := by
      rw [seq_dec, size_eq]
      cases s.data.toList with
      | nil => rfl
      | cons x l => simp
    rw [e] at hE
    refine Go.run hte hn 100 ?_; simp only [go_sem, Nat.reduceBEq, Nat.reduceLT, Nat.reduceAdd, Nat.reduceMul, Nat.reduceLeDiff, dA, e4]
    refine Go.retG hte hE hf [] rfl (by simp [go_sem, tsI, slI, I, renL_ints, blk_ren, en_live, en_dead, ints_length, ints_nil, ints_one]) rfl (by rw [h0]; rfl) trivial

end Go.Proofs.YtjnlpomfjlpikaaDoor.Ab
