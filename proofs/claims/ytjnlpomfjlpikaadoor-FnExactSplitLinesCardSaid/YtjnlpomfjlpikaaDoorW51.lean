/- Contracts of the given program's functions and of the reference's (walks). -/
import Derived.Test.YtjnlpomfjlpikaaDoorAbT
import Derived.Test.YtjnlpomfjlpikaaDoorAbP
import Derived.Test.YtjnlpomfjlpikaaDoorAbS
import Derived.Lib.Strings
import Derived.Lib.Slices
import Derived.Lib.Walk
import Derived.Lib.Bytealg
set_option linter.unusedVariables false
set_option linter.unusedSimpArgs false
set_option maxRecDepth 10000
namespace Go.Proofs.YtjnlpomfjlpikaaDoor.Ab
open Go Go.RowKit
attribute [local go_sem] q_run q_seq q_skip q_block q_exit q_cond q_region q_nil q_op q_blk q_loop q_ret q_open q_inv q_fin q_go q_h0 q_h1 q_gskip q_stepC q_brt q_brf q_stepX q_sskip q_sskip0 q_val q_need q_new q_newc q_sv q_sto q_c1 q_c2 q_c3 q_c4 q_c5 q_c6 q_c7 q_c8 q_c9 q_c10 q_c11 q_c12 q_c13 q_c14 q_c15 q_c16 q_c17 q_c18 q_c19 q_c20 q_c21 q_c22 q_g0 q_g1 q_gC q_gD q_gE q_gB1 q_gB2 q_gB3 q_gB4 q_ev1 q_ev2 q_ev3 q_evo0 q_evo1 q_rv q_rva q_o1 q_o2 q_pk1 q_pk2 q_ld1p q_ld1e q_ld1t q_ldnp q_ldne q_ldnt q_sub0 q_sub1 q_subc q_stS q_stT q_box q_bldr q_bld q_fill0 q_fill1 q_fillB q_bsr q_bsl q_fap q_fat q_iasl q_iats q_lnsl q_lnts q_lnv q_lnS q_exA q_mkB q_lo0 q_lo1 q_hi0 q_hi1 q_slcA q_slcU1 q_slcU2 q_slcT1 q_slcT2 q_slsA q_slsU q_slsT q_apA q_apC q_srcE1 q_srcE2 q_srcE3 q_srcA1 q_srcB q_srcA2 q_srcA3 q_fnA q_nc1 q_nc2 q_bin q_bin2 q_bin3 q_bin4 q_bin5 q_bin6 q_bin7 q_bin8 q_bin9 q_bin10 q_i1 q_i2 q_i3 q_i4 q_i5 q_i6 q_i7 q_i8 q_i9 q_i10 q_i11 q_s1 q_s2 q_s3 q_u1 q_u2 q_min q_max q_ce1 q_ce2 q_ce3 q_ce4 q_ce5 q_ce6 q_ce7 q_ce8 q_ce9 q_ce10 q_ce11 q_on2 q_on3 q_on4 q_on5 q_on6 q_on7 q_on8 q_on9 q_on10 q_on11 q_enr1 q_gEt q_zr0 q_zr1 q_zgs q_zgg q_zk1 q_zk2 q_zd q_zv1 q_zv2 q_zv3 q_zp1 q_zp2 q_zf q_zs1 q_zs2 q_za q_za1 q_fi0 q_fi1 q_ln0 q_ln1 q_h01 q_h02 q_h03 q_h04 q_h05 q_h06 q_h07 q_h08 q_h09 q_h10 q_h11 q_h12 q_h13 q_h14 q_h15 q_h16 q_h17 q_h18 q_h19 q_h20 q_h21 q_h22 q_h23 q_h24 q_al q_b0 q_rs1 q_rs2 q_rs3 q_rs4 q_rs5 q_rs6 q_rs7 q_rs8 q_ro1 q_ro2 q_ro3 q_ro4 q_ro5 q_ro6 q_ro7 q_ro8 q_ixS q_cvS1 q_cvN q_u8s0 q_u8s1 q_u8s2 q_strS q_h25 q_shr q_i12 q_i13 q_bn q_bn0 q_bn1 q_zbn q_zn cond_true cond_false decide_true decide_false List.length_cons List.length_nil List.nil_append List.cons_append true_and and_true List.toList_toArray Option.map_some Nat.zero_add Nat.add_zero Bool.and_self Bool.and_true Bool.true_and Bool.and_false Bool.false_and Bool.not_true Bool.not_false FitF FitL LendL wb keys nodupB firstOk tupA op_move op_assign op_pick op_un op_box op_nc op_mf op_ex op_min op_max get put del nth evs evp sets setN ones popTo args0 AV.ren AV.renL rho List.take_succ_cons List.take_zero List.drop_succ_cons List.drop_zero Option.isNone_none Option.isNone_some o_al134 o_al29 o_al75 o_ap22 o_ap34 o_ap41 o_bi121 o_bi2 o_bi21 o_bi3 o_bi4 o_bi5 o_bi73 o_bi79 o_bi9 o_bi96 o_bs22_0 o_bs22_1 o_bs34_1 o_bs41_0 o_bs41_1 o_bs41_5 o_bu120 o_bu134 o_bu29 o_bu78 o_cn121 o_cn2 o_cn21 o_cn3 o_cn5 o_cn79 o_cn96 o_cv121_5 o_cv121_79 o_cv121_96 o_cv2_96 o_cv34_9 o_cv3_5 o_cv3_79 o_cv3_96 o_cv5_121 o_cv5_21 o_cv5_3 o_cv5_96 o_cv79_121 o_cv79_3 o_cv96_121 o_cv96_2 o_cv96_5 o_fa134_0 o_fa134_1 o_fa29_0 o_fa29_1 o_fa51_0 o_fa51_1 o_fa75_0 o_fa75_1 o_fa78_0 o_fa78_1 o_fa78_2 o_ia22 o_ia34 o_ia41 o_ib4 o_ip73 o_ip90 o_ix9 o_ld134 o_ld22 o_ld29 o_ld3 o_ld34 o_ld4 o_ld5 o_ld51 o_ld73 o_ld9 o_ld96 o_ln22 o_ln34 o_ln41 o_ln9 o_mk22 o_mk34 o_mk41 o_sl22 o_sl34 o_sl41 o_sl9 o_st134 o_st22 o_st29 o_st3 o_st34 o_st4 o_st5 o_st73 o_st9 o_zb22 o_zb34 o_zb41 I tsI slI renL_ints blk_ren en_live en_dead List.set_cons_zero List.set_cons_succ List.map_cons List.map_nil List.append_nil frzF frzS AV.frz AV.frzL frzL_ints ints_all ints_all' ints_take1 ints_mk ints_mk1 mk_length res_ints resOk_ints plain_ints plainA plainL plainE plainS List.all_cons List.all_nil strT slS renL_strs frzL_strs res_strs resOk_strs plain_strs strs_all strs_all' strs_length
/-! ### Strings split -/
theorem AC.ofPure {P : Program} {f : FuncId} {vs : List Value} {v : Value} (hc : Callable P f) (h : ∀ w, Calls P f vs.toArray w fun o w' => o = .returned v ∧ w' = w) : AC P f (vs.map AV.v) [] (.v v) [] := by
  refine ⟨hc, fun ι S w us hs ha => ?_⟩
  have key : ∀ (vs us : List Value), VRe ι S w (vs.map AV.v) us → us = vs := by
    intro vs
    induction vs with
    | nil => intro us h; simpa only [List.map_nil, VRe] using h
    | cons x vs ih =>
      intro us h
      simp only [List.map_cons, VRe, VR] at h
      obtain ⟨u, r, rfl, rfl, h2⟩ := h
      rw [ih r h2]
  rw [key vs us ha]
  refine (h w).mono ?_
  rintro o w' ⟨rfl, rfl⟩
  exact ⟨v, ι, S, rfl, by simp only [VR], hs, Ext.refl⟩
set_option maxHeartbeats 1000000 in
set_option maxRecDepth 100000 in
theorem stringslite_IndexByte_calls (s : ByteArray) (c : Int) (w : World) :
    Calls Tryd.prog 77 #[.string s, .int .u8 c] w fun e w' => e = .returned (.int .i64 (Lib.indexByte s.data.toList c.toNat.toUInt8)) ∧ w' = w := by
  go_enter Tryd.func77, Tryd.ntmps77
  go_wp2
  rw [run_callFunc_extern Tryd.func92 (by kernel_rfl) (by kernel_rfl) (by kernel_rfl) (e := Extern.BytealgIndexByte.indexByte) (by kernel_rfl), Lib.run_indexByteString]
  simp only [Result.andThen]
  rw [Oper.upon_value]
  go_wp2
  go_ret
  exact ⟨rfl, rfl⟩
theorem stringslite_IndexByte_c (s : ByteArray) (c : Int) : AC Tryd.prog 77 [.v (.string s), .v (.int .u8 c)] [] (I (Lib.indexByte s.data.toList c.toNat.toUInt8)) [] :=
  AC.ofPure (vs := [.string s, .int .u8 c]) ⟨_, Tryd.func77, by kernel_rfl, by kernel_rfl⟩ (stringslite_IndexByte_calls s c)
theorem strings_IndexByte_c (s : ByteArray) (c : Int) : AC Tryd.prog 57 [.v (.string s), .v (.int .u8 c)] [] (I (Lib.indexByte s.data.toList c.toNat.toUInt8)) [] := by
  refine AC.intro (fn := Tryd.f57) (c := ?_) 8 Tryd.func57 (by rfl) (by kernel_rfl) (by kernel_rfl) (Nat.le_of_ble_eq_true rfl) fun e hP hf hn h0 hE => ?_
  have hte : TEok e.P te := hP ▸ teOk
  have hmx : e.P.follows .mixedOrders = true := hP ▸ mixedOk
  refine Go.run hte hn 100 ?_; simp only [go_sem, Nat.reduceBEq, Nat.reduceLT, Nat.reduceAdd, Nat.reduceMul, Nat.reduceLeDiff]
  refine Go.call0 hP (stringslite_IndexByte_c s c) rfl rfl rfl (by omega) (by simp [go_sem, tsI, slI, I, renL_ints, blk_ren, en_live, en_dead, ints_length, ints_nil, ints_one]) ?_
  refine Go.run hte hn 100 ?_; simp only [go_sem, Nat.reduceBEq, Nat.reduceLT, Nat.reduceAdd, Nat.reduceMul, Nat.reduceLeDiff]
  refine Go.retG hte hE hf [] rfl (by simp [go_sem, tsI, slI, I, renL_ints, blk_ren, en_live, en_dead, ints_length, ints_nil, ints_one]) rfl (by rw [h0]; rfl) trivial
def inBy (by_ : ByteArray) (c : Int) : Bool := by_.data.toList.any fun b => decide ((b.toNat : Int) = c)
theorem byteAt_lt (s : ByteArray) (n : Nat) : 0 ≤ byteAt s n ∧ byteAt s n < 256 := by
  unfold byteAt
  have := (s.data.toList.getD n 0).toNat_lt
  omega
theorem inBy_index (by_ : ByteArray) (c : Int) (h0 : 0 ≤ c) (h1 : c < 256) : decide (Lib.indexByte by_.data.toList c.toNat.toUInt8 ≥ 0) = inBy by_ c := by
  unfold inBy
  have e : ∀ b : UInt8, (b == c.toNat.toUInt8) = decide ((b.toNat : Int) = c) := fun b => by
    have h2 : c.toNat.toUInt8.toNat = c.toNat := by
      show c.toNat % 256 = c.toNat
      omega
    by_cases h : b = c.toNat.toUInt8
    · subst h
      rw [h2, beq_self_eq_true, decide_eq_true (by omega)]
    · rw [beq_eq_false_iff_ne.2 h, decide_eq_false]
      intro h3
      exact h (UInt8.toNat_inj.1 (by rw [h2]; omega))
  induction by_.data.toList with
  | nil => rfl
  | cons b l ih =>
    simp only [Lib.indexByte, List.any_cons, ← ih, e b]
    cases decide ((b.toNat : Int) = c)
    · simp only [Bool.false_or]
      have h3 : -1 ≤ Lib.indexByte l c.toNat.toUInt8 := by
        clear ih
        induction l with
        | nil => simp [Lib.indexByte]
        | cons x l ih2 =>
          unfold Lib.indexByte
          split
          · omega
          · split
            · omega
            · omega
      by_cases h4 : Lib.indexByte l c.toNat.toUInt8 = -1
      · simp [h4]
      · have h5 : (Lib.indexByte l c.toNat.toUInt8 == -1) = false := by simpa using h4
        have h6 : 0 ≤ Lib.indexByte l c.toNat.toUInt8 := by omega
        simp only [h5, Bool.false_eq_true, if_false]
        rw [decide_eq_true (show Lib.indexByte l c.toNat.toUInt8 + 1 ≥ 0 by omega), decide_eq_true (show Lib.indexByte l c.toNat.toUInt8 ≥ 0 from h6)]
    · simp
def stp (s by_ : ByteArray) : Nat → Nat × List ByteArray
  | 0 => (0, [])
  | i + 1 => if inBy by_ (byteAt s i) = true then (i + 1, (stp s by_ i).2 ++ [s.extract (stp s by_ i).1 i]) else stp s by_ i
theorem stp_le (s by_ : ByteArray) (i : Nat) : (stp s by_ i).1 ≤ i ∧ (stp s by_ i).2.length ≤ i := by
  induction i with
  | zero => exact ⟨Nat.le_refl _, Nat.le_refl _⟩
  | succ i ih =>
    rw [stp]
    split
    · exact ⟨Nat.le_refl _, by simp only [List.length_append, List.length_cons, List.length_nil]; omega⟩
    · omega
def spl (s by_ : ByteArray) : List ByteArray := (stp s by_ s.size).2 ++ [s.extract (stp s by_ s.size).1 s.size]
theorem impl_SplitAny_c (s by_ : ByteArray) (hs : s.size ≤ 1048576) : AC Tryd.prog 26 [.v (.string s), .v (.string by_)] [] (slS 0 (spl s by_)) [.live ⟨9, strs (spl s by_)⟩] := by
  refine AC.intro (fn := Tryd.f26) (c := ?_) 35 Tryd.func26 (by rfl) (by kernel_rfl) (by kernel_rfl) (Nat.le_of_ble_eq_true rfl) fun e hP hf hn h0 hE => ?_
  have hte : TEok e.P te := hP ▸ teOk
  have hmx : e.P.follows .mixedOrders = true := hP ▸ mixedOk
  refine Go.run hte hn 100 ?_; simp only [go_sem, Nat.reduceBEq, Nat.reduceLT, Nat.reduceAdd, Nat.reduceMul, Nat.reduceLeDiff]
  refine Go.virt 9 ?_
  simp only [go_sem, Nat.reduceBEq, Nat.reduceLT, Nat.reduceAdd, Nat.reduceMul, Nat.reduceLeDiff]
  refine Go.nilsl 5 0 1 rfl ?_
  simp only [go_sem, Nat.reduceBEq, Nat.reduceLT, Nat.reduceAdd, Nat.reduceMul, Nat.reduceLeDiff]
  refine Go.enter (fun i : Nat => i ≤ s.size) (fun i => s.size - i) (fun i => [(0, .v (.string s)), (1, .v (.string by_)), (5, slS 0 (stp s by_ i).2), (6, I ((stp s by_ i).1 : Nat)), (9, I s.size), (10, I i)]) (fun i => [.live ⟨9, strs (stp s by_ i).2⟩]) 0 [0] (Nat.zero_le _) rfl rfl (by rw [h0]; rfl) (by simp [go_sem, tsI, slI, I, renL_ints, blk_ren, en_live, en_dead, ints_length, ints_nil, ints_one, stp]) (by simp [go_sem, tsI, slI, I, renL_ints, blk_ren, en_live, en_dead, ints_length, ints_nil, ints_one, stp, strs]) ?_
  intro i hi
  obtain ⟨g1, g2⟩ := stp_le s by_ i
  by_cases hlt : i < s.size
  · have dA : decide ((i : Int) < (s.size : Int)) = true := decide_eq_true (by omega)
    have e2 : IntKind.i64.wrap ((i : Int) + 1) = ((i + 1 : Nat) : Int) := by rw [W64] <;> omega
    obtain ⟨b0, b1⟩ := byteAt_lt s i
    have hin := inBy_index by_ (byteAt s i) b0 b1
    have hstep : stp s by_ (i + 1) = if inBy by_ (byteAt s i) = true then (i + 1, (stp s by_ i).2 ++ [s.extract (stp s by_ i).1 i]) else stp s by_ i := rfl
    generalize stp s by_ i = p at g1 g2 hstep ⊢
    refine Go.run hte hn 100 ?_; simp only [go_sem, Nat.reduceBEq, Nat.reduceLT, Nat.reduceAdd, Nat.reduceMul, Nat.reduceLeDiff, dA, Int.toNat_natCast]
    refine ⟨⟨by omega, by omega⟩, ?_⟩
    refine Go.call0 hP (strings_IndexByte_c by_ (byteAt s i)) rfl rfl rfl (by omega) (by simp [go_sem, tsI, slI, I, renL_ints, blk_ren, en_live, en_dead, ints_length, ints_nil, ints_one]) ?_
    cases hb : inBy by_ (byteAt s i)
    · rw [hb] at hin hstep
      rw [if_neg (by simp)] at hstep
      refine Go.run hte hn 100 ?_; simp only [go_sem, Nat.reduceBEq, Nat.reduceLT, Nat.reduceAdd, Nat.reduceMul, Nat.reduceLeDiff, hin, e2]
      refine Go.round (i + 1) [0] hlt (by omega) rfl rfl (by rw [h0]; rfl) (by simp [go_sem, tsI, slI, I, renL_ints, blk_ren, en_live, en_dead, ints_length, ints_nil, ints_one, hstep]) (by simp [go_sem, tsI, slI, I, renL_ints, blk_ren, en_live, en_dead, ints_length, ints_nil, ints_one, hstep])
    · rw [hb] at hin hstep
      rw [if_pos rfl] at hstep
      refine Go.run hte hn 100 ?_; simp only [go_sem, Nat.reduceBEq, Nat.reduceLT, Nat.reduceAdd, Nat.reduceMul, Nat.reduceLeDiff, hin, e2, Int.toNat_natCast]
      refine ⟨⟨by omega, by omega, by omega⟩, ⟨by omega, by omega, by omega⟩, ?_⟩
      rw [strs_snoc]
      refine Go.round (i + 1) [2] hlt (by omega) rfl rfl (by rw [h0]; rfl) (by simp [go_sem, tsI, slI, I, renL_ints, blk_ren, en_live, en_dead, ints_length, ints_nil, ints_one, hstep]) (by simp [go_sem, tsI, slI, I, renL_ints, blk_ren, en_live, en_dead, ints_length, ints_nil, ints_one, hstep])
  · have dA : decide ((i : Int) < (s.size : Int)) = false := decide_eq_false (by omega)
    have hil : i = s.size := by omega
    subst hil
    unfold spl at hE
    generalize stp s by_ s.size = p at g1 g2 hE ⊢
    refine Go.run hte hn 100 ?_; simp only [go_sem, Nat.reduceBEq, Nat.reduceLT, Nat.reduceAdd, Nat.reduceMul, Nat.reduceLeDiff, dA, Int.toNat_natCast]
    refine ⟨⟨by omega, by omega, by omega⟩, ⟨by omega, by omega, by omega⟩, ?_⟩
    rw [strs_snoc]
    refine Go.retG hte hE hf [2] rfl (by simp [go_sem, tsI, slI, I, renL_ints, blk_ren, en_live, en_dead, ints_length, ints_nil, ints_one]) rfl (by rw [h0]; rfl) (by simp [go_sem, tsI, slI, I, renL_ints, blk_ren, en_live, en_dead, ints_length, ints_nil, ints_one])
theorem inBy_iff (by_ : ByteArray) (c : Int) : inBy by_ c = true ↔ ∃ k, k < by_.size ∧ byteAt by_ k = c := by
  unfold inBy
  rw [List.any_eq_true]
  have hl : by_.data.toList.length = by_.size := Array.length_toList
  constructor
  · rintro ⟨b, hb, he⟩
    obtain ⟨k, hk, rfl⟩ := List.mem_iff_getElem.1 hb
    refine ⟨k, by omega, ?_⟩
    unfold byteAt
    rw [List.getD_eq_getElem?_getD, List.getElem?_eq_getElem hk, Option.getD_some]
    exact of_decide_eq_true he
  · rintro ⟨k, hk, he⟩
    have hk' : k < by_.data.toList.length := by omega
    refine ⟨by_.data.toList[k], List.getElem_mem hk', decide_eq_true ?_⟩
    unfold byteAt at he
    rw [List.getD_eq_getElem?_getD, List.getElem?_eq_getElem hk', Option.getD_some] at he
    exact he
theorem spec_SplitAny_c (s by_ : ByteArray) (hs : s.size ≤ 1048576) (hby : by_.size ≤ 1048576) : AC Tryd.prog 61 [.v (.string s), .v (.string by_)] [] (strT (spl s by_)) [] := by
  refine AC.intro (fn := Tryd.f61) (c := ?_) 44 Tryd.func61 (by rfl) (by kernel_rfl) (by kernel_rfl) (Nat.le_of_ble_eq_true rfl) fun e hP hf hn h0 hE => ?_
  have hte : TEok e.P te := hP ▸ teOk
  have hmx : e.P.follows .mixedOrders = true := hP ▸ mixedOk
  refine Go.run hte hn 100 ?_; simp only [go_sem, Nat.reduceBEq, Nat.reduceLT, Nat.reduceAdd, Nat.reduceMul, Nat.reduceLeDiff]
  refine Go.enter (fun i : Nat => i ≤ s.size) (fun i => s.size - i) (fun i => [(0, .v (.string s)), (1, .v (.string by_)), (5, slS 0 (stp s by_ i).2), (6, I ((stp s by_ i).1 : Nat)), (7, I i)]) (fun i => [.live ⟨9, strs (stp s by_ i).2⟩]) 0 [0] (Nat.zero_le _) rfl rfl (by rw [h0]; rfl) (by simp [go_sem, tsI, slI, I, renL_ints, blk_ren, en_live, en_dead, ints_length, ints_nil, ints_one, stp]) (by simp [go_sem, tsI, slI, I, renL_ints, blk_ren, en_live, en_dead, ints_length, ints_nil, ints_one, stp, strs]) ?_
  intro i hi
  obtain ⟨g1, g2⟩ := stp_le s by_ i
  by_cases hlt : i < s.size
  · have dA : decide ((i : Int) < (s.size : Int)) = true := decide_eq_true (by omega)
    have e2 : IntKind.i64.wrap ((i : Int) + 1) = ((i + 1 : Nat) : Int) := by rw [W64] <;> omega
    have hstep : stp s by_ (i + 1) = if inBy by_ (byteAt s i) = true then (i + 1, (stp s by_ i).2 ++ [s.extract (stp s by_ i).1 i]) else stp s by_ i := rfl
    generalize stp s by_ i = p at g1 g2 hstep ⊢
    refine Go.run hte hn 100 ?_; simp only [go_sem, Nat.reduceBEq, Nat.reduceLT, Nat.reduceAdd, Nat.reduceMul, Nat.reduceLeDiff, dA]
    refine Go.enter (fun j : Nat => j ≤ by_.size ∧ ∀ k, k < j → byteAt by_ k ≠ byteAt s i) (fun j => by_.size - j) (fun j => [(0, .v (.string s)), (1, .v (.string by_)), (5, slS 0 p.2), (6, I p.1), (7, I i), (8, I j)]) (fun j => [.live ⟨9, strs p.2⟩]) 0 [0] ⟨Nat.zero_le _, fun k hk => absurd hk (Nat.not_lt_zero _)⟩ rfl rfl (by rw [h0]; rfl) (by simp [go_sem, tsI, slI, I, renL_ints, blk_ren, en_live, en_dead, ints_length, ints_nil, ints_one]) (by simp [go_sem, tsI, slI, I, renL_ints, blk_ren, en_live, en_dead, ints_length, ints_nil, ints_one]) ?_
    rintro j ⟨hj, hnone⟩
    by_cases hjt : j < by_.size
    · have dB : decide ((j : Int) < (by_.size : Int)) = true := decide_eq_true (by omega)
      have e3 : IntKind.i64.wrap ((j : Int) + 1) = ((j + 1 : Nat) : Int) := by clear e2; rw [W64] <;> omega
      refine Go.run hte hn 100 ?_; simp only [go_sem, Nat.reduceBEq, Nat.reduceLT, Nat.reduceAdd, Nat.reduceMul, Nat.reduceLeDiff, dB]
      refine Go.openP 6 hte hn hmx (by kernel_rfl) ?_
      simp only [go_sem, Nat.reduceBEq, Nat.reduceLT, Nat.reduceAdd, Nat.reduceMul, Nat.reduceLeDiff, Int.toNat_natCast]
      refine ⟨⟨by omega, by omega⟩, ⟨by omega, by omega⟩, ?_⟩
      by_cases hm : byteAt s i = byteAt by_ j
      · have dM : decide (byteAt s i = byteAt by_ j) = true := decide_eq_true hm
        have hb : inBy by_ (byteAt s i) = true := (inBy_iff by_ (byteAt s i)).2 ⟨j, hjt, hm.symm⟩
        rw [if_pos hb] at hstep
        refine Go.run hte hn 100 ?_; simp only [go_sem, Nat.reduceBEq, Nat.reduceLT, Nat.reduceAdd, Nat.reduceMul, Nat.reduceLeDiff, dM, e2, Int.toNat_natCast]
        refine ⟨⟨by omega, by omega, by omega⟩, ⟨by omega, by omega, by omega⟩, ?_⟩
        rw [strs_snoc]
        refine Go.round (i + 1) [2] hlt (by omega) rfl rfl (by rw [h0]; rfl) (by simp [go_sem, tsI, slI, I, renL_ints, blk_ren, en_live, en_dead, ints_length, ints_nil, ints_one, hstep]) (by simp [go_sem, tsI, slI, I, renL_ints, blk_ren, en_live, en_dead, ints_length, ints_nil, ints_one, hstep])
      · have dM : decide (byteAt s i = byteAt by_ j) = false := decide_eq_false hm
        refine Go.run hte hn 100 ?_; simp only [go_sem, Nat.reduceBEq, Nat.reduceLT, Nat.reduceAdd, Nat.reduceMul, Nat.reduceLeDiff, dM, e3]
        refine Go.round (j + 1) [0] ⟨hjt, fun k hk => ?_⟩ (by omega) rfl rfl (by rw [h0]; rfl) (by simp [go_sem, tsI, slI, I, renL_ints, blk_ren, en_live, en_dead, ints_length, ints_nil, ints_one]) (by simp [go_sem, tsI, slI, I, renL_ints, blk_ren, en_live, en_dead, ints_length, ints_nil, ints_one])
        by_cases e : k = j
        · subst e; exact fun h => hm h.symm
        · exact hnone k (by omega)
    · have dB : decide ((j : Int) < (by_.size : Int)) = false := decide_eq_false (by omega)
      have hb : ¬ inBy by_ (byteAt s i) = true := fun h => by
        obtain ⟨k, hk, he⟩ := (inBy_iff by_ (byteAt s i)).1 h
        exact hnone k (by omega) he
      rw [if_neg hb] at hstep
      refine Go.run hte hn 100 ?_; simp only [go_sem, Nat.reduceBEq, Nat.reduceLT, Nat.reduceAdd, Nat.reduceMul, Nat.reduceLeDiff, dB, e2]
      refine Go.round (i + 1) [0] hlt (by omega) rfl rfl (by rw [h0]; rfl) (by simp [go_sem, tsI, slI, I, renL_ints, blk_ren, en_live, en_dead, ints_length, ints_nil, ints_one, hstep]) (by simp [go_sem, tsI, slI, I, renL_ints, blk_ren, en_live, en_dead, ints_length, ints_nil, ints_one, hstep])
  · have dA : decide ((i : Int) < (s.size : Int)) = false := decide_eq_false (by omega)
    have hil : i = s.size := by omega
    subst hil
    unfold spl at hE
    generalize stp s by_ s.size = p at g1 g2 hE ⊢
    refine Go.run hte hn 100 ?_; simp only [go_sem, Nat.reduceBEq, Nat.reduceLT, Nat.reduceAdd, Nat.reduceMul, Nat.reduceLeDiff, dA, Int.toNat_natCast]
    refine ⟨⟨by omega, by omega, by omega⟩, ⟨by omega, by omega, by omega⟩, ?_⟩
    rw [strs_snoc]
    have hl : (p.2 ++ [s.extract p.1 s.size]).length = p.2.length + 1 := by simp
    have h2 := strs_all (p.2 ++ [s.extract p.1 s.size])
    rw [hl] at h2
    refine Go.freeze (nm := 2) rfl ?_
    simp only [go_sem, Nat.reduceBEq, Nat.reduceLT, Nat.reduceAdd, Nat.reduceMul, Nat.reduceLeDiff, h2]
    refine Go.retG hte hE hf [] rfl (by simp [go_sem, tsI, slI, I, renL_ints, blk_ren, en_live, en_dead, ints_length, ints_nil, ints_one, hl]) rfl (by rw [h0]; rfl) trivial

end Go.Proofs.YtjnlpomfjlpikaaDoor.Ab
