/- Contracts of the given program's functions and of the reference's (walks). -/
import Derived.Test.YtjnlpomfjlpikaaDoorAbT
import Derived.Test.YtjnlpomfjlpikaaDoorAbP
import Derived.Test.YtjnlpomfjlpikaaDoorAbQ
import Derived.Test.YtjnlpomfjlpikaaDoorAbS
import Derived.Test.YtjnlpomfjlpikaaDoorAbI
import Derived.Test.YtjnlpomfjlpikaaDoorW64
set_option linter.unusedVariables false
set_option linter.unusedSimpArgs false
set_option maxRecDepth 10000
namespace Go.Proofs.YtjnlpomfjlpikaaDoor.Ab
open Go Go.RowKit
attribute [local go_sem] q_run q_seq q_skip q_block q_exit q_cond q_region q_nil q_op q_blk q_loop q_ret q_open q_inv q_fin q_go q_h0 q_h1 q_gskip q_stepC q_brt q_brf q_stepX q_sskip q_sskip0 q_val q_need q_new q_newc q_sv q_sto q_c1 q_c2 q_c3 q_c4 q_c5 q_c6 q_c7 q_c8 q_c9 q_c10 q_c11 q_c12 q_c13 q_c14 q_c15 q_c16 q_c17 q_c18 q_c19 q_c20 q_c21 q_c22 q_g0 q_g1 q_gC q_gD q_gE q_gB1 q_gB2 q_gB3 q_gB4 q_ev1 q_ev2 q_ev3 q_evo0 q_evo1 q_rv q_rva q_o1 q_o2 q_pk1 q_pk2 q_ld1p q_ld1e q_ld1t q_ldnp q_ldne q_ldnt q_sub0 q_sub1 q_subc q_stS q_stT q_box q_bldr q_bld q_fill0 q_fill1 q_fillB q_bsr q_bsl q_fap q_fat q_iasl q_iats q_lnsl q_lnts q_lnv q_lnS q_exA q_mkB q_lo0 q_lo1 q_hi0 q_hi1 q_slcA q_slcU1 q_slcU2 q_slcT1 q_slcT2 q_slsA q_slsU q_slsT q_apA q_apC q_srcE1 q_srcE2 q_srcE3 q_srcA1 q_srcB q_srcA2 q_srcA3 q_fnA q_nc1 q_nc2 q_bin q_bin2 q_bin3 q_bin4 q_bin5 q_bin6 q_bin7 q_bin8 q_bin9 q_bin10 q_i1 q_i2 q_i3 q_i4 q_i5 q_i6 q_i7 q_i8 q_i9 q_i10 q_i11 q_s1 q_s2 q_s3 q_u1 q_u2 q_min q_max q_ce1 q_ce2 q_ce3 q_ce4 q_ce5 q_ce6 q_ce7 q_ce8 q_ce9 q_ce10 q_ce11 q_on2 q_on3 q_on4 q_on5 q_on6 q_on7 q_on8 q_on9 q_on10 q_on11 q_enr1 q_gEt q_zr0 q_zr1 q_zgs q_zgg q_zk1 q_zk2 q_zd q_zv1 q_zv2 q_zv3 q_zp1 q_zp2 q_zf q_zs1 q_zs2 q_za q_za1 q_fi0 q_fi1 q_ln0 q_ln1 q_h01 q_h02 q_h03 q_h04 q_h05 q_h06 q_h07 q_h08 q_h09 q_h10 q_h11 q_h12 q_h13 q_h14 q_h15 q_h16 q_h17 q_h18 q_h19 q_h20 q_h21 q_h22 q_h23 q_h24 q_al q_b0 q_rs1 q_rs2 q_rs3 q_rs4 q_rs5 q_rs6 q_rs7 q_rs8 q_ro1 q_ro2 q_ro3 q_ro4 q_ro5 q_ro6 q_ro7 q_ro8 q_ixS q_cvS1 q_cvN q_u8s0 q_u8s1 q_u8s2 q_strS q_h25 q_shr q_i12 q_i13 q_bn q_bn0 q_bn1 q_zbn q_zn cond_true cond_false decide_true decide_false List.length_cons List.length_nil List.nil_append List.cons_append true_and and_true List.toList_toArray Option.map_some Nat.zero_add Nat.add_zero Bool.and_self Bool.and_true Bool.true_and Bool.and_false Bool.false_and Bool.not_true Bool.not_false FitF FitL LendL wb keys nodupB firstOk tupA op_move op_assign op_pick op_un op_box op_nc op_mf op_ex op_min op_max get put del nth evs evp sets setN ones popTo args0 AV.ren AV.renL rho List.take_succ_cons List.take_zero List.drop_succ_cons List.drop_zero Option.isNone_none Option.isNone_some o_al134 o_al29 o_al75 o_ap22 o_ap34 o_ap41 o_bi121 o_bi2 o_bi21 o_bi3 o_bi4 o_bi5 o_bi73 o_bi79 o_bi9 o_bi96 o_bs22_0 o_bs22_1 o_bs34_1 o_bs41_0 o_bs41_1 o_bs41_5 o_bu120 o_bu134 o_bu29 o_bu78 o_cn121 o_cn2 o_cn21 o_cn3 o_cn5 o_cn79 o_cn96 o_cv121_5 o_cv121_79 o_cv121_96 o_cv2_96 o_cv34_9 o_cv3_5 o_cv3_79 o_cv3_96 o_cv5_121 o_cv5_21 o_cv5_3 o_cv5_96 o_cv79_121 o_cv79_3 o_cv96_121 o_cv96_2 o_cv96_5 o_fa134_0 o_fa134_1 o_fa29_0 o_fa29_1 o_fa51_0 o_fa51_1 o_fa75_0 o_fa75_1 o_fa78_0 o_fa78_1 o_fa78_2 o_ia22 o_ia34 o_ia41 o_ib4 o_ip73 o_ip90 o_ix9 o_ld134 o_ld22 o_ld29 o_ld3 o_ld34 o_ld4 o_ld5 o_ld51 o_ld73 o_ld9 o_ld96 o_ln22 o_ln34 o_ln41 o_ln9 o_mk22 o_mk34 o_mk41 o_sl22 o_sl34 o_sl41 o_sl9 o_st134 o_st22 o_st29 o_st3 o_st34 o_st4 o_st5 o_st73 o_st9 o_zb22 o_zb34 o_zb41 I tsI slI renL_ints blk_ren en_live en_dead List.set_cons_zero List.set_cons_succ List.map_cons List.map_nil List.append_nil frzF frzS AV.frz AV.frzL frzL_ints ints_all ints_all' ints_take1 ints_mk ints_mk1 mk_length res_ints resOk_ints plain_ints plainA plainL plainE plainS List.all_cons List.all_nil strT slS renL_strs frzL_strs res_strs resOk_strs plain_strs strs_all strs_all' strs_length
/-! ### The reference's cursor over a code -/
def by8 (l : List Int) : List AV := l.map fun n => .v (.int .u8 n)
def tsB (l : List Int) : AV := .ts l.length (by8 l)
def curE (l : List Int) (i h : Int) : En := .live ⟨78, [tsB l, I i, I h]⟩
theorem by8_length (l : List Int) : (by8 l).length = l.length := by simp [by8]
theorem renL_by8 (ρ : Nat → Nat) : ∀ l : List Int, AV.renL ρ (by8 l) = by8 l
  | [] => rfl
  | x :: l => by
    show AV.renL ρ (.v (.int .u8 x) :: by8 l) = .v (.int .u8 x) :: by8 l
    rw [AV.renL, AV.ren, renL_by8 ρ l]
theorem frzL_by8 (nm : Nat) (cs : List AV) : ∀ l : List Int, AV.frzL nm cs (by8 l) = by8 l
  | [] => rfl
  | x :: l => by
    show AV.frzL nm cs (.v (.int .u8 x) :: by8 l) = .v (.int .u8 x) :: by8 l
    rw [AV.frzL, AV.frz, frzL_by8 nm cs l]
attribute [local go_sem] renL_by8 frzL_by8 by8_length
theorem nth_by8 {l : List Int} {i : Nat} (h : i < l.length) : nth (by8 l) i = some (.v (.int .u8 (rd l i))) := by
  rw [nth_eq, by8, List.getElem?_map, List.getElem?_eq_getElem h, rd_nat, List.getD_eq_getElem?_getD, List.getElem?_eq_getElem h]
  rfl
theorem and255 (x : Int) : 0 ≤ andA .i64 x 255 ∧ andA .i64 x 255 ≤ 255 := by
  unfold andA
  have h1 : (BitVec.ofInt IntKind.i64.bits x &&& BitVec.ofInt IntKind.i64.bits 255).toNat ≤ 255 := by
    rw [BitVec.toNat_and]
    exact Nat.and_le_right
  rw [W64 (by omega) (by omega)]
  omega
def hB (h : Int) : Int := IntKind.i64.wrap (IntKind.i64.wrap (h * 6364136223846793005) + 1442695040888963407)
def x0B (h : Int) : Int := andA .i64 (xorA .i64 (shrA .i64 (hB h) 33) (shrA .i64 (hB h) 45)) 255
def xB (l : List Int) (i h : Int) : Int := if i < l.length then andA .i64 (IntKind.i64.wrap (x0B h + IntKind.i64.wrap (rd l i))) 255 else x0B h
def iN (l : List Int) (i : Nat) : Nat := if i < l.length then i + 1 else i
theorem xB_bd (l : List Int) (i h : Int) : 0 ≤ xB l i h ∧ xB l i h ≤ 255 := by
  unfold xB
  split
  · exact and255 _
  · exact and255 _
theorem iN_bd {l : List Int} {i : Nat} (h1 : i ≤ l.length) : iN l i ≤ l.length := by
  unfold iN
  split <;> omega
theorem l01Byte_c (l : List Int) (i : Nat) (h : Int) (hl : l.length ≤ 1048576) (hi : i ≤ l.length) : AC Tryd.prog 51 [.p 0 0] [curE l i h] (I (xB l i h)) [curE l (iN l i : Nat) (hB h)] := by
  refine AC.intro (fn := Tryd.f51) (c := ?_) 58 Tryd.func51 (by rfl) (by kernel_rfl) (by kernel_rfl) (Nat.le_of_ble_eq_true rfl) fun e hP hf hn h0 hE => ?_
  have hte : TEok e.P te := hP ▸ teOk
  have hmx : e.P.follows .mixedOrders = true := hP ▸ mixedOk
  unfold curE tsB at *
  have e0 : IntKind.i64.wrap (IntKind.i64.wrap (h * 6364136223846793005) + 1442695040888963407) = hB h := rfl
  have e1 : andA .i64 (xorA .i64 (shrA .i64 (hB h) 33) (shrA .i64 (hB h) 45)) 255 = x0B h := rfl
  refine Go.run hte hn 100 ?_; simp only [go_sem, Nat.reduceBEq, Nat.reduceLT, Nat.reduceAdd, Nat.reduceMul, Nat.reduceLeDiff, e0]
  refine Go.openP 12 hte hn hmx (by kernel_rfl) ?_
  simp only [go_sem, Nat.reduceBEq, Nat.reduceLT, Nat.reduceAdd, Nat.reduceMul, Nat.reduceLeDiff, e1]
  refine ⟨by decide, by decide, ?_⟩
  refine Go.run hte hn 100 ?_; simp only [go_sem, Nat.reduceBEq, Nat.reduceLT, Nat.reduceAdd, Nat.reduceMul, Nat.reduceLeDiff, e1]
  refine Go.openP 10 hte hn hmx (by kernel_rfl) ?_
  simp only [go_sem, Nat.reduceBEq, Nat.reduceLT, Nat.reduceAdd, Nat.reduceMul, Nat.reduceLeDiff]
  by_cases hlt : i < l.length
  · have dA : decide ((i : Int) < (l.length : Int)) = true := decide_eq_true (by omega)
    have ex : xB l i h = andA .i64 (IntKind.i64.wrap (x0B h + IntKind.i64.wrap (rd l i))) 255 := if_pos (by omega)
    have ei : ((iN l i : Nat) : Int) = (i : Int) + 1 := by unfold iN; rw [if_pos hlt]; rfl
    have w1 : IntKind.i64.wrap ((i : Int) + 1) = (i : Int) + 1 := by rw [W64] <;> omega
    rw [ex, ei] at hE
    refine Go.run hte hn 100 ?_; simp only [go_sem, Nat.reduceBEq, Nat.reduceLT, Nat.reduceAdd, Nat.reduceMul, Nat.reduceLeDiff, dA]
    refine Go.openP 14 hte hn hmx (by kernel_rfl) ?_
    simp only [go_sem, Nat.reduceBEq, Nat.reduceLT, Nat.reduceAdd, Nat.reduceMul, Nat.reduceLeDiff, Int.toNat_natCast, Nat.mul_one, nth_by8 hlt]
    refine ⟨⟨by omega, by omega, by omega⟩, ?_⟩
    refine Go.run hte hn 100 ?_; simp only [go_sem, Nat.reduceBEq, Nat.reduceLT, Nat.reduceAdd, Nat.reduceMul, Nat.reduceLeDiff, w1]
    refine Go.retG hte hE hf [0] rfl (by simp [go_sem, tsI, slI, I, renL_ints, blk_ren, en_live, en_dead, ints_length, ints_nil, ints_one]) rfl (by rw [h0]; rfl) (by simp [go_sem, tsI, slI, I, renL_ints, blk_ren, en_live, en_dead, ints_length, ints_nil, ints_one])
  · have dA : decide ((i : Int) < (l.length : Int)) = false := decide_eq_false (by omega)
    have ex : xB l i h = x0B h := if_neg (by omega)
    have ei : ((iN l i : Nat) : Int) = (i : Int) := by unfold iN; rw [if_neg hlt]
    rw [ex, ei] at hE
    refine Go.run hte hn 100 ?_; simp only [go_sem, Nat.reduceBEq, Nat.reduceLT, Nat.reduceAdd, Nat.reduceMul, Nat.reduceLeDiff, dA]
    refine Go.retG hte hE hf [0] rfl (by simp [go_sem, tsI, slI, I, renL_ints, blk_ren, en_live, en_dead, ints_length, ints_nil, ints_one]) rfl (by rw [h0]; rfl) (by simp [go_sem, tsI, slI, I, renL_ints, blk_ren, en_live, en_dead, ints_length, ints_nil, ints_one])
theorem tmod_bd {x n : Int} (h0 : 0 ≤ x) (hn : 0 < n) : 0 ≤ Int.tmod x n ∧ Int.tmod x n < n := by
  rw [Int.tmod_eq_emod_of_nonneg h0]
  exact ⟨Int.emod_nonneg _ (by omega), Int.emod_lt_of_pos _ hn⟩
theorem l01Below_c (l : List Int) (i : Nat) (h n : Int) (hl : l.length ≤ 1048576) (hi : i ≤ l.length) (h1 : 1 ≤ n) (h2 : n ≤ 256) : AC Tryd.prog 54 [.p 0 0, I n] [curE l i h] (I (Int.tmod (xB l i h) n)) [curE l (iN l i : Nat) (hB h)] := by
  refine AC.intro (fn := Tryd.f54) (c := ?_) 37 Tryd.func54 (by rfl) (by kernel_rfl) (by kernel_rfl) (Nat.le_of_ble_eq_true rfl) fun e hP hf hn h0 hE => ?_
  have hte : TEok e.P te := hP ▸ teOk
  have hmx : e.P.follows .mixedOrders = true := hP ▸ mixedOk
  have C := l01Byte_c l i h hl hi
  unfold curE tsB at *
  have d1 : decide (n ≤ 0) = false := decide_eq_false (by omega)
  have d2 : decide (n ≤ 256) = true := decide_eq_true h2
  refine Go.run hte hn 100 ?_; simp only [go_sem, Nat.reduceBEq, Nat.reduceLT, Nat.reduceAdd, Nat.reduceMul, Nat.reduceLeDiff, d1, d2]
  refine Go.call hP (C) [0] rfl rfl rfl (by omega) (by simp [go_sem, tsI, slI, I, renL_ints, blk_ren, en_live, en_dead, ints_length, ints_nil, ints_one]) (Lend.mk' rfl (by simp [go_sem, tsI, slI, I, renL_ints, blk_ren, en_live, en_dead, ints_length, ints_nil, ints_one])) ?_
  refine Go.run hte hn 100 ?_; simp only [go_sem, Nat.reduceBEq, Nat.reduceLT, Nat.reduceAdd, Nat.reduceMul, Nat.reduceLeDiff]
  refine ⟨by omega, ?_⟩
  refine Go.retG hte hE hf [0] rfl (by simp [go_sem, tsI, slI, I, renL_ints, blk_ren, en_live, en_dead, ints_length, ints_nil, ints_one]) rfl (by rw [h0]; rfl) (by simp [go_sem, tsI, slI, I, renL_ints, blk_ren, en_live, en_dead, ints_length, ints_nil, ints_one])
def sg (ls : List ByteArray) (k : Nat) : ByteArray := ls.getD k ⟨#[]⟩
theorem nth_sg {ls : List ByteArray} {k : Nat} (h : k < ls.length) : nth (strs ls) k = some (.v (.string (sg ls k))) := by
  unfold sg
  rw [nth_eq, strs, List.getElem?_map, List.getElem?_eq_getElem h, List.getD_eq_getElem?_getD, List.getElem?_eq_getElem h]
  rfl
theorem l01Str_c (l : List Int) (i : Nat) (h : Int) (ls : List ByteArray) (hl : l.length ≤ 1048576) (hi : i ≤ l.length) (h1 : 1 ≤ ls.length) (h2 : ls.length ≤ 256) : AC Tryd.prog 55 [.p 0 0, slS 1 ls] [curE l i h, .live ⟨9, strs ls⟩] (.v (.string (sg ls (Int.tmod (xB l i h) ls.length).toNat))) [curE l (iN l i : Nat) (hB h), .live ⟨9, strs ls⟩] := by
  refine AC.intro (fn := Tryd.f55) (c := ?_) 12 Tryd.func55 (by rfl) (by kernel_rfl) (by kernel_rfl) (Nat.le_of_ble_eq_true rfl) fun e hP hf hn h0 hE => ?_
  have hte : TEok e.P te := hP ▸ teOk
  have hmx : e.P.follows .mixedOrders = true := hP ▸ mixedOk
  have C := l01Below_c l i h ls.length hl hi (by omega) (by omega)
  unfold curE tsB at *
  obtain ⟨b0, b1⟩ := tmod_bd (x := xB l i h) (n := ls.length) (xB_bd l i h).1 (by omega)
  generalize Int.tmod (xB l i h) ls.length = m at C b0 b1 hE
  obtain ⟨k, rfl⟩ : ∃ k : Nat, m = (k : Int) := ⟨m.toNat, by omega⟩
  rw [Int.toNat_natCast] at hE
  have hk : k < ls.length := by omega
  have hnt := nth_sg hk
  refine Go.run hte hn 100 ?_; simp only [go_sem, Nat.reduceBEq, Nat.reduceLT, Nat.reduceAdd, Nat.reduceMul, Nat.reduceLeDiff]
  refine Go.call hP (C) [0] rfl rfl rfl (by omega) (by simp [go_sem, tsI, slI, I, renL_ints, blk_ren, en_live, en_dead, ints_length, ints_nil, ints_one]) (Lend.mk' rfl (by simp [go_sem, tsI, slI, I, renL_ints, blk_ren, en_live, en_dead, ints_length, ints_nil, ints_one])) ?_
  refine Go.run hte hn 100 ?_; simp only [go_sem, Nat.reduceBEq, Nat.reduceLT, Nat.reduceAdd, Nat.reduceMul, Nat.reduceLeDiff, Int.toNat_natCast, Nat.mul_one, hnt]
  refine ⟨⟨by omega, by omega⟩, ?_⟩
  refine Go.retG hte hE hf [0, 1] rfl (by simp [go_sem, tsI, slI, I, renL_ints, blk_ren, en_live, en_dead, ints_length, ints_nil, ints_one]) rfl (by rw [h0]; rfl) (by simp [go_sem, tsI, slI, I, renL_ints, blk_ren, en_live, en_dead, ints_length, ints_nil, ints_one])
def hN (l : List Int) : Nat → Int
  | 0 => IntKind.i64.wrap (1975 + (l.length : Int))
  | j + 1 => andA .i64 (IntKind.i64.wrap (IntKind.i64.wrap (IntKind.i64.wrap (hN l j * 73) + IntKind.i64.wrap (rd l j)) + 7)) 1073741823
theorem l01New_c (l : List Int) (hl : l.length ≤ 1048576) : AC Tryd.prog 53 [tsB l] [] (.p 0 0) [curE l (0 : Nat) (hN l (min l.length 4000))] := by
  refine AC.intro (fn := Tryd.f53) (c := ?_) 32 Tryd.func53 (by rfl) (by kernel_rfl) (by kernel_rfl) (Nat.le_of_ble_eq_true rfl) fun e hP hf hn h0 hE => ?_
  have hte : TEok e.P te := hP ▸ teOk
  have hmx : e.P.follows .mixedOrders = true := hP ▸ mixedOk
  unfold curE tsB at *
  refine Go.run hte hn 100 ?_; simp only [go_sem, Nat.reduceBEq, Nat.reduceLT, Nat.reduceAdd, Nat.reduceMul, Nat.reduceLeDiff]
  refine Go.enter (fun j : Nat => j ≤ min l.length 4000) (fun j => min l.length 4000 - j) (fun j => [(0, tsB l), (3, I (hN l j)), (4, I j)]) (fun j => []) 0 [] (Nat.zero_le _) rfl rfl (by rw [h0]; rfl) (by simp [go_sem, tsI, slI, I, renL_ints, blk_ren, en_live, en_dead, ints_length, ints_nil, ints_one, hN, tsB]) trivial ?_
  intro j hj
  unfold tsB
  by_cases hlt : j < min l.length 4000
  · have dA : decide ((j : Int) < (l.length : Int)) = true := decide_eq_true (by omega)
    have dB : decide ((j : Int) < 4000) = true := decide_eq_true (by omega)
    have e2 : IntKind.i64.wrap ((j : Int) + 1) = ((j + 1 : Nat) : Int) := by rw [W64] <;> omega
    have e3 : andA .i64 (IntKind.i64.wrap (IntKind.i64.wrap (IntKind.i64.wrap (hN l j * 73) + IntKind.i64.wrap (rd l j)) + 7)) 1073741823 = hN l (j + 1) := rfl
    have hnt := nth_by8 (l := l) (i := j) (by omega)
    refine Go.run hte hn 100 ?_; simp only [go_sem, Nat.reduceBEq, Nat.reduceLT, Nat.reduceAdd, Nat.reduceMul, Nat.reduceLeDiff, dA, dB, Int.toNat_natCast, Nat.mul_one, hnt, e2, e3]
    refine ⟨⟨by omega, by omega, by omega⟩, ?_⟩
    refine Go.round (j + 1) [] hlt (by omega) rfl rfl (by rw [h0]; rfl) (by simp [go_sem, tsI, slI, I, renL_ints, blk_ren, en_live, en_dead, ints_length, ints_nil, ints_one]) trivial
  · have hjj : j = min l.length 4000 := by omega
    rw [← hjj] at hE
    by_cases hj2 : j < l.length
    · have dA : decide ((j : Int) < (l.length : Int)) = true := decide_eq_true (by omega)
      have dB : decide ((j : Int) < 4000) = false := decide_eq_false (by omega)
      refine Go.run hte hn 100 ?_; simp only [go_sem, Nat.reduceBEq, Nat.reduceLT, Nat.reduceAdd, Nat.reduceMul, Nat.reduceLeDiff, dA, dB]
      refine Go.retG hte hE hf [0] rfl (by simp [go_sem, tsI, slI, I, renL_ints, blk_ren, en_live, en_dead, ints_length, ints_nil, ints_one]) rfl (by rw [h0]; rfl) (by simp [go_sem, tsI, slI, I, renL_ints, blk_ren, en_live, en_dead, ints_length, ints_nil, ints_one])
    · have dA : decide ((j : Int) < (l.length : Int)) = false := decide_eq_false (by omega)
      refine Go.run hte hn 100 ?_; simp only [go_sem, Nat.reduceBEq, Nat.reduceLT, Nat.reduceAdd, Nat.reduceMul, Nat.reduceLeDiff, dA]
      refine Go.retG hte hE hf [0] rfl (by simp [go_sem, tsI, slI, I, renL_ints, blk_ren, en_live, en_dead, ints_length, ints_nil, ints_one]) rfl (by rw [h0]; rfl) (by simp [go_sem, tsI, slI, I, renL_ints, blk_ren, en_live, en_dead, ints_length, ints_nil, ints_one])
def cst (l : List Int) : Nat → Nat × Int
  | 0 => (0, hN l (min l.length 4000))
  | j + 1 => (iN l (cst l j).1, hB (cst l j).2)
theorem cst_le (l : List Int) : ∀ j, (cst l j).1 ≤ l.length
  | 0 => Nat.zero_le _
  | j + 1 => iN_bd (cst_le l j)
theorem l32New_c (l : List Int) (hl : l.length ≤ 1048576) : AC Tryd.prog 50 [tsB l, I 1] [] (.p 0 0) [curE l (cst l 1).1 (cst l 1).2] := by
  refine AC.intro (fn := Tryd.f50) (c := ?_) 17 Tryd.func50 (by rfl) (by kernel_rfl) (by kernel_rfl) (Nat.le_of_ble_eq_true rfl) fun e hP hf hn h0 hE => ?_
  have hte : TEok e.P te := hP ▸ teOk
  have hmx : e.P.follows .mixedOrders = true := hP ▸ mixedOk
  have C := l01New_c l hl
  unfold curE tsB at *
  refine Go.run hte hn 100 ?_; simp only [go_sem, Nat.reduceBEq, Nat.reduceLT, Nat.reduceAdd, Nat.reduceMul, Nat.reduceLeDiff]
  refine Go.call0 hP (C) rfl rfl rfl (by omega) (by simp [go_sem, tsI, slI, I, renL_ints, blk_ren, en_live, en_dead, ints_length, ints_nil, ints_one]) ?_
  refine Go.run hte hn 100 ?_; simp only [go_sem, Nat.reduceBEq, Nat.reduceLT, Nat.reduceAdd, Nat.reduceMul, Nat.reduceLeDiff]
  refine Go.enter (fun j : Nat => j ≤ 1) (fun j => 1 - j) (fun j => [(1, I 1), (5, .p 0 0), (6, I j)]) (fun j => [curE l (cst l j).1 (cst l j).2]) 0 [0] (by omega) rfl rfl (by rw [h0]; rfl) (by simp [go_sem, tsI, slI, I, renL_ints, blk_ren, en_live, en_dead, ints_length, ints_nil, ints_one]) (by simp [go_sem, tsI, slI, I, renL_ints, blk_ren, en_live, en_dead, ints_length, ints_nil, ints_one, curE, tsB, cst]) ?_
  intro j hj
  by_cases hj0 : j = 0
  · subst hj0
    have CB := l01Byte_c l (cst l 0).1 (cst l 0).2 hl (cst_le l 0)
    have dA : decide (((0 : Nat) : Int) < 1) = true := rfl
    have e2 : IntKind.i64.wrap (((0 : Nat) : Int) + 1) = ((1 : Nat) : Int) := rfl
    unfold curE tsB at *
    refine Go.run hte hn 100 ?_; simp only [go_sem, Nat.reduceBEq, Nat.reduceLT, Nat.reduceAdd, Nat.reduceMul, Nat.reduceLeDiff, dA]
    refine Go.call hP (CB) [0] rfl rfl rfl (by omega) (by simp [go_sem, tsI, slI, I, renL_ints, blk_ren, en_live, en_dead, ints_length, ints_nil, ints_one]) (Lend.mk' rfl (by simp [go_sem, tsI, slI, I, renL_ints, blk_ren, en_live, en_dead, ints_length, ints_nil, ints_one])) ?_
    refine Go.run hte hn 100 ?_; simp only [go_sem, Nat.reduceBEq, Nat.reduceLT, Nat.reduceAdd, Nat.reduceMul, Nat.reduceLeDiff, e2]
    have c1 : cst l 1 = (iN l (cst l 0).1, hB (cst l 0).2) := rfl
    refine Go.round 1 [0] (by omega) (by omega) rfl rfl (by rw [h0]; rfl) (by simp [go_sem, tsI, slI, I, renL_ints, blk_ren, en_live, en_dead, ints_length, ints_nil, ints_one]) (by simp [go_sem, tsI, slI, I, renL_ints, blk_ren, en_live, en_dead, ints_length, ints_nil, ints_one, curE, tsB, c1])
  · have hj1 : j = 1 := by omega
    subst hj1
    have dA : decide (((1 : Nat) : Int) < 1) = false := rfl
    unfold curE tsB at *
    refine Go.run hte hn 100 ?_; simp only [go_sem, Nat.reduceBEq, Nat.reduceLT, Nat.reduceAdd, Nat.reduceMul, Nat.reduceLeDiff, dA]
    refine Go.retG hte hE hf [0] rfl (by simp [go_sem, tsI, slI, I, renL_ints, blk_ren, en_live, en_dead, ints_length, ints_nil, ints_one]) rfl (by rw [h0]; rfl) (by simp [go_sem, tsI, slI, I, renL_ints, blk_ren, en_live, en_dead, ints_length, ints_nil, ints_one])
def NumR (x : AV) : Prop := ∃ v : Int, 0 ≤ v ∧ v ≤ 65535 ∧ x = I v
theorem MakeNum_cx {Φ : World → Prop} (l : List Int) (hl : l.length ≤ 1048576) : ACx Φ Tryd.prog 21 [tsB l, I 1] NumR := by
  refine ACx.intro (fn := Tryd.f21) (c := ?_) 15 Tryd.func21 (by rfl) (by kernel_rfl) (by kernel_rfl) (Nat.le_of_ble_eq_true rfl) fun e hP hf hn h0 hw0 hE => ?_
  have hte : TEok e.P te := hP ▸ teOk
  have hmx : e.P.follows .mixedOrders = true := hP ▸ mixedOk
  have C := l32New_c l hl
  have C1 := l01Byte_c l (cst l 1).1 (cst l 1).2 hl (cst_le l 1)
  have C2 := l01Byte_c l (cst l 2).1 (cst l 2).2 hl (cst_le l 2)
  have e2 : cst l 2 = (iN l (cst l 1).1, hB (cst l 1).2) := rfl
  have e21 : iN l (cst l 1).1 = (cst l 2).1 := rfl
  have e22 : hB (cst l 1).2 = (cst l 2).2 := rfl
  rw [e21, e22] at C1
  obtain ⟨a0, a1⟩ := xB_bd l (cst l 1).1 (cst l 1).2
  obtain ⟨b0, b1⟩ := xB_bd l (cst l 2).1 (cst l 2).2
  generalize xB l (cst l 1).1 (cst l 1).2 = x at C1 a0 a1
  generalize xB l (cst l 2).1 (cst l 2).2 = y at C2 b0 b1
  unfold curE tsB at *
  have w1 : IntKind.i64.wrap (x * 256) = x * 256 := by rw [W64] <;> omega
  have w2 : IntKind.i64.wrap (x * 256 + y) = x * 256 + y := by rw [W64] <;> omega
  refine Go.run hte hn 100 ?_; simp only [go_sem, Nat.reduceBEq, Nat.reduceLT, Nat.reduceAdd, Nat.reduceMul, Nat.reduceLeDiff]
  refine Go.call0 hP (C) rfl rfl rfl (by omega) (by simp [go_sem, tsI, slI, I, renL_ints, blk_ren, en_live, en_dead, ints_length, ints_nil, ints_one]) ?_
  refine Go.run hte hn 100 ?_; simp only [go_sem, Nat.reduceBEq, Nat.reduceLT, Nat.reduceAdd, Nat.reduceMul, Nat.reduceLeDiff]
  refine Go.call hP (C1) [0] rfl rfl rfl (by omega) (by simp [go_sem, tsI, slI, I, renL_ints, blk_ren, en_live, en_dead, ints_length, ints_nil, ints_one]) (Lend.mk' rfl (by simp [go_sem, tsI, slI, I, renL_ints, blk_ren, en_live, en_dead, ints_length, ints_nil, ints_one])) ?_
  refine Go.run hte hn 100 ?_; simp only [go_sem, Nat.reduceBEq, Nat.reduceLT, Nat.reduceAdd, Nat.reduceMul, Nat.reduceLeDiff, w1]
  refine Go.call hP (C2) [0] rfl rfl rfl (by omega) (by simp [go_sem, tsI, slI, I, renL_ints, blk_ren, en_live, en_dead, ints_length, ints_nil, ints_one]) (Lend.mk' rfl (by simp [go_sem, tsI, slI, I, renL_ints, blk_ren, en_live, en_dead, ints_length, ints_nil, ints_one])) ?_
  refine Go.run hte hn 100 ?_; simp only [go_sem, Nat.reduceBEq, Nat.reduceLT, Nat.reduceAdd, Nat.reduceMul, Nat.reduceLeDiff, w2]
  refine Go.retG hte (hE _ ⟨x * 256 + y, by omega, by omega, rfl⟩) hf [] rfl (by simp [go_sem, tsI, slI, I, renL_ints, blk_ren, en_live, en_dead, ints_length, ints_nil, ints_one]) rfl (by rw [h0]; rfl) trivial
def wds : List ByteArray := [⟨#[97]⟩, ⟨#[98, 99]⟩, ⟨#[32]⟩, ⟨#[44]⟩, ⟨#[120, 49]⟩]
theorem wds_size (k : Nat) : (sg wds k).size ≤ 2 := by
  unfold sg wds
  match k with
  | 0 => decide
  | 1 => decide
  | 2 => decide
  | 3 => decide
  | 4 => decide
  | k + 5 => exact (by decide : (⟨#[]⟩ : ByteArray).size ≤ 2)
def TextR (x : AV) : Prop := ∃ s : ByteArray, s.size ≤ 14 ∧ x = .v (.string s)
theorem MakeText_cx {Φ : World → Prop} (l : List Int) (hl : l.length ≤ 1048576) : ACx Φ Tryd.prog 24 [tsB l] TextR := by
  refine ACx.intro (fn := Tryd.f24) (c := ?_) 20 Tryd.func24 (by rfl) (by kernel_rfl) (by kernel_rfl) (Nat.le_of_ble_eq_true rfl) fun e hP hf hn h0 hw0 hE => ?_
  have hte : TEok e.P te := hP ▸ teOk
  have hmx : e.P.follows .mixedOrders = true := hP ▸ mixedOk
  have C := l01New_c l hl
  have CB := l01Below_c l 0 (hN l (min l.length 4000)) 8 hl (Nat.zero_le _) (by omega) (by omega)
  obtain ⟨b0, b1⟩ := tmod_bd (x := xB l (0 : Nat) (hN l (min l.length 4000))) (n := 8) (xB_bd l _ _).1 (by omega)
  generalize Int.tmod (xB l (0 : Nat) (hN l (min l.length 4000))) 8 = n at CB b0 b1
  obtain ⟨n, rfl⟩ : ∃ m : Nat, n = (m : Int) := ⟨n.toNat, by omega⟩
  have hi := iN_bd (l := l) (i := 0) (Nat.zero_le _)
  generalize iN l 0 = i1 at CB hi
  generalize hB (hN l (min l.length 4000)) = h1 at CB
  generalize hN l (min l.length 4000) = h0' at C CB
  unfold curE tsB at *
  refine Go.run hte hn 100 ?_; simp only [go_sem, Nat.reduceBEq, Nat.reduceLT, Nat.reduceAdd, Nat.reduceMul, Nat.reduceLeDiff]
  refine Go.call0 hP (C) rfl rfl rfl (by omega) (by simp [go_sem, tsI, slI, I, renL_ints, blk_ren, en_live, en_dead, ints_length, ints_nil, ints_one]) ?_
  refine Go.run hte hn 100 ?_; simp only [go_sem, Nat.reduceBEq, Nat.reduceLT, Nat.reduceAdd, Nat.reduceMul, Nat.reduceLeDiff]
  refine Go.call hP (CB) [0] rfl rfl rfl (by omega) (by simp [go_sem, tsI, slI, I, renL_ints, blk_ren, en_live, en_dead, ints_length, ints_nil, ints_one]) (Lend.mk' rfl (by simp [go_sem, tsI, slI, I, renL_ints, blk_ren, en_live, en_dead, ints_length, ints_nil, ints_one])) ?_
  refine Go.run hte hn 100 ?_; simp only [go_sem, Nat.reduceBEq, Nat.reduceLT, Nat.reduceAdd, Nat.reduceMul, Nat.reduceLeDiff]
  refine Go.enter (fun p : Nat × Nat × Int × ByteArray => p.1 ≤ 7 ∧ p.2.1 ≤ l.length ∧ p.2.2.2.size + 2 * p.1 ≤ 14) (fun p => p.1) (fun p => [(3, .p 0 0), (4, .v (.string p.2.2.2)), (5, I (p.1 : Nat))]) (fun p => [curE l (p.2.1 : Nat) p.2.2.1]) (n, i1, h1, ⟨#[]⟩) [0] ⟨by simp only; omega, hi, by simp only; have h9 : (⟨#[]⟩ : ByteArray).size = 0 := rfl; omega⟩ rfl rfl (by rw [h0]; rfl) (by simp [go_sem, tsI, slI, I, renL_ints, blk_ren, en_live, en_dead, ints_length, ints_nil, ints_one]) (by simp [go_sem, tsI, slI, I, renL_ints, blk_ren, en_live, en_dead, ints_length, ints_nil, ints_one, curE, tsB]) ?_
  rintro ⟨k, i, h, s⟩ ⟨hk, hi, hs⟩
  simp only at hk hi hs
  unfold curE tsB
  by_cases hk0 : k = 0
  · subst hk0
    have dA : decide ((0 : Int) < ((0 : Nat) : Int)) = false := by decide
    refine Go.run hte hn 100 ?_; simp only [go_sem, Nat.reduceBEq, Nat.reduceLT, Nat.reduceAdd, Nat.reduceMul, Nat.reduceLeDiff, dA]
    refine Go.retG hte (hE _ ⟨s, by omega, rfl⟩) hf [] rfl (by simp [go_sem, tsI, slI, I, renL_ints, blk_ren, en_live, en_dead, ints_length, ints_nil, ints_one]) rfl (by rw [h0]; rfl) trivial
  · obtain ⟨m, rfl⟩ : ∃ m, k = m + 1 := ⟨k - 1, by omega⟩
    have dA : decide ((0 : Int) < ((m + 1 : Nat) : Int)) = true := decide_eq_true (by omega)
    have w1 : IntKind.i64.wrap (((m + 1 : Nat) : Int) - 1) = (m : Int) := by rw [W64] <;> omega
    have CS := l01Str_c l i h wds hl hi (by decide) (by decide)
    have hws := wds_size (Int.tmod (xB l i h) wds.length).toNat
    have hi2 := iN_bd hi
    generalize sg wds (Int.tmod (xB l i h) wds.length).toNat = x at CS hws
    generalize iN l i = i2 at CS hi2
    generalize hB h = h2 at CS
    unfold curE tsB slS wds at CS
    simp only [strs, St, List.map_cons, List.map_nil, List.length_cons, List.length_nil, Nat.reduceAdd] at CS
    refine Go.run hte hn 100 ?_; simp only [go_sem, Nat.reduceBEq, Nat.reduceLT, Nat.reduceAdd, Nat.reduceMul, Nat.reduceLeDiff, dA]
    refine Go.call hP (CS) [0, 1] rfl rfl rfl (by omega) (by simp [go_sem, tsI, slI, I, renL_ints, blk_ren, en_live, en_dead, ints_length, ints_nil, ints_one]) (Lend.mk' rfl (by simp [go_sem, tsI, slI, I, renL_ints, blk_ren, en_live, en_dead, ints_length, ints_nil, ints_one])) ?_
    refine Go.run hte hn 100 ?_; simp only [go_sem, Nat.reduceBEq, Nat.reduceLT, Nat.reduceAdd, Nat.reduceMul, Nat.reduceLeDiff, w1]
    refine ⟨by omega, ?_⟩
    refine Go.round (m, i2, h2, s ++ x) [0] ⟨by simp only; omega, by simp only; omega, by simp only; rw [ByteArray.size_append]; omega⟩ (by simp only; omega) rfl rfl (by rw [h0]; rfl) (by simp [go_sem, tsI, slI, I, renL_ints, blk_ren, en_live, en_dead, ints_length, ints_nil, ints_one]) (by simp [go_sem, tsI, slI, I, renL_ints, blk_ren, en_live, en_dead, ints_length, ints_nil, ints_one, curE, tsB])

end Go.Proofs.YtjnlpomfjlpikaaDoor.Ab
