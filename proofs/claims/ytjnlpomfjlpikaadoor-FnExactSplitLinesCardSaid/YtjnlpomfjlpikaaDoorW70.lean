/- Contracts of the given program's functions and of the reference's (walks). -/
import Derived.Test.YtjnlpomfjlpikaaDoorAbT
import Derived.Test.YtjnlpomfjlpikaaDoorAbP
import Derived.Test.YtjnlpomfjlpikaaDoorAbQ
import Derived.Test.YtjnlpomfjlpikaaDoorAbS
import Derived.Test.YtjnlpomfjlpikaaDoorAbL
import Derived.Test.YtjnlpomfjlpikaaDoorW50
import Derived.Test.YtjnlpomfjlpikaaDoorW51
import Derived.Shelf.Strings.SplitShaped
set_option linter.unusedVariables false
set_option linter.unusedSimpArgs false
set_option maxRecDepth 10000
namespace Go.Proofs.YtjnlpomfjlpikaaDoor.Ab
open Go Go.RowKit
attribute [local go_sem] q_run q_seq q_skip q_block q_exit q_cond q_region q_nil q_op q_blk q_loop q_ret q_open q_inv q_fin q_go q_h0 q_h1 q_gskip q_stepC q_brt q_brf q_stepX q_sskip q_sskip0 q_val q_need q_new q_newc q_sv q_sto q_c1 q_c2 q_c3 q_c4 q_c5 q_c6 q_c7 q_c8 q_c9 q_c10 q_c11 q_c12 q_c13 q_c14 q_c15 q_c16 q_c17 q_c18 q_c19 q_c20 q_c21 q_c22 q_g0 q_g1 q_gC q_gD q_gE q_gB1 q_gB2 q_gB3 q_gB4 q_ev1 q_ev2 q_ev3 q_evo0 q_evo1 q_rv q_rva q_o1 q_o2 q_pk1 q_pk2 q_ld1p q_ld1e q_ld1t q_ldnp q_ldne q_ldnt q_sub0 q_sub1 q_subc q_stS q_stT q_box q_bldr q_bld q_fill0 q_fill1 q_fillB q_bsr q_bsl q_fap q_fat q_iasl q_iats q_lnsl q_lnts q_lnv q_lnS q_exA q_mkB q_lo0 q_lo1 q_hi0 q_hi1 q_slcA q_slcU1 q_slcU2 q_slcT1 q_slcT2 q_slsA q_slsU q_slsT q_apA q_apC q_srcE1 q_srcE2 q_srcE3 q_srcA1 q_srcB q_srcA2 q_srcA3 q_fnA q_nc1 q_nc2 q_bin q_bin2 q_bin3 q_bin4 q_bin5 q_bin6 q_bin7 q_bin8 q_bin9 q_bin10 q_i1 q_i2 q_i3 q_i4 q_i5 q_i6 q_i7 q_i8 q_i9 q_i10 q_i11 q_s1 q_s2 q_s3 q_u1 q_u2 q_min q_max q_ce1 q_ce2 q_ce3 q_ce4 q_ce5 q_ce6 q_ce7 q_ce8 q_ce9 q_ce10 q_ce11 q_on2 q_on3 q_on4 q_on5 q_on6 q_on7 q_on8 q_on9 q_on10 q_on11 q_enr1 q_gEt q_zr0 q_zr1 q_zgs q_zgg q_zk1 q_zk2 q_zd q_zv1 q_zv2 q_zv3 q_zp1 q_zp2 q_zf q_zs1 q_zs2 q_za q_za1 q_fi0 q_fi1 q_ln0 q_ln1 q_h01 q_h02 q_h03 q_h04 q_h05 q_h06 q_h07 q_h08 q_h09 q_h10 q_h11 q_h12 q_h13 q_h14 q_h15 q_h16 q_h17 q_h18 q_h19 q_h20 q_h21 q_h22 q_h23 q_h24 q_al q_b0 q_rs1 q_rs2 q_rs3 q_rs4 q_rs5 q_rs6 q_rs7 q_rs8 q_ro1 q_ro2 q_ro3 q_ro4 q_ro5 q_ro6 q_ro7 q_ro8 q_ixS q_cvS1 q_cvN q_u8s0 q_u8s1 q_u8s2 q_strS q_h25 q_shr q_i12 q_i13 q_bn q_bn0 q_bn1 q_zbn q_zn cond_true cond_false decide_true decide_false List.length_cons List.length_nil List.nil_append List.cons_append true_and and_true List.toList_toArray Option.map_some Nat.zero_add Nat.add_zero Bool.and_self Bool.and_true Bool.true_and Bool.and_false Bool.false_and Bool.not_true Bool.not_false FitF FitL LendL wb keys nodupB firstOk tupA op_move op_assign op_pick op_un op_box op_nc op_mf op_ex op_min op_max get put del nth evs evp sets setN ones popTo args0 AV.ren AV.renL rho List.take_succ_cons List.take_zero List.drop_succ_cons List.drop_zero Option.isNone_none Option.isNone_some o_al134 o_al29 o_al75 o_ap22 o_ap34 o_ap41 o_bi121 o_bi2 o_bi21 o_bi3 o_bi4 o_bi5 o_bi73 o_bi79 o_bi9 o_bi96 o_bs22_0 o_bs22_1 o_bs34_1 o_bs41_0 o_bs41_1 o_bs41_5 o_bu120 o_bu134 o_bu29 o_bu78 o_cn121 o_cn2 o_cn21 o_cn3 o_cn5 o_cn79 o_cn96 o_cv121_5 o_cv121_79 o_cv121_96 o_cv2_96 o_cv34_9 o_cv3_5 o_cv3_79 o_cv3_96 o_cv5_121 o_cv5_21 o_cv5_3 o_cv5_96 o_cv79_121 o_cv79_3 o_cv96_121 o_cv96_2 o_cv96_5 o_fa134_0 o_fa134_1 o_fa29_0 o_fa29_1 o_fa51_0 o_fa51_1 o_fa75_0 o_fa75_1 o_fa78_0 o_fa78_1 o_fa78_2 o_ia22 o_ia34 o_ia41 o_ib4 o_ip73 o_ip90 o_ix9 o_ld134 o_ld22 o_ld29 o_ld3 o_ld34 o_ld4 o_ld5 o_ld51 o_ld73 o_ld9 o_ld96 o_ln22 o_ln34 o_ln41 o_ln9 o_mk22 o_mk34 o_mk41 o_sl22 o_sl34 o_sl41 o_sl9 o_st134 o_st22 o_st29 o_st3 o_st34 o_st4 o_st5 o_st73 o_st9 o_zb22 o_zb34 o_zb41 I tsI slI renL_ints blk_ren en_live en_dead List.set_cons_zero List.set_cons_succ List.map_cons List.map_nil List.append_nil frzF frzS AV.frz AV.frzL frzL_ints ints_all ints_all' ints_take1 ints_mk ints_mk1 mk_length res_ints resOk_ints plain_ints plainA plainL plainE plainS List.all_cons List.all_nil strT slS renL_strs frzL_strs res_strs resOk_strs plain_strs strs_all strs_all' strs_length
/-! ### strings.Split by the shelf -/
open Go.Shelf Go.RowKit
def PhiM (w : World) : Prop := ∃ m, w.cell? ⟨2, 0, none⟩ = some (.int .i64 m)
theorem stays_M : Stays PhiM := by
  rintro w w' hk hs ⟨m, h⟩
  refine ⟨m, ?_⟩
  have hlt : 2 < w.heap.size := by
    rcases Nat.lt_or_ge 2 w.heap.size with h' | h'
    · exact h'
    · simp [World.cell?, Array.getElem?_eq_none h'] at h
  rw [← h]
  unfold World.cell?
  dsimp only
  rw [hk 2 hlt]
def laysSplit_ren : Go.Shelf.Ren := ⟨fun | 146 => 60 | 221 => 78 | 268 => 93 | 138 => 94 | 143 => 95 | 195 => 109 | 197 => 110 | 218 => 111 | 219 => 112 | 260 => 122 | 217 => 77 | 225 => 123 | 224 => 124 | 267 => 125 | 266 => 92 | 314 => 128 | n => n, fun | 9 => 9 | 31 => 41 | 3 => 3 | 4 => 4 | 0 => 0 | 105 => 115 | 21 => 21 | 5 => 5 | 46 => 79 | 119 => 132 | 139 => 135 | 138 => 134 | 146 => 122 | 51 => 121 | n => n, fun | 1 => 2 | 3 => 4 | 4 => 5 | n => n⟩
theorem laysSplit : Go.Proofs.LaysM.n146 Tryd.prog laysSplit_ren := {
  mixed := by kernel_rfl
  f138 := Tryd.func94.trans (congrArg some (by kernel_rfl))
  f143 := Tryd.func95.trans (congrArg some (by kernel_rfl))
  f146 := Tryd.func60.trans (congrArg some (by kernel_rfl))
  f195 := Tryd.func109.trans (congrArg some (by kernel_rfl))
  f197 := Tryd.func110.trans (congrArg some (by kernel_rfl))
  f217 := Tryd.func77.trans (congrArg some (by kernel_rfl))
  f218 := Tryd.func111.trans (congrArg some (by kernel_rfl))
  f219 := Tryd.func112.trans (congrArg some (by kernel_rfl))
  f221 := Tryd.func78.trans (congrArg some (by kernel_rfl))
  f224 := Tryd.func124.trans (congrArg some (by kernel_rfl))
  f225 := Tryd.func123.trans (congrArg some (by kernel_rfl))
  f260 := Tryd.func122.trans (congrArg some (by kernel_rfl))
  f266 := Tryd.func92.trans (congrArg some (by kernel_rfl))
  f267 := Tryd.func125.trans (congrArg some (by kernel_rfl))
  f268 := Tryd.func93.trans (congrArg some (by kernel_rfl))
  f314 := Tryd.func128.trans (congrArg some (by kernel_rfl))
  t0 := Tryd.underlying0
  a0 := Tryd.isAgg0
  z0 := Tryd.sizeOf0
  v0 := Tryd.zeroValue0
  t3 := Tryd.underlying3
  a3 := Tryd.isAgg3
  z3 := Tryd.sizeOf3
  v3 := Tryd.zeroValue3
  t4 := Tryd.underlying4
  a4 := Tryd.isAgg4
  z4 := Tryd.sizeOf4
  v4 := Tryd.zeroValue4
  t5 := Tryd.underlying5
  a5 := Tryd.isAgg5
  z5 := Tryd.sizeOf5
  v5 := Tryd.zeroValue5
  t9 := Tryd.underlying9
  a9 := Tryd.isAgg9
  z9 := Tryd.sizeOf9
  v9 := Tryd.zeroValue9
  t21 := Tryd.underlying21
  a21 := Tryd.isAgg21
  z21 := Tryd.sizeOf21
  v21 := Tryd.zeroValue21
  t31 := Tryd.underlying41
  a31 := Tryd.isAgg41
  z31 := Tryd.sizeOf41
  v31 := Tryd.zeroValue41
  t46 := Tryd.underlying79
  a46 := Tryd.isAgg79
  z46 := Tryd.sizeOf79
  v46 := Tryd.zeroValue79
  t51 := Tryd.underlying121
  a51 := Tryd.isAgg121
  z51 := Tryd.sizeOf121
  v51 := Tryd.zeroValue121
  t105 := Tryd.underlying115
  a105 := Tryd.isAgg115
  z105 := Tryd.sizeOf115
  v105 := Tryd.zeroValue115
  t119 := Tryd.underlying132
  a119 := Tryd.isAgg132
  z119 := Tryd.sizeOf132
  t138 := Tryd.underlying134
  a138 := Tryd.isAgg134
  z138 := Tryd.sizeOf134
  v138 := Tryd.zeroValue134
  t139 := Tryd.underlying135
  a139 := Tryd.isAgg135
  z139 := Tryd.sizeOf135
  v139 := Tryd.zeroValue135
  t146 := Tryd.underlying122
  a146 := Tryd.isAgg122
  z146 := Tryd.sizeOf122
  v146 := Tryd.zeroValue122
  g1 := by kernel_rfl
  g3 := by kernel_rfl
  g4 := by kernel_rfl
  i0 := by kernel_rfl
  i3 := by kernel_rfl
  i4 := by kernel_rfl
  i5 := by kernel_rfl
  i9 := by kernel_rfl
  i21 := by kernel_rfl
  i31 := by kernel_rfl
  i46 := by kernel_rfl
  i51 := by kernel_rfl
  i105 := by kernel_rfl
  i138 := by kernel_rfl
  i139 := by kernel_rfl
  i146 := by kernel_rfl
  m1 := by kernel_rfl
  s1_3 := fun w h => Go.Proofs.cell_of_shapedOpen_int (zero := #[.int .i64 0]) (t := 3) h (of_decide_eq_true (by kernel_rfl)) (by kernel_rfl) rfl (by kernel_rfl) (by kernel_rfl) Tryd.underlying3
  m3 := by kernel_rfl
  m4 := by kernel_rfl }
theorem maxLen_of {w : World} (h : w.ShapedOpen Tryd.prog) : PhiM w := laysSplit.s1_3 w h
def pcs (s sep : ByteArray) : List ByteArray := Lib.splitB sep 0 (Lib.countB s sep) s
theorem vrl_strs {ι : Nat → Option Nat} {S : Nat → Prop} {w : World} : ∀ l : List ByteArray, VRl ι S w (strs l) (l.map Value.string)
  | [] => trivial
  | x :: l => by
    show ∃ v r, (Value.string x :: l.map Value.string) = v :: r ∧ VR ι S w (.v (.string x)) v ∧ VRl ι S w (strs l) r
    exact ⟨_, _, rfl, by simp only [VR], vrl_strs l⟩
theorem strings_Split_cv (s sep : ByteArray) (hs : s.size ≤ 1048576) (h1 : 1 ≤ sep.size) : ACv PhiM Tryd.prog 60 [.v (.string s), .v (.string sep)] (slS 0 (pcs s sep)) [.live ⟨9, strs (pcs s sep)⟩] := by
  refine ⟨⟨_, Tryd.func60, by kernel_rfl, by kernel_rfl⟩, fun ι S w us hΦ hs0 ha => ?_⟩
  simp only [VRe, VR] at ha
  obtain ⟨u, r, rfl, rfl, v, r', rfl, rfl, rfl⟩ := ha
  obtain ⟨m, hm⟩ := hΦ
  refine Calls.mono (Any.strings_Split { laysSplit with } laysSplit.i9 s sep m w (by omega) hm h1) ?_
  rintro o w' ⟨rfl, rfl⟩
  have hlen : (pcs s sep).length = Lib.countB s sep + 1 := Lib.splitB_all sep h1 0 _ s rfl
  have hc : VRl ι S w (strs (pcs s sep)) ((pcs s sep).map Value.string).toArray.toList := vrl_strs _
  obtain ⟨st, hh⟩ := made hs0 (Adds.last [] ⟨9, strs (pcs s sep)⟩) (c := ((pcs s sep).map Value.string).toArray) hc
  refine ⟨_, _, S, rfl, ?_, st.sr, st.ext⟩
  simp only [VR, slS]
  refine ⟨some ⟨w.heap.size, 0, none⟩, Lib.countB s sep + 1, by rw [hlen], by omega, .inr ⟨w.heap.size, _, _, rfl, by simp, hh, ?_⟩⟩
  simp only [List.size_toArray, List.length_map]
  omega
theorem stp_spL (c : UInt8) (s : ByteArray) : ∀ i, i ≤ s.size → spL c (s.data.toList.take i) = (stp s ⟨#[c]⟩ i).2.map (·.data.toList) ++ [(s.data.toList.take i).drop (stp s ⟨#[c]⟩ i).1] := by
  intro i
  induction i with
  | zero => intro _; rfl
  | succ i ih =>
    intro hi
    have hsz : s.data.toList.length = s.size := Array.length_toList
    have h1 := ih (by omega)
    obtain ⟨g1, g2⟩ := stp_le s ⟨#[c]⟩ i
    have hstep : stp s ⟨#[c]⟩ (i + 1) = if inBy ⟨#[c]⟩ (byteAt s i) = true then (i + 1, (stp s ⟨#[c]⟩ i).2 ++ [s.extract (stp s ⟨#[c]⟩ i).1 i]) else stp s ⟨#[c]⟩ i := rfl
    have hb : inBy ⟨#[c]⟩ (byteAt s i) = decide (s.data.toList[i]'(by omega) = c) := by
      unfold inBy byteAt
      rw [List.getD_eq_getElem?_getD, List.getElem?_eq_getElem (by omega), Option.getD_some]
      show (decide ((c.toNat : Int) = _) || false) = _
      rw [Bool.or_false]
      refine decide_eq_decide.2 ⟨fun h => UInt8.toNat_inj.1 (by omega), fun h => by rw [h]⟩
    have h2 := spL_snoc c (s.data.toList[i]'(by omega)) _ _ _ h1
    rw [← List.take_succ_eq_append_getElem (by omega)] at h2
    rw [h2, hstep, hb]
    generalize stp s ⟨#[c]⟩ i = p at g1 g2
    by_cases hc : s.data.toList[i]'(by omega) = c
    · rw [if_pos hc, decide_eq_true hc, if_pos rfl]
      simp only [List.map_append, List.map_cons, List.map_nil]
      congr 1
      · congr 2
        rw [ByteArray.data_extract, Array.toList_extract, List.extract_eq_take_drop, List.drop_take]
      · rw [List.drop_of_length_le (by rw [List.length_take]; omega)]
    · rw [if_neg hc, decide_eq_false hc, if_neg (by decide)]
      congr 2
      rw [List.take_succ_eq_append_getElem (by omega), List.drop_append_of_le_length (by rw [List.length_take]; omega)]
theorem spl_spL (c : UInt8) (s : ByteArray) : (spl s ⟨#[c]⟩).map (·.data.toList) = spL c s.data.toList := by
  have hsz : s.data.toList.length = s.size := Array.length_toList
  have h := stp_spL c s s.size (Nat.le_refl _)
  rw [List.take_of_length_le (by omega)] at h
  rw [h]
  unfold spl
  simp only [List.map_append, List.map_cons, List.map_nil]
  congr 2
  rw [ByteArray.data_extract, Array.toList_extract, List.extract_eq_take_drop, List.take_of_length_le (by rw [List.length_drop]; omega)]
theorem pcs_spl (s : ByteArray) : pcs s ⟨#[10]⟩ = spl s ⟨#[10]⟩ := by
  have h1 : (pcs s ⟨#[10]⟩).map (·.data.toList) = spL 10 s.data.toList := by
    unfold pcs
    rw [Lib.splitB_data]
    exact splitK_spL 10 _ _ rfl
  exact (List.map_inj_right (fun x y h => WideShapes.bytes_inj h)).1 (h1.trans (spl_spL 10 s).symm)

end Go.Proofs.YtjnlpomfjlpikaaDoor.Ab
