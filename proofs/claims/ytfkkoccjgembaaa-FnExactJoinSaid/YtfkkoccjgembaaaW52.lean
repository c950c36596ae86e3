/- Contracts of the given program's functions and of the reference's (walks). -/
import Derived.Test.YtfkkoccjgembaaaAbT
import Derived.Test.YtfkkoccjgembaaaAbP
import Derived.Test.YtfkkoccjgembaaaAbS
import Derived.Test.YtfkkoccjgembaaaW50
import Derived.Test.YtfkkoccjgembaaaW51
import Derived.Shelf.Strings.OnBuilder
set_option linter.unusedVariables false
set_option linter.unusedSimpArgs false
set_option maxRecDepth 10000
namespace Go.Proofs.Ytfkkoccjgembaaa.Ab
open Go Go.RowKit
attribute [local go_sem] q_run q_seq q_skip q_block q_exit q_cond q_region q_nil q_op q_blk q_loop q_ret q_open q_inv q_fin q_go q_h0 q_h1 q_gskip q_stepC q_brt q_brf q_stepX q_sskip q_sskip0 q_val q_need q_new q_newc q_sv q_sto q_c1 q_c2 q_c3 q_c4 q_c5 q_c6 q_c7 q_c8 q_c9 q_c10 q_c11 q_c12 q_c13 q_c14 q_c15 q_c16 q_c17 q_c18 q_c19 q_c20 q_c21 q_c22 q_g0 q_g1 q_gC q_gD q_gE q_gB1 q_gB2 q_gB3 q_gB4 q_ev1 q_ev2 q_ev3 q_evo0 q_evo1 q_rv q_rva q_o1 q_o2 q_pk1 q_pk2 q_ld1p q_ld1e q_ld1t q_ldnp q_ldne q_ldnt q_sub0 q_sub1 q_subc q_stS q_stT q_box q_bldr q_bld q_fill0 q_fill1 q_fillB q_bsr q_bsl q_fap q_fat q_iasl q_iats q_lnsl q_lnts q_lnv q_lnS q_exA q_mkB q_lo0 q_lo1 q_hi0 q_hi1 q_slcA q_slcU1 q_slcU2 q_slcT1 q_slcT2 q_slsA q_slsU q_slsT q_apA q_apC q_srcE1 q_srcE2 q_srcE3 q_srcA1 q_srcB q_srcA2 q_srcA3 q_fnA q_nc1 q_nc2 q_bin q_bin2 q_bin3 q_bin4 q_bin5 q_bin6 q_bin7 q_bin8 q_bin9 q_bin10 q_i1 q_i2 q_i3 q_i4 q_i5 q_i6 q_i7 q_i8 q_i9 q_i10 q_i11 q_s1 q_s2 q_s3 q_u1 q_u2 q_min q_max q_ce1 q_ce2 q_ce3 q_ce4 q_ce5 q_ce6 q_ce7 q_ce8 q_ce9 q_ce10 q_ce11 q_on2 q_on3 q_on4 q_on5 q_on6 q_on7 q_on8 q_on9 q_on10 q_on11 q_enr1 q_gEt q_zr0 q_zr1 q_zgs q_zgg q_zk1 q_zk2 q_zd q_zv1 q_zv2 q_zv3 q_zp1 q_zp2 q_zf q_zs1 q_zs2 q_za q_za1 q_fi0 q_fi1 q_ln0 q_ln1 q_h01 q_h02 q_h03 q_h04 q_h05 q_h06 q_h07 q_h08 q_h09 q_h10 q_h11 q_h12 q_h13 q_h14 q_h15 q_h16 q_h17 q_h18 q_h19 q_h20 q_h21 q_h22 q_h23 q_h24 q_al q_b0 q_rs1 q_rs2 q_rs3 q_rs4 q_rs5 q_rs6 q_rs7 q_rs8 q_ro1 q_ro2 q_ro3 q_ro4 q_ro5 q_ro6 q_ro7 q_ro8 q_ixS q_cvS1 q_cvN q_u8s0 q_u8s1 q_u8s2 q_strS q_h25 cond_true cond_false decide_true decide_false List.length_cons List.length_nil List.nil_append List.cons_append true_and and_true List.toList_toArray Option.map_some Nat.zero_add Nat.add_zero Bool.and_self Bool.and_true Bool.true_and Bool.and_false Bool.false_and Bool.not_true Bool.not_false FitF FitL LendL wb keys nodupB firstOk tupA op_move op_assign op_pick op_un op_box op_nc op_mf op_ex op_min op_max get put del nth evs evp sets setN ones popTo args0 AV.ren AV.renL rho List.take_succ_cons List.take_zero List.drop_succ_cons List.drop_zero Option.isNone_none Option.isNone_some o_al40 o_al52 o_al72 o_ap24 o_ap31 o_bi3 o_bi4 o_bi5 o_bi64 o_bi70 o_bi9 o_bs24_0 o_bs24_1 o_bs24_3 o_bs31_0 o_bs31_1 o_bs69_1 o_bu40 o_cn3 o_cn5 o_cn64 o_cv3_5 o_cv3_64 o_cv64_3 o_cv69_9 o_fa37_0 o_fa37_1 o_fa40_0 o_fa40_1 o_fa48_0 o_fa48_1 o_fa52_0 o_fa52_1 o_fa72_0 o_fa72_1 o_ia24 o_ia31 o_ib4 o_ip70 o_ip79 o_ix9 o_ld24 o_ld3 o_ld37 o_ld4 o_ld40 o_ld48 o_ld52 o_ld69 o_ld70 o_ld9 o_ln24 o_ln31 o_ln69 o_ln9 o_mk24 o_mk31 o_sl24 o_sl31 o_sl69 o_sl9 o_st24 o_st3 o_st4 o_st40 o_st52 o_st69 o_st70 o_st9 o_zb24 o_zb31 o_zb69 I tsI slI renL_ints blk_ren en_live en_dead List.set_cons_zero List.set_cons_succ List.map_cons List.map_nil List.append_nil frzF frzS AV.frz AV.frzL frzL_ints ints_all ints_all' ints_take1 ints_mk ints_mk1 mk_length res_ints resOk_ints plain_ints plainA plainL plainE plainS List.all_cons List.all_nil strT slS renL_strs frzL_strs res_strs resOk_strs plain_strs strs_all strs_all' strs_length
/-! ### Strings joined -/
theorem AC.ofBelow {P : Program} {f : FuncId} {xs : List AV} {v : Value} (hc : Callable P f) (h : ∀ ι S w us, SR ι S [] w → VRe ι S w xs us → Calls P f us.toArray w fun o w' => o = .returned v ∧ Below w.heap.size w w') : AC P f xs [] (.v v) [] := by
  refine ⟨hc, fun ι S w us hs ha => (h ι S w us hs ha).mono ?_⟩
  rintro o w' ⟨rfl, B⟩
  refine ⟨v, ι, S, rfl, by simp only [VR], ⟨fun n b hn => by simp at hn, fun n m b b' g hn => by simp at hn, fun n b g hn => by simp at hn, fun k hk => Nat.lt_of_lt_of_le (hs.imm k hk) B.size, fun n hn => hs.top n hn⟩, ⟨B.os, B.tape, B.output, B.size, fun k hk _ => B.block k hk, fun k c ty fz h => ?_, fun _ h => h, fun k hk => .inr hk, fun _ h => .inl h, Nat.le_refl _, fun n hn => by simp at hn⟩⟩
  have hk : k < w.heap.size := (Array.getElem?_eq_some_iff.1 h).1
  exact ⟨c, by rw [B.block k hk, h], rfl⟩
open Go.Shelf
def laysJoin_ren : Go.Shelf.Ren := ⟨fun | 156 => 69 | 165 => 75 | 166 => 76 | 169 => 77 | 240 => 80 | 241 => 81 | 276 => 82 | 277 => 83 | n => n, fun | 31 => 31 | 9 => 9 | 3 => 3 | 4 => 4 | 0 => 0 | 20 => 20 | 72 => 72 | 76 => 76 | 70 => 70 | 37 => 69 | 75 => 75 | 127 => 79 | 164 => 80 | 5 => 5 | 80 => 78 | n => n, fun | n => n⟩
theorem laysJoin : Go.Proofs.Lays.n156 Try.prog laysJoin_ren := {
  mixed := by kernel_rfl
  f156 := Try.func69.trans (congrArg some (by kernel_rfl))
  f165 := Try.func75.trans (congrArg some (by kernel_rfl))
  f166 := Try.func76.trans (congrArg some (by kernel_rfl))
  f169 := Try.func77.trans (congrArg some (by kernel_rfl))
  f240 := Try.func80.trans (congrArg some (by kernel_rfl))
  f241 := Try.func81.trans (congrArg some (by kernel_rfl))
  f276 := Try.func82.trans (congrArg some (by kernel_rfl))
  f277 := Try.func83.trans (congrArg some (by kernel_rfl))
  t0 := Try.underlying0
  a0 := Try.isAgg0
  z0 := Try.sizeOf0
  v0 := Try.zeroValue0
  t3 := Try.underlying3
  a3 := Try.isAgg3
  z3 := Try.sizeOf3
  v3 := Try.zeroValue3
  t4 := Try.underlying4
  a4 := Try.isAgg4
  z4 := Try.sizeOf4
  v4 := Try.zeroValue4
  t9 := Try.underlying9
  a9 := Try.isAgg9
  z9 := Try.sizeOf9
  v9 := Try.zeroValue9
  t20 := Try.underlying20
  a20 := Try.isAgg20
  z20 := Try.sizeOf20
  v20 := Try.zeroValue20
  t31 := Try.underlying31
  a31 := Try.isAgg31
  z31 := Try.sizeOf31
  v31 := Try.zeroValue31
  t37 := Try.underlying69
  a37 := Try.isAgg69
  z37 := Try.sizeOf69
  v37 := Try.zeroValue69
  t70 := Try.underlying70
  a70 := Try.isAgg70
  z70 := Try.sizeOf70
  v70 := Try.zeroValue70
  t72 := Try.underlying72
  a72 := Try.isAgg72
  z72 := Try.sizeOf72
  v72 := Try.zeroValue72
  t75 := Try.underlying75
  a75 := Try.isAgg75
  z75 := Try.sizeOf75
  v75 := Try.zeroValue75
  t76 := Try.underlying76
  a76 := Try.isAgg76
  z76 := Try.sizeOf76
  v76 := Try.zeroValue76
  t127 := Try.underlying79
  a127 := Try.isAgg79
  z127 := Try.sizeOf79
  v127 := Try.zeroValue79
  t164 := Try.underlying80
  a164 := Try.isAgg80
  z164 := Try.sizeOf80
  v164 := Try.zeroValue80 }
theorem laysJoin_extra : Builder.Extra Try.prog laysJoin_ren := {
  sizeBuilder := by kernel_rfl
  liesBuilder := by kernel_rfl
  t5 := by kernel_rfl
  a5 := fun w => ok_isAgg (teOk 5 t5 rfl) w
  z5 := fun w => ok_sizeOf (teOk 5 t5 rfl) w
  v5 := fun w => ok_zero (teOk 5 t5 rfl) w
  infoByte := by kernel_rfl
  cellsByte := by kernel_rfl
  sizeByte := by kernel_rfl
  neB5 := by decide }
def joinB (l : List ByteArray) (sep : ByteArray) : ByteArray := ⟨(Lib.join (l.map (·.data.toList)) sep.data.toList).toArray⟩
theorem strings_Join_c (l : List ByteArray) (sep : ByteArray) (hN : l.length ≤ 140737488355328) (hlen : (Lib.join (l.map (·.data.toList)) sep.data.toList).length ≤ 140737488355328) : AC Try.prog 69 [strT l, .v (.string sep)] [] (.v (.string (joinB l sep))) [] := by
  refine AC.ofBelow ⟨_, Try.func69, by kernel_rfl, by kernel_rfl⟩ fun ι S w us hs ha => ?_
  simp only [VRe, strT, VR] at ha
  obtain ⟨u, r, rfl, ⟨A, cap, rfl, hcap, hA⟩, v, r', rfl, rfl, rfl⟩ := ha
  cases l with
  | nil =>
    refine (Any.strings_Join_none laysJoin laysJoin_extra A cap sep w).mono ?_
    rintro o w' ⟨rfl, rfl⟩
    exact ⟨rfl, Below.refl _ _⟩
  | cons x l =>
    rcases hA with hA | ⟨g, o, c, ty, fz, rfl, h1, h2, h3⟩
    · cases hA
    · refine Any.strings_Join laysJoin laysJoin_extra g o cap (x :: l) sep w (fun j y hj => ?_) (hs.imm g h1) hN hcap hlen
      rw [cell_at h2]
      obtain ⟨u, h4, h5⟩ := h3.get (i := j) (x := St y) (by unfold strs; rw [List.getElem?_map, hj]; rfl)
      simp only [St, VR] at h5
      subst h5
      rw [List.getElem?_drop] at h4
      simpa using h4

end Go.Proofs.Ytfkkoccjgembaaa.Ab
