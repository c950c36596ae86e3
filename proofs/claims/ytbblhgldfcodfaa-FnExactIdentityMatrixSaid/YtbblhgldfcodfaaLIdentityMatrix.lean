/- The contract of the law FnExactIdentityMatrix: it answers true, whatever the arguments. -/
import Derived.Test.YtbblhgldfcodfaaAbT
import Derived.Test.YtbblhgldfcodfaaAbP
import Derived.Test.YtbblhgldfcodfaaAbV
import Derived.Test.YtbblhgldfcodfaaAbO
import Derived.Test.YtbblhgldfcodfaaAbR
import Derived.Test.YtbblhgldfcodfaaRunW1
import Derived.Test.YtbblhgldfcodfaaRunW17
import Derived.Test.YtbblhgldfcodfaaW40
import Derived.Test.YtbblhgldfcodfaaW41
import Derived.Test.YtbblhgldfcodfaaW42
import Derived.Test.YtbblhgldfcodfaaW46
import Derived.Test.YtbblhgldfcodfaaW47
set_option linter.unusedVariables false
set_option linter.unusedSimpArgs false
set_option maxRecDepth 10000
namespace Go.Proofs.Ytbblhgldfcodfaa.Ab
open Go Go.RowKit
attribute [local go_sem] q_run q_seq q_skip q_block q_exit q_cond q_region q_nil q_op q_blk q_loop q_ret q_open q_inv q_fin q_go q_h0 q_h1 q_gskip q_stepC q_brt q_brf q_stepX q_sskip q_sskip0 q_val q_need q_new q_newc q_sv q_sto q_c1 q_c2 q_c3 q_c4 q_c5 q_c6 q_c7 q_c8 q_c9 q_c10 q_c11 q_c12 q_c13 q_c14 q_c15 q_c16 q_c17 q_c18 q_c19 q_c20 q_c21 q_c22 q_g0 q_g1 q_gC q_gD q_gE q_gB1 q_gB2 q_gB3 q_gB4 q_ev1 q_ev2 q_ev3 q_evo0 q_evo1 q_rv q_rva q_o1 q_o2 q_pk1 q_pk2 q_ld1p q_ld1e q_ld1t q_ldnp q_ldne q_ldnt q_sub0 q_sub1 q_subc q_stS q_stT q_box q_bldr q_bld q_fill0 q_fill1 q_fillB q_bsr q_bsl q_fap q_fat q_iasl q_iats q_lnsl q_lnts q_lnv q_lnS q_exA q_mkB q_lo0 q_lo1 q_hi0 q_hi1 q_slcA q_slcU1 q_slcU2 q_slcT1 q_slcT2 q_slsA q_slsU q_slsT q_apA q_apC q_srcE1 q_srcE2 q_srcE3 q_srcA1 q_srcB q_srcA2 q_srcA3 q_fnA q_nc1 q_nc2 q_bin q_bin2 q_bin3 q_bin4 q_bin5 q_bin6 q_bin7 q_bin8 q_bin9 q_bin10 q_i1 q_i2 q_i3 q_i4 q_i5 q_i6 q_i7 q_i8 q_i9 q_i10 q_i11 q_s1 q_s2 q_s3 q_u1 q_u2 q_min q_max q_ce1 q_ce2 q_ce3 q_ce4 q_ce5 q_ce6 q_ce7 q_ce8 q_ce9 q_ce10 q_ce11 q_on2 q_on3 q_on4 q_on5 q_on6 q_on7 q_on8 q_on9 q_on10 q_on11 q_enr1 q_gEt q_zr0 q_zr1 q_zgs q_zgg q_zk1 q_zk2 q_zd q_zv1 q_zv2 q_zv3 q_zp1 q_zp2 q_zf q_zs1 q_zs2 q_za q_za1 q_fi0 q_fi1 q_ln0 q_ln1 q_h01 q_h02 q_h03 q_h04 q_h05 q_h06 q_h07 q_h08 q_h09 q_h10 q_h11 q_h12 q_h13 q_h14 q_h15 q_h16 q_h17 q_h18 q_h19 q_h20 q_h21 q_h22 q_h23 q_h24 q_al q_b0 q_rs1 q_rs2 q_rs3 q_rs4 q_rs5 q_rs6 q_rs7 q_rs8 q_ro1 q_ro2 q_ro3 q_ro4 q_ro5 q_ro6 q_ro7 q_ro8 cond_true cond_false decide_true decide_false List.length_cons List.length_nil List.nil_append List.cons_append true_and and_true List.toList_toArray Option.map_some Nat.zero_add Nat.add_zero Bool.and_self Bool.and_true Bool.true_and Bool.and_false Bool.false_and Bool.not_true Bool.not_false FitF FitL LendL wb keys nodupB firstOk tupA op_move op_assign op_pick op_un op_box op_nc op_mf op_ex op_min op_max get put del nth evs evp sets setN ones popTo args0 AV.ren AV.renL rho List.take_succ_cons List.take_zero List.drop_succ_cons List.drop_zero Option.isNone_none Option.isNone_some o_al28 o_al30 o_al43 o_al80 o_al84 o_ap22 o_ap41 o_bi120 o_bi22 o_bi3 o_bi4 o_bi68 o_bs22_0 o_bs22_1 o_bs22_3 o_bs41_0 o_bs41_1 o_bu28 o_bu30 o_bu43 o_bu80 o_bu98 o_cn120 o_cn3 o_cv120_3 o_cv3_120 o_fa24_0 o_fa24_1 o_fa26_0 o_fa26_1 o_fa28_0 o_fa28_1 o_fa30_0 o_fa30_1 o_fa38_0 o_fa38_1 o_fa38_2 o_fa43_0 o_fa43_1 o_fa43_2 o_fa80_0 o_fa80_1 o_fa80_2 o_fa98_0 o_fa98_1 o_ia22 o_ia36 o_ia41 o_ia78 o_ia84 o_ib4 o_ip68 o_ld22 o_ld24 o_ld26 o_ld28 o_ld3 o_ld30 o_ld36 o_ld38 o_ld4 o_ld41 o_ld43 o_ld68 o_ld78 o_ld80 o_ld84 o_ln22 o_ln36 o_ln41 o_ln78 o_ln84 o_mk22 o_mk41 o_mk78 o_mk84 o_sl22 o_sl41 o_st22 o_st28 o_st3 o_st30 o_st4 o_st41 o_st43 o_st68 o_st80 o_st84 o_zb22 o_zb36 o_zb41 o_zb78 o_zb84 I tsI slI renL_ints blk_ren en_live en_dead List.set_cons_zero List.set_cons_succ List.map_cons List.map_nil List.append_nil frzF frzS AV.frz AV.frzL frzL_ints ints_all ints_all' ints_take1 ints_mk ints_mk1 mk_length res_ints resOk_ints plain_ints plainA plainL plainE plainS List.all_cons List.all_nil bigO bigT ratO ratT ratsT renL_frs frzL_frs frs_all matT FitI FitZ keys get put del blksO_length mkR_length mixR_length segO_id segO_id0 segO_length List.append_nil List.nil_append
/-! ### The law -/
theorem tot_le {l : List FR} {B : Nat} (h : ∀ i, i < l.length → fsz (fat l i) ≤ B) : tot l ≤ l.length * B := by
  induction l with
  | nil => simp [tot]
  | cons x l ih =>
    have h1 := h 0 (by simp)
    have h2 := ih (fun i hi => h (i + 1) (by simpa using hi))
    have h3 : fsz x ≤ B := h1
    simp only [tot, List.length_cons, Nat.add_mul, Nat.one_mul]
    omega
theorem iml_small (n : Int) : (iml n).length ≤ 576 ∧ tot (iml n) ≤ 1152 := by
  unfold iml
  split
  · rename_i h
    have hN : n.toNat * n.toNat ≤ 24 * 24 := Nat.mul_le_mul (by omega) (by omega)
    have hl := idl_length n.toNat
    have := tot_le (l := idl n.toNat) (B := 2) fun j hj => by
      have hj' := hj
      rw [hl] at hj'
      unfold fat idl
      rw [List.getD_eq_getElem?_getD, List.getElem?_map, List.getElem?_range hj', Option.map_some, Option.getD_some]
      have := bof01
      split
      · show (bofL 1).length + 1 ≤ 2; omega
      · show (bofL 0).length + 1 ≤ 2; omega
    rw [hl] at this ⊢
    omega
  · exact ⟨by simp, by simp [tot]⟩
theorem tot_at' {l : List FR} {i : Nat} (h : i < l.length) : (fat l i).1.2.length ≤ tot l ∧ (fat l i).2.length ≤ tot l := by
  have := tot_at h
  unfold fsz at this
  omega
theorem walk_FnExactIdentityMatrix (n : Int) : AC Try.prog 9 [I n] [] (.v (.bool true)) [] := by
  refine AC.intro (fn := Try.f9) (c := ?_) 41 Try.func9 (by rfl) (by kernel_rfl) (by kernel_rfl) (Nat.le_of_ble_eq_true rfl) fun e hP hf hn h0 hE => ?_
  have hte : TEok e.P te := hP ▸ teOk
  have hmx : e.P.follows .mixedOrders = true := hP ▸ mixedOk
  obtain ⟨z1, z2⟩ := iml_small n
  have CI := impl_IdentityMatrix_c n
  have CS := spec_IdentityMatrix_c n
  generalize iml n = l at *
  generalize imd n = r at *
  have E := eqMatrix_c r r l (by omega) (fun i hi => by have := tot_at' hi; omega)
  have K := markMatrix_c r r l 1 (by omega) (by omega)
  have H := heldMatrix_c r r l 1 (by omega) (by omega)
  unfold matT at CS E H
  unfold matO at CI K
  refine Go.run hte hn 100 ?_; simp only [go_sem, Nat.reduceBEq, Nat.reduceLT, Nat.reduceAdd, Nat.reduceMul, Nat.reduceLeDiff]
  refine Go.call0 hP (CS) rfl rfl rfl (by omega) (by simp [go_sem, tsI, slI, I, renL_ints, blk_ren, en_live, en_dead, ints_length, ints_nil, ints_one]) ?_
  refine Go.run hte hn 100 ?_; simp only [go_sem, Nat.reduceBEq, Nat.reduceLT, Nat.reduceAdd, Nat.reduceMul, Nat.reduceLeDiff, ratsT, renL_frs]
  refine Go.freeze (nm := 0) rfl ?_; simp only [go_sem, Nat.reduceBEq, Nat.reduceLT, Nat.reduceAdd, Nat.reduceMul, Nat.reduceLeDiff]
  refine Go.to [(0, I n), (2, .v (.bool false)), (3, .tp [I r, I r, ratsT l] 0), (10, I n)] [] [] rfl rfl (by rw [h0]; rfl) (by simp [go_sem, tsI, slI, I, renL_ints, blk_ren, en_live, en_dead, ints_length, ints_nil, ints_one, ratsT, renL_frs]) trivial ?_
  refine Go.call0 hP (CI) rfl rfl rfl (by omega) (by simp [go_sem, tsI, slI, I, renL_ints, blk_ren, en_live, en_dead, ints_length, ints_nil, ints_one]) ?_
  refine Go.run hte hn 100 ?_; simp only [go_sem, Nat.reduceBEq, Nat.reduceLT, Nat.reduceAdd, Nat.reduceMul, Nat.reduceLeDiff, ratsT, renL_frs, nth_seg0, setN_seg0]
  have hS := (Seg.canon 30 l).append [.live ⟨43, [I r, I r, .sl 0 0 l.length 3]⟩]
  refine Go.killSeg (2 * l.length + 1) [(0, I n), (2, .v (.bool false)), (3, .tp [I r, I r, ratsT l] 0), (4, .tp [I r, I r, .sl 0 0 l.length 3] 0), (12, .agg [I r, I r, .sl 0 0 l.length 3]), (13, .agg [I r, I r, ratsT l])] hS (nth_end _ _ _) (by omega) h0 rfl (by simp [go_sem, tsI, slI, I, renL_ints, blk_ren, en_live, en_dead, ints_length, ints_nil, ints_one, ratsT, frzL_frs]) (by simp [go_sem, tsI, slI, I, renL_ints, blk_ren, en_live, en_dead, ints_length, ints_nil, ints_one, rho, ratsT, renL_frs]) ?_
  clear hS
  have hS := Seg.canon 30 l
  have a1 : [AV.agg [I r, I r, .sl 0 0 l.length 3], .agg [I r, I r, ratsT l]].all (resOk (segO 30 l) 6) = true := by simp only [List.all_cons, List.all_nil, (res_mat hS r r).2, (res_matT _ l r r).2]; rfl
  have a2 : [AV.agg [I r, I r, .sl 0 0 l.length 3], .agg [I r, I r, ratsT l]].map (res (segO 30 l) 6) = [.agg [I r, I r, ratsT l], .agg [I r, I r, ratsT l]] := by simp only [List.map_cons, List.map_nil, (res_mat hS r r).1, (res_matT _ l r r).1]
  refine Go.callB 6 hP E rfl rfl rfl (by omega) a1 a2 rfl rfl ?_
  refine Go.run hte hn 100 ?_; simp only [go_sem, Nat.reduceBEq, Nat.reduceLT, Nat.reduceAdd, Nat.reduceMul, Nat.reduceLeDiff]
  refine Go.call hP K (0 :: List.range' 1 (2 * l.length)) rfl rfl rfl (by omega) rfl (hS.lend _ (mkR_length 1 l)) ?_
  have hS2 := hS.wrote (mkR 1 l) (mkR_length 1 l)
  generalize wb _ _ _ (segO 30 l) = σ2 at hS2 ⊢
  simp only [go_sem, Nat.reduceBEq, Nat.reduceLT, Nat.reduceAdd, Nat.reduceMul, Nat.reduceLeDiff]
  have r1 := (res_tpm hS2 r r).2
  have r2 := (res_tpm hS2 r r).1
  rw [mkR_length] at r1 r2
  refine Go.sealB (x := .tp [I r, I r, .sl 0 0 l.length 3] 0) 6 4 (fr' := [(0, I n), (2, .v (.bool false)), (3, .tp [I r, I r, ratsT l] 0), (18, I (1 + l.length + tot l))]) h0 rfl r1 rfl (by simp [go_sem, tsI, slI, I, renL_ints, blk_ren, en_live, en_dead, ints_length, ints_nil, ints_one, ratsT, renL_frs]) ?_
  rw [r2]
  clear r1 r2 hS2 a1 a2
  have d2 : decide ((1 : Int) + l.length + tot l < 0) = false := decide_eq_false (by omega)
  refine Go.run hte hn 100 ?_; simp only [go_sem, Nat.reduceBEq, Nat.reduceLT, Nat.reduceAdd, Nat.reduceMul, Nat.reduceLeDiff, ratsT]
  refine Go.call0 hP H rfl rfl rfl (by omega) (by simp [go_sem, tsI, slI, I, renL_ints, blk_ren, en_live, en_dead, ints_length, ints_nil, ints_one, ratsT, renL_frs]) ?_
  refine Go.run hte hn 100 ?_; simp only [go_sem, Nat.reduceBEq, Nat.reduceLT, Nat.reduceAdd, Nat.reduceMul, Nat.reduceLeDiff, d2]
  refine Go.call0 hP CI rfl rfl rfl (by omega) (by simp [go_sem, tsI, slI, I, renL_ints, blk_ren, en_live, en_dead, ints_length, ints_nil, ints_one, ratsT, renL_frs]) ?_
  refine Go.run hte hn 100 ?_; simp only [go_sem, Nat.reduceBEq, Nat.reduceLT, Nat.reduceAdd, Nat.reduceMul, Nat.reduceLeDiff, ratsT, renL_frs, nth_seg0, setN_seg0]
  have hS3 := hS.append [.live ⟨43, [.v (.int .i64 r), .v (.int .i64 r), .sl 0 0 l.length 3]⟩]
  generalize segO 30 l ++ [.live ⟨43, [.v (.int .i64 r), .v (.int .i64 r), .sl 0 0 l.length 3]⟩] = σ at hS3 ⊢
  have a1 : [AV.agg [I r, I r, .sl 0 0 l.length 3], .agg [I r, I r, ratsT l]].all (resOk σ 6) = true := by simp only [List.all_cons, List.all_nil, (res_mat hS3 r r).2, (res_matT _ l r r).2]; rfl
  have a2 : [AV.agg [I r, I r, .sl 0 0 l.length 3], .agg [I r, I r, ratsT l]].map (res σ 6) = [.agg [I r, I r, ratsT l], .agg [I r, I r, ratsT l]] := by simp only [List.map_cons, List.map_nil, (res_mat hS3 r r).1, (res_matT _ l r r).1]
  refine Go.callB 6 hP E rfl rfl rfl (by omega) a1 a2 rfl rfl ?_
  refine Go.run hte hn 100 ?_; simp only [go_sem, Nat.reduceBEq, Nat.reduceLT, Nat.reduceAdd, Nat.reduceMul, Nat.reduceLeDiff]
  refine Go.call0 hP H rfl rfl rfl (by omega) (by simp [go_sem, tsI, slI, I, renL_ints, blk_ren, en_live, en_dead, ints_length, ints_nil, ints_one, ratsT, renL_frs]) ?_
  refine Go.run hte hn 100 ?_; simp only [go_sem, Nat.reduceBEq, Nat.reduceLT, Nat.reduceAdd, Nat.reduceMul, Nat.reduceLeDiff, d2]
  refine Go.retG hte hE hf [] rfl (by simp [go_sem, tsI, slI, I, renL_ints, blk_ren, en_live, en_dead, ints_length, ints_nil, ints_one]) rfl (by rw [h0]; rfl) trivial
theorem law_FnExactIdentityMatrix (x0 : Int) (h0 : (fun n : Int => (Lit.int .i64 n).wf = true) x0) : AC Try.prog 9 [AV.v (.int .i64 x0)] [] (.v (.bool true)) [] := by
  exact walk_FnExactIdentityMatrix x0

end Go.Proofs.Ytbblhgldfcodfaa.Ab
