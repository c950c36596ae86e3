/- The contract of the law FnExactRowOf: it answers true, whatever the arguments. -/
import Derived.Test.YtbblhgldfcodfaaAbT
import Derived.Test.YtbblhgldfcodfaaAbP
import Derived.Test.YtbblhgldfcodfaaAbV
import Derived.Test.YtbblhgldfcodfaaAbO
import Derived.Test.YtbblhgldfcodfaaAbR
import Derived.Test.YtbblhgldfcodfaaW1
import Derived.Test.YtbblhgldfcodfaaW2
import Derived.Test.YtbblhgldfcodfaaW8
import Derived.Test.YtbblhgldfcodfaaW17
import Derived.Test.YtbblhgldfcodfaaW18
import Derived.Test.YtbblhgldfcodfaaW19
import Derived.Test.YtbblhgldfcodfaaW20
import Derived.Test.YtbblhgldfcodfaaW30
import Derived.Test.YtbblhgldfcodfaaW35
import Derived.Test.YtbblhgldfcodfaaW38
import Derived.Test.YtbblhgldfcodfaaW39
import Derived.Test.YtbblhgldfcodfaaW42
import Derived.Test.YtbblhgldfcodfaaW43
import Derived.Test.YtbblhgldfcodfaaW44
set_option linter.unusedVariables false
set_option linter.unusedSimpArgs false
set_option maxRecDepth 10000
namespace Go.Proofs.Ytbblhgldfcodfaa.Ab
open Go Go.RowKit
attribute [local go_sem] q_run q_seq q_skip q_block q_exit q_cond q_region q_nil q_op q_blk q_loop q_ret q_open q_inv q_fin q_go q_h0 q_h1 q_gskip q_stepC q_brt q_brf q_stepX q_sskip q_sskip0 q_val q_need q_new q_newc q_sv q_sto q_c1 q_c2 q_c3 q_c4 q_c5 q_c6 q_c7 q_c8 q_c9 q_c10 q_c11 q_c12 q_c13 q_c14 q_c15 q_c16 q_c17 q_c18 q_c19 q_c20 q_c21 q_c22 q_g0 q_g1 q_gC q_gD q_gE q_gB1 q_gB2 q_gB3 q_gB4 q_ev1 q_ev2 q_ev3 q_evo0 q_evo1 q_rv q_rva q_o1 q_o2 q_pk1 q_pk2 q_ld1p q_ld1e q_ld1t q_ldnp q_ldne q_ldnt q_sub0 q_sub1 q_subc q_stS q_stT q_box q_bldr q_bld q_fill0 q_fill1 q_fillB q_bsr q_bsl q_fap q_fat q_iasl q_iats q_lnsl q_lnts q_lnv q_lnS q_exA q_mkB q_lo0 q_lo1 q_hi0 q_hi1 q_slcA q_slcU1 q_slcU2 q_slcT1 q_slcT2 q_slsA q_slsU q_slsT q_apA q_apC q_srcE1 q_srcE2 q_srcE3 q_srcA1 q_srcB q_srcA2 q_srcA3 q_fnA q_nc1 q_nc2 q_bin q_bin2 q_bin3 q_bin4 q_bin5 q_bin6 q_bin7 q_bin8 q_bin9 q_bin10 q_i1 q_i2 q_i3 q_i4 q_i5 q_i6 q_i7 q_i8 q_i9 q_i10 q_i11 q_s1 q_s2 q_s3 q_u1 q_u2 q_min q_max q_ce1 q_ce2 q_ce3 q_ce4 q_ce5 q_ce6 q_ce7 q_ce8 q_ce9 q_ce10 q_ce11 q_on2 q_on3 q_on4 q_on5 q_on6 q_on7 q_on8 q_on9 q_on10 q_on11 q_enr1 q_gEt q_zr0 q_zr1 q_zgs q_zgg q_zk1 q_zk2 q_zd q_zv1 q_zv2 q_zv3 q_zp1 q_zp2 q_zf q_zs1 q_zs2 q_za q_za1 q_fi0 q_fi1 q_ln0 q_ln1 q_h01 q_h02 q_h03 q_h04 q_h05 q_h06 q_h07 q_h08 q_h09 q_h10 q_h11 q_h12 q_h13 q_h14 q_h15 q_h16 q_h17 q_h18 q_h19 q_h20 q_h21 q_h22 q_h23 q_h24 q_al q_b0 q_rs1 q_rs2 q_rs3 q_rs4 q_rs5 q_rs6 q_rs7 q_rs8 q_ro1 q_ro2 q_ro3 q_ro4 q_ro5 q_ro6 q_ro7 q_ro8 cond_true cond_false decide_true decide_false List.length_cons List.length_nil List.nil_append List.cons_append true_and and_true List.toList_toArray Option.map_some Nat.zero_add Nat.add_zero Bool.and_self Bool.and_true Bool.true_and Bool.and_false Bool.false_and Bool.not_true Bool.not_false FitF FitL LendL wb keys nodupB firstOk tupA op_move op_assign op_pick op_un op_box op_nc op_mf op_ex op_min op_max get put del nth evs evp sets setN ones popTo args0 AV.ren AV.renL rho List.take_succ_cons List.take_zero List.drop_succ_cons List.drop_zero Option.isNone_none Option.isNone_some o_al28 o_al30 o_al43 o_al80 o_al84 o_ap22 o_ap41 o_bi120 o_bi22 o_bi3 o_bi4 o_bi68 o_bs22_0 o_bs22_1 o_bs22_3 o_bs41_0 o_bs41_1 o_bu28 o_bu30 o_bu43 o_bu80 o_bu98 o_cn120 o_cn3 o_cv120_3 o_cv3_120 o_fa24_0 o_fa24_1 o_fa26_0 o_fa26_1 o_fa28_0 o_fa28_1 o_fa30_0 o_fa30_1 o_fa38_0 o_fa38_1 o_fa38_2 o_fa43_0 o_fa43_1 o_fa43_2 o_fa80_0 o_fa80_1 o_fa80_2 o_fa98_0 o_fa98_1 o_ia22 o_ia36 o_ia41 o_ia78 o_ia84 o_ib4 o_ip68 o_ld22 o_ld24 o_ld26 o_ld28 o_ld3 o_ld30 o_ld36 o_ld38 o_ld4 o_ld41 o_ld43 o_ld68 o_ld78 o_ld80 o_ld84 o_ln22 o_ln36 o_ln41 o_ln78 o_ln84 o_mk22 o_mk41 o_mk78 o_mk84 o_sl22 o_sl41 o_st22 o_st28 o_st3 o_st30 o_st4 o_st41 o_st43 o_st68 o_st80 o_st84 o_zb22 o_zb36 o_zb41 o_zb78 o_zb84 I tsI slI renL_ints blk_ren en_live en_dead List.set_cons_zero List.set_cons_succ List.map_cons List.map_nil List.append_nil frzF frzS AV.frz AV.frzL frzL_ints ints_all ints_all' ints_take1 ints_mk ints_mk1 mk_length res_ints resOk_ints plain_ints plainA plainL plainE plainS List.all_cons List.all_nil bigO bigT ratO ratT ratsT renL_frs frzL_frs frs_all matT FitI FitZ keys get put del blksO_length mkR_length mixR_length segO_id segO_id0 segO_length List.append_nil List.nil_append
/-! ### The law -/
theorem tot_at' {l : List FR} {i : Nat} (h : i < l.length) : (fat l i).1.2.length ≤ tot l ∧ (fat l i).2.length ≤ tot l := by
  have := tot_at h
  unfold fsz at this
  omega
theorem tot_le {l : List FR} {B : Nat} (h : ∀ i, i < l.length → fsz (fat l i) ≤ B) : tot l ≤ l.length * B := by
  induction l with
  | nil => simp [tot]
  | cons x l ih =>
    have h1 := h 0 (by simp)
    have h2 := ih (fun i hi => h (i + 1) (by simpa using hi))
    have h3 : fsz x ≤ B := h1
    simp only [tot, List.length_cons, Nat.add_mul, Nat.one_mul]
    omega
theorem rwX_small (r c : Int) (l : List FR) (i : Int) : (rwX r c l i).length ≤ 24 ∧ tot (rwX r c l i) ≤ 1152 := by
  unfold rwX
  split
  · rename_i h
    obtain ⟨k1, k2, k3, k4, k5, ha⟩ := mokB_iff.mp h.1
    have e : l.length = r.toNat * c.toNat := by
      have : ((r.toNat * c.toNat : Nat) : Int) = r * c := by rw [Int.natCast_mul, Int.toNat_of_nonneg k1, Int.toNat_of_nonneg k3]
      omega
    have hrk := row_few ha e (p := i.toNat) (by omega)
    have hl : (gro c.toNat fun k => fat l (i.toNat * c.toNat + k)).length = c.toNat := gro_length _ _
    have := tot_le (B := 48) fun j hj => by
      have := rok_few (hrk j hj)
      unfold fsz
      omega
    rw [hl] at this ⊢
    omega
  · exact ⟨by simp, by simp [tot]⟩
theorem walk_FnExactRowOf (r c : Int) (l : List FR) (i : Int) (hr1 : -9223372036854775808 ≤ r) (hr2 : r ≤ 9223372036854775807) (hc1 : -9223372036854775808 ≤ c) (hc2 : c ≤ 9223372036854775807) (hl : l.length ≤ 9223372036854775807) (hd : ∀ i, i < l.length → (fat l i).1.2.length ≤ 9223372036854775807 ∧ (fat l i).2.length ≤ 9223372036854775807) : AC Try.prog 7 [matT r c l, I i] [] (.v (.bool true)) [] := by
  refine AC.intro (fn := Try.f7) (c := ?_) 74 Try.func7 (by rfl) (by kernel_rfl) (by kernel_rfl) (Nat.le_of_ble_eq_true rfl) fun e hP hf hn h0 hE => ?_
  have hte : TEok e.P te := hP ▸ teOk
  have hmx : e.P.follows .mixedOrders = true := hP ▸ mixedOk
  refine Go.run hte hn 100 ?_; simp only [go_sem, Nat.reduceBEq, Nat.reduceLT, Nat.reduceAdd, Nat.reduceMul, Nat.reduceLeDiff, matT]
  refine Go.call0 hP (szMatrix_c r c l 1048576 (by omega) (by omega) hl hd) rfl rfl rfl (by omega) (by simp [go_sem, tsI, slI, I, renL_ints, blk_ren, en_live, en_dead, ints_length, ints_nil, ints_one]) ?_
  refine Go.run hte hn 100 ?_; simp only [go_sem, Nat.reduceBEq, Nat.reduceLT, Nat.reduceAdd, Nat.reduceMul, Nat.reduceLeDiff]
  refine Br.mk (fun hz1 => ?_) (fun hz1 => ?_)
  · refine Go.retG hte hE hf [] rfl (by simp [go_sem, tsI, slI, I, renL_ints, blk_ren, en_live, en_dead, ints_length, ints_nil, ints_one]) rfl (by rw [h0]; rfl) trivial
  obtain ⟨hs1, hq1⟩ := szv_ge (of_decide_eq_false hz1)
  clear hz1
  simp only [hq1]
  have T1 := toMatrix_c r c l (by omega) (fun i hi => by have := tot_at' hi; omega)
  have T2 := toMatrixO_c r c l (by omega) (fun i hi => by have := tot_at' hi; omega)
  have E1 := eqMatrix_c r c l (by omega) (fun i hi => by have := tot_at' hi; omega)
  have S := spec_RowOf_c r c l i hr1 hr2 hc1 hc2 (by omega) (fun i hi => by have := tot_at' hi; omega)
  have M := impl_RowOf_c r c l i hr1 hr2 hc1 hc2 (by omega) (fun i hi => by have := tot_at' hi; omega)
  have K := markMatrix_c r c l 1 (by omega) (by omega)
  obtain ⟨m1, m2⟩ := rwX_small r c l i
  generalize rwX r c l i = q at *
  have Q := eqRatS_c q (by omega) (fun i hi => by have := tot_at' hi; omega)
  have KQ := markRatS_c q 1 (by omega) (by omega)
  have HQ := heldRatS_c q 1 (by omega) (by omega)
  unfold matT at T1 T2 E1 S M
  unfold matO at T2 K
  refine Go.call0 hP T1 rfl rfl rfl (by omega) (by simp [go_sem, tsI, slI, I, renL_ints, blk_ren, en_live, en_dead, ints_length, ints_nil, ints_one]) ?_
  refine Go.run hte hn 100 ?_; simp only [go_sem, Nat.reduceBEq, Nat.reduceLT, Nat.reduceAdd, Nat.reduceMul, Nat.reduceLeDiff, ratsT, renL_frs]
  refine Go.call0 hP S rfl rfl rfl (by omega) (by simp [go_sem, tsI, slI, I, renL_ints, blk_ren, en_live, en_dead, ints_length, ints_nil, ints_one]) ?_
  refine Go.run hte hn 100 ?_; simp only [go_sem, Nat.reduceBEq, Nat.reduceLT, Nat.reduceAdd, Nat.reduceMul, Nat.reduceLeDiff, ratsT, renL_frs]
  refine Go.freeze (nm := 0) rfl ?_; simp only [go_sem, Nat.reduceBEq, Nat.reduceLT, Nat.reduceAdd, Nat.reduceMul, Nat.reduceLeDiff]
  refine Go.to [(1, I i), (2, .tp [I r, I c, ratsT l] 0), (4, .v (.bool false)), (6, ratsT q), (22, .agg [I r, I c, ratsT l])] [] [] rfl rfl (by rw [h0]; rfl) (by simp [go_sem, tsI, slI, I, renL_ints, blk_ren, en_live, en_dead, ints_length, ints_nil, ints_one]) trivial ?_
  refine Go.call0 hP T2 rfl rfl rfl (by omega) (by simp [go_sem, tsI, slI, I, renL_ints, blk_ren, en_live, en_dead, ints_length, ints_nil, ints_one]) ?_
  refine Go.run hte hn 100 ?_; simp only [go_sem, Nat.reduceBEq, Nat.reduceLT, Nat.reduceAdd, Nat.reduceMul, Nat.reduceLeDiff, ratsT, renL_frs, nth_seg0, setN_seg0]
  have hS := (Seg.canon 30 l).append [.live ⟨43, [I r, I c, .sl 0 0 l.length 3]⟩]
  refine Go.killSeg (2 * l.length + 1) [(1, I i), (2, .tp [I r, I c, ratsT l] 0), (4, .v (.bool false)), (6, ratsT q), (7, .tp [I r, I c, .sl 0 0 l.length 3] 0), (24, .agg [I r, I c, .sl 0 0 l.length 3]), (25, I i)] hS (nth_end _ _ _) (by omega) h0 rfl (by simp [go_sem, tsI, slI, I, renL_ints, blk_ren, en_live, en_dead, ints_length, ints_nil, ints_one, ratsT, frzL_frs]) (by simp [go_sem, tsI, slI, I, renL_ints, blk_ren, en_live, en_dead, ints_length, ints_nil, ints_one, rho, ratsT]) ?_
  clear hS
  have hS := Seg.canon 30 l
  have a1 : [AV.agg [I r, I c, .sl 0 0 l.length 3], I i].all (resOk (segO 30 l) 6) = true := by simp only [List.all_cons, List.all_nil, (res_mat hS r c).2]; rfl
  have a2 : [AV.agg [I r, I c, .sl 0 0 l.length 3], I i].map (res (segO 30 l) 6) = [.agg [I r, I c, ratsT l], I i] := by simp only [List.map_cons, List.map_nil, (res_mat hS r c).1]; rfl
  refine Go.callB 6 hP M rfl rfl rfl (by omega) a1 a2 rfl (plain_seg _ _) ?_
  have hS1 := hS.append ((segO 30 q).map (En.ren (rho [] (segO 30 l).length)))
  have hS2 := (Seg.canon 30 q).shift (segO 30 l)
  have hfar := shift_far 30 l q
  show Go e _ (put 26 (.sl ((segO 30 l).length + 0) 0 q.length 3) _) _
  generalize segO 30 l ++ (segO 30 q).map (En.ren (rho [] (segO 30 l).length)) = σ at hS1 hS2 ⊢
  generalize (List.range' 1 (2 * q.length)).map ((segO 30 l).length + ·) = ns at hS2 hfar ⊢
  generalize (segO 30 l).length + 0 = a at hS2 hfar ⊢
  clear a1 a2 hS
  refine Go.run hte hn 100 ?_; simp only [go_sem, Nat.reduceBEq, Nat.reduceLT, Nat.reduceAdd, Nat.reduceMul, Nat.reduceLeDiff, ratsT]
  have a1 : [AV.sl a 0 q.length 3, ratsT q].all (resOk σ 5) = true := by simp only [List.all_cons, List.all_nil, hS2.resOk5, resOk_rats5, Bool.and_true]
  have a2 : [AV.sl a 0 q.length 3, ratsT q].map (res σ 5) = [ratsT q, ratsT q] := by simp only [List.map_cons, List.map_nil, hS2.res5, res_rats5]
  refine Go.callB 5 hP Q rfl rfl rfl (by omega) a1 a2 rfl rfl ?_
  refine Go.run hte hn 100 ?_; simp only [go_sem, Nat.reduceBEq, Nat.reduceLT, Nat.reduceAdd, Nat.reduceMul, Nat.reduceLeDiff]
  refine Go.openK 3 [] hte hn hmx (by kernel_rfl) ?_
  simp only [go_sem, Nat.reduceBEq, Nat.reduceLT, Nat.reduceAdd, Nat.reduceMul, Nat.reduceLeDiff]
  refine ZC.call0 hP (T1) rfl rfl rfl (by omega) (by simp [go_sem, tsI, slI, I, renL_ints, blk_ren, en_live, en_dead, ints_length, ints_nil, ints_one]) rfl (by first | trivial | (show _ < _; simp)) ?_
  refine Go.run hte hn 100 ?_; simp only [go_sem, Nat.reduceBEq, Nat.reduceLT, Nat.reduceAdd, Nat.reduceMul, Nat.reduceLeDiff]
  have a3 : [AV.agg [I r, I c, .sl 0 0 l.length 3], .agg [I r, I c, ratsT l]].all (resOk σ 6) = true := by simp only [List.all_cons, List.all_nil, (res_mat hS1 r c).2, (res_matT σ l r c).2]; rfl
  have a4 : [AV.agg [I r, I c, .sl 0 0 l.length 3], .agg [I r, I c, ratsT l]].map (res σ 6) = [.agg [I r, I c, ratsT l], .agg [I r, I c, ratsT l]] := by simp only [List.map_cons, List.map_nil, (res_mat hS1 r c).1, (res_matT σ l r c).1]
  refine Go.callB 6 hP E1 rfl rfl rfl (by omega) a3 a4 rfl rfl ?_
  refine Go.run hte hn 100 ?_; simp only [go_sem, Nat.reduceBEq, Nat.reduceLT, Nat.reduceAdd, Nat.reduceMul, Nat.reduceLeDiff]
  refine Go.call hP K (0 :: List.range' 1 (2 * l.length)) rfl rfl rfl (by omega) rfl (hS1.lend _ (mkR_length 1 l)) ?_
  have hS3 := hS2.far (L := 0 :: List.range' 1 (2 * l.length)) (ρ := rho (0 :: List.range' 1 (2 * l.length)) σ.length) (so := segO 30 (mkR 1 l)) hfar
  generalize wb _ _ _ σ = σ4 at hS3 ⊢
  clear a1 a2 a3 a4 hS1 hS2 hfar
  have d1 : decide ((1 : Int) + l.length + tot l < 0) = false := decide_eq_false (by omega)
  simp only [go_sem, Nat.reduceBEq, Nat.reduceLT, Nat.reduceAdd, Nat.reduceMul, Nat.reduceLeDiff]
  refine Go.fit (fr' := [(1, I i), (2, .tp [I r, I c, ratsT l] 0), (4, .v (.bool false)), (6, ratsT q), (8, .sl 0 0 q.length 3), (38, I (1 + l.length + tot l))]) (a :: ns) (hS3.fit (n0 := e.σ0.length) rfl (by simp [go_sem, tsI, slI, I, renL_ints, blk_ren, en_live, en_dead, ints_length, ints_nil, ints_one, rho, ratsT, renL_frs]) (by rw [h0]; exact Nat.zero_le _) (fun n hn => by rw [h0] at hn; simp at hn)) ?_
  clear hS3
  have hS := Seg.canon 30 q
  refine Go.run hte hn 100 ?_; simp only [go_sem, Nat.reduceBEq, Nat.reduceLT, Nat.reduceAdd, Nat.reduceMul, Nat.reduceLeDiff, d1, ratsT]
  have a1 : [AV.sl 0 0 q.length 3, ratsT q].all (resOk (segO 30 q) 5) = true := by simp only [List.all_cons, List.all_nil, hS.resOk5, resOk_rats5, Bool.and_true]
  have a2 : [AV.sl 0 0 q.length 3, ratsT q].map (res (segO 30 q) 5) = [ratsT q, ratsT q] := by simp only [List.map_cons, List.map_nil, hS.res5, res_rats5]
  refine Go.callB 5 hP Q rfl rfl rfl (by omega) a1 a2 rfl rfl ?_
  refine Go.run hte hn 100 ?_; simp only [go_sem, Nat.reduceBEq, Nat.reduceLT, Nat.reduceAdd, Nat.reduceMul, Nat.reduceLeDiff]
  refine Go.call hP KQ (0 :: List.range' 1 (2 * q.length)) rfl rfl rfl (by omega) rfl (hS.lend _ (mkR_length 1 q)) ?_
  have hS2 := hS.wrote (mkR 1 q) (mkR_length 1 q)
  generalize wb _ _ _ (segO 30 q) = σ2 at hS2 ⊢
  simp only [go_sem, Nat.reduceBEq, Nat.reduceLT, Nat.reduceAdd, Nat.reduceMul, Nat.reduceLeDiff]
  have r1 := hS2.resOk5
  have r2 := hS2.res5
  rw [mkR_length] at r1 r2
  refine Go.sealB 5 8 (fr' := [(1, I i), (2, .tp [I r, I c, ratsT l] 0), (4, .v (.bool false)), (6, ratsT q), (49, I (1 + q.length + tot q))]) h0 rfl r1 rfl (by simp [go_sem, tsI, slI, I, renL_ints, blk_ren, en_live, en_dead, ints_length, ints_nil, ints_one, ratsT, renL_frs]) ?_
  rw [r2]
  clear r1 r2 hS2 a1 a2
  have d2 : decide ((1 : Int) + q.length + tot q < 0) = false := decide_eq_false (by omega)
  refine Go.run hte hn 100 ?_; simp only [go_sem, Nat.reduceBEq, Nat.reduceLT, Nat.reduceAdd, Nat.reduceMul, Nat.reduceLeDiff, ratsT]
  refine Go.call0 hP (HQ) rfl rfl rfl (by omega) (by simp [go_sem, tsI, slI, I, renL_ints, blk_ren, en_live, en_dead, ints_length, ints_nil, ints_one]) ?_
  refine Go.run hte hn 100 ?_; simp only [go_sem, Nat.reduceBEq, Nat.reduceLT, Nat.reduceAdd, Nat.reduceMul, Nat.reduceLeDiff, d2]
  refine Go.call0 hP T1 rfl rfl rfl (by omega) (by simp [go_sem, tsI, slI, I, renL_ints, blk_ren, en_live, en_dead, ints_length, ints_nil, ints_one, ratsT, renL_frs]) ?_
  refine Go.run hte hn 100 ?_; simp only [go_sem, Nat.reduceBEq, Nat.reduceLT, Nat.reduceAdd, Nat.reduceMul, Nat.reduceLeDiff, ratsT, renL_frs]
  refine Go.call0 hP M rfl rfl rfl (by omega) (by simp [go_sem, tsI, slI, I, renL_ints, blk_ren, en_live, en_dead, ints_length, ints_nil, ints_one, ratsT, renL_frs]) ?_
  refine Go.run hte hn 100 ?_; simp only [go_sem, Nat.reduceBEq, Nat.reduceLT, Nat.reduceAdd, Nat.reduceMul, Nat.reduceLeDiff, ratsT, renL_frs]
  generalize segO 30 q = σ at hS ⊢
  have a1 : [AV.sl 0 0 q.length 3, ratsT q].all (resOk σ 5) = true := by simp only [List.all_cons, List.all_nil, hS.resOk5, resOk_rats5, Bool.and_true]
  have a2 : [AV.sl 0 0 q.length 3, ratsT q].map (res σ 5) = [ratsT q, ratsT q] := by simp only [List.map_cons, List.map_nil, hS.res5, res_rats5]
  refine Go.callB 5 hP Q rfl rfl rfl (by omega) a1 a2 rfl rfl ?_
  refine Go.run hte hn 100 ?_; simp only [go_sem, Nat.reduceBEq, Nat.reduceLT, Nat.reduceAdd, Nat.reduceMul, Nat.reduceLeDiff]
  refine Go.call0 hP (HQ) rfl rfl rfl (by omega) (by simp [go_sem, tsI, slI, I, renL_ints, blk_ren, en_live, en_dead, ints_length, ints_nil, ints_one]) ?_
  refine Go.run hte hn 100 ?_; simp only [go_sem, Nat.reduceBEq, Nat.reduceLT, Nat.reduceAdd, Nat.reduceMul, Nat.reduceLeDiff, d2]
  refine Go.retG hte hE hf [] rfl (by simp [go_sem, tsI, slI, I, renL_ints, blk_ren, en_live, en_dead, ints_length, ints_nil, ints_one]) rfl (by rw [h0]; rfl) trivial
theorem fat_mem {l : List FR} {i : Nat} (h : i < l.length) : fat l i ∈ l := by
  unfold fat
  rw [List.getD_eq_getElem?_getD, List.getElem?_eq_getElem h]
  exact List.getElem_mem h
theorem flat_frs (l : List FR) : l.flatMap (fun x : FR => (AV.v (.bool x.1.1)) :: (AV.ts x.1.2.length (ints x.1.2)) :: [AV.ts x.2.length (ints x.2)]) = frs l := rfl
theorem law_FnExactRowOf (x0 : (Int) × (Int) × (List (((Bool) × (List (Int))) × (List (Int))))) (x1 : Int) (h0 : (fun x : (Int) × (Int) × (List (((Bool) × (List (Int))) × (List (Int)))) => (fun n : Int => (Lit.int .i64 n).wf = true) x.1 ∧ (fun n : Int => (Lit.int .i64 n).wf = true) x.2.1 ∧ (fun l : List (((Bool) × (List (Int))) × (List (Int))) => (∀ a ∈ l, (fun x : ((Bool) × (List (Int))) × (List (Int)) => (fun x : (Bool) × (List (Int)) => (fun _ : Bool => True) x.1 ∧ (fun l : List (Int) => (∀ a ∈ l, (fun n : Int => (Lit.int .i64 n).wf = true) a) ∧ l.length ≤ maxLen) x.2) x.1 ∧ (fun l : List (Int) => (∀ a ∈ l, (fun n : Int => (Lit.int .i64 n).wf = true) a) ∧ l.length ≤ maxLen) x.2) a) ∧ l.length ≤ maxLen) x.2.2) x0) (h1 : (fun n : Int => (Lit.int .i64 n).wf = true) x1) : AC Try.prog 7 [AV.agg ((fun x : (Int) × (Int) × (List (((Bool) × (List (Int))) × (List (Int)))) => (fun n : Int => [AV.v (.int .i64 n)]) x.1 ++ ((fun n : Int => [AV.v (.int .i64 n)]) x.2.1 ++ (fun l : List (((Bool) × (List (Int))) × (List (Int))) => [AV.ts l.length (l.flatMap (fun x : ((Bool) × (List (Int))) × (List (Int)) => (fun x : (Bool) × (List (Int)) => (fun b : Bool => [AV.v (.bool b)]) x.1 ++ (fun l : List (Int) => [AV.ts l.length (l.flatMap (fun n : Int => [AV.v (.int .i64 n)]))]) x.2) x.1 ++ (fun l : List (Int) => [AV.ts l.length (l.flatMap (fun n : Int => [AV.v (.int .i64 n)]))]) x.2))]) x.2.2)) x0), AV.v (.int .i64 x1)] [] (.v (.bool true)) [] := by
  have b0 : ∀ i, i < x0.2.2.length → (fat x0.2.2 i).1.2.length ≤ 9223372036854775807 ∧ (fat x0.2.2 i).2.length ≤ 9223372036854775807 := fun i hi => by
    have h := h0.2.2.1 _ (fat_mem hi)
    have h1 := h.1.2.2
    have h2 := h.2.2
    unfold maxLen at h1 h2
    omega
  have h := walk_FnExactRowOf x0.1 x0.2.1 x0.2.2 x1 (wf64 h0.1).1 (wf64 h0.1).2 (wf64 h0.2.1).1 (wf64 h0.2.1).2 (by have := h0.2.2.2; unfold maxLen at this; omega) b0
  simp only [List.cons_append, List.nil_append, flat_ints, flat_frs]
  exact h

end Go.Proofs.Ytbblhgldfcodfaa.Ab
