/- The contract of the law FnExactMatrixOf: it answers true, whatever the arguments. -/
import Derived.Test.YtbblhgldfcodfaaAbT
import Derived.Test.YtbblhgldfcodfaaAbP
import Derived.Test.YtbblhgldfcodfaaAbV
import Derived.Test.YtbblhgldfcodfaaAbO
import Derived.Test.YtbblhgldfcodfaaAbR
import Derived.Test.YtbblhgldfcodfaaRunW1
import Derived.Test.YtbblhgldfcodfaaRunW5
import Derived.Test.YtbblhgldfcodfaaW8
import Derived.Test.YtbblhgldfcodfaaRunW17
import Derived.Test.YtbblhgldfcodfaaW42
import Derived.Test.YtbblhgldfcodfaaW48
import Derived.Test.YtbblhgldfcodfaaW49
set_option linter.unusedVariables false
set_option linter.unusedSimpArgs false
set_option maxRecDepth 10000
namespace Go.Proofs.Ytbblhgldfcodfaa.Ab
open Go Go.RowKit
attribute [local go_sem] q_run q_seq q_skip q_block q_exit q_cond q_region q_nil q_op q_blk q_loop q_ret q_open q_inv q_fin q_go q_h0 q_h1 q_gskip q_stepC q_brt q_brf q_stepX q_sskip q_sskip0 q_val q_need q_new q_newc q_sv q_sto q_c1 q_c2 q_c3 q_c4 q_c5 q_c6 q_c7 q_c8 q_c9 q_c10 q_c11 q_c12 q_c13 q_c14 q_c15 q_c16 q_c17 q_c18 q_c19 q_c20 q_c21 q_c22 q_g0 q_g1 q_gC q_gD q_gE q_gB1 q_gB2 q_gB3 q_gB4 q_ev1 q_ev2 q_ev3 q_evo0 q_evo1 q_rv q_rva q_o1 q_o2 q_pk1 q_pk2 q_ld1p q_ld1e q_ld1t q_ldnp q_ldne q_ldnt q_sub0 q_sub1 q_subc q_stS q_stT q_box q_bldr q_bld q_fill0 q_fill1 q_fillB q_bsr q_bsl q_fap q_fat q_iasl q_iats q_lnsl q_lnts q_lnv q_lnS q_exA q_mkB q_lo0 q_lo1 q_hi0 q_hi1 q_slcA q_slcU1 q_slcU2 q_slcT1 q_slcT2 q_slsA q_slsU q_slsT q_apA q_apC q_srcE1 q_srcE2 q_srcE3 q_srcA1 q_srcB q_srcA2 q_srcA3 q_fnA q_nc1 q_nc2 q_bin q_bin2 q_bin3 q_bin4 q_bin5 q_bin6 q_bin7 q_bin8 q_bin9 q_bin10 q_i1 q_i2 q_i3 q_i4 q_i5 q_i6 q_i7 q_i8 q_i9 q_i10 q_i11 q_s1 q_s2 q_s3 q_u1 q_u2 q_min q_max q_ce1 q_ce2 q_ce3 q_ce4 q_ce5 q_ce6 q_ce7 q_ce8 q_ce9 q_ce10 q_ce11 q_on2 q_on3 q_on4 q_on5 q_on6 q_on7 q_on8 q_on9 q_on10 q_on11 q_enr1 q_gEt q_zr0 q_zr1 q_zgs q_zgg q_zk1 q_zk2 q_zd q_zv1 q_zv2 q_zv3 q_zp1 q_zp2 q_zf q_zs1 q_zs2 q_za q_za1 q_fi0 q_fi1 q_ln0 q_ln1 q_h01 q_h02 q_h03 q_h04 q_h05 q_h06 q_h07 q_h08 q_h09 q_h10 q_h11 q_h12 q_h13 q_h14 q_h15 q_h16 q_h17 q_h18 q_h19 q_h20 q_h21 q_h22 q_h23 q_h24 q_al q_b0 q_rs1 q_rs2 q_rs3 q_rs4 q_rs5 q_rs6 q_rs7 q_rs8 q_ro1 q_ro2 q_ro3 q_ro4 q_ro5 q_ro6 q_ro7 q_ro8 cond_true cond_false decide_true decide_false List.length_cons List.length_nil List.nil_append List.cons_append true_and and_true List.toList_toArray Option.map_some Nat.zero_add Nat.add_zero Bool.and_self Bool.and_true Bool.true_and Bool.and_false Bool.false_and Bool.not_true Bool.not_false FitF FitL LendL wb keys nodupB firstOk tupA op_move op_assign op_pick op_un op_box op_nc op_mf op_ex op_min op_max get put del nth evs evp sets setN ones popTo args0 AV.ren AV.renL rho List.take_succ_cons List.take_zero List.drop_succ_cons List.drop_zero Option.isNone_none Option.isNone_some o_al28 o_al30 o_al43 o_al80 o_al84 o_ap22 o_ap41 o_bi120 o_bi22 o_bi3 o_bi4 o_bi68 o_bs22_0 o_bs22_1 o_bs22_3 o_bs41_0 o_bs41_1 o_bu28 o_bu30 o_bu43 o_bu80 o_bu98 o_cn120 o_cn3 o_cv120_3 o_cv3_120 o_fa24_0 o_fa24_1 o_fa26_0 o_fa26_1 o_fa28_0 o_fa28_1 o_fa30_0 o_fa30_1 o_fa38_0 o_fa38_1 o_fa38_2 o_fa43_0 o_fa43_1 o_fa43_2 o_fa80_0 o_fa80_1 o_fa80_2 o_fa98_0 o_fa98_1 o_ia22 o_ia36 o_ia41 o_ia78 o_ia84 o_ib4 o_ip68 o_ld22 o_ld24 o_ld26 o_ld28 o_ld3 o_ld30 o_ld36 o_ld38 o_ld4 o_ld41 o_ld43 o_ld68 o_ld78 o_ld80 o_ld84 o_ln22 o_ln36 o_ln41 o_ln78 o_ln84 o_mk22 o_mk41 o_mk78 o_mk84 o_sl22 o_sl41 o_st22 o_st28 o_st3 o_st30 o_st4 o_st41 o_st43 o_st68 o_st80 o_st84 o_zb22 o_zb36 o_zb41 o_zb78 o_zb84 I tsI slI renL_ints blk_ren en_live en_dead List.set_cons_zero List.set_cons_succ List.map_cons List.map_nil List.append_nil frzF frzS AV.frz AV.frzL frzL_ints ints_all ints_all' ints_take1 ints_mk ints_mk1 mk_length res_ints resOk_ints plain_ints plainA plainL plainE plainS List.all_cons List.all_nil bigO bigT ratO ratT ratsT renL_frs frzL_frs frs_all matT FitI FitZ keys get put del blksO_length mkR_length mixR_length segO_id segO_id0 segO_length List.append_nil List.nil_append
/-! ### The law -/
theorem tot_le {l : List FR} {B : Nat} (h : ∀ i, i < l.length → fsz (fat l i) ≤ B) : tot l ≤ l.length * B := by
  induction l with
  | nil => simp [tot]
  | cons x l ih =>
    have h1 := h 0 (by simp)
    have h2 := ih (fun i hi => h (i + 1) (by simpa using hi))
    have h3 : fsz x ≤ B := h1
    simp only [tot, List.length_cons, Nat.add_mul, Nat.one_mul]
    omega
theorem mol_small (r c : Int) (a : List Int) (hw : ∀ x ∈ a, -9223372036854775808 ≤ x ∧ x ≤ 9223372036854775807) : (mol r c a).length ≤ 576 ∧ tot (mol r c a) ≤ 2304 := by
  unfold mol
  split
  · rename_i h
    have hl : (a.map ri).length = a.length := List.length_map _
    have hN : a.length ≤ 576 := by
      obtain ⟨k1, k2, k3, k4, k5⟩ := h
      obtain ⟨R, rfl⟩ : ∃ R : Nat, r = R := ⟨r.toNat, by omega⟩
      obtain ⟨C', rfl⟩ : ∃ C : Nat, c = C := ⟨c.toNat, by omega⟩
      have hRC : R * C' ≤ 24 * 24 := Nat.mul_le_mul (by omega) (by omega)
      rw [← Int.natCast_mul] at k5
      omega
    have := tot_le (l := a.map ri) (B := 4) fun j hj => by
      rw [hl] at hj
      rw [mapri_at hj]
      have hx : rd a (j : Int) ∈ a := by
        unfold rd
        rw [Int.toNat_natCast, List.getD_eq_getElem?_getD, List.getElem?_eq_getElem hj]
        exact List.getElem_mem hj
      have := bofL_le _ (hw _ hx).1 (hw _ hx).2
      show (bofL _).length + 1 ≤ 4
      omega
    rw [hl] at this ⊢
    omega
  · exact ⟨by simp, by simp [tot]⟩
theorem tot_at' {l : List FR} {i : Nat} (h : i < l.length) : (fat l i).1.2.length ≤ tot l ∧ (fat l i).2.length ≤ tot l := by
  have := tot_at h
  unfold fsz at this
  omega
theorem toIntST_c (a : List Int) (ha : a.length ≤ 1048576) : AC Try.prog 35 [tsI a] [] (tsI a) [] := by
  have h := (toIntS_c a ha).asTold 2 (by simp [go_sem, tsI, slI, I, renL_ints, blk_ren, en_live, en_dead, ints_length, ints_nil, ints_one])
  have e : res [.live ⟨3, ints a⟩] 2 (slI 0 a) = tsI a := by simp [go_sem, tsI, slI, I, renL_ints, blk_ren, en_live, en_dead, ints_length, ints_nil, ints_one]
  rw [e] at h
  exact h
theorem walk_FnExactMatrixOf (r c : Int) (a : List Int) (hr1 : -9223372036854775808 ≤ r) (hr2 : r ≤ 9223372036854775807) (hc1 : -9223372036854775808 ≤ c) (hc2 : c ≤ 9223372036854775807) (hw : ∀ x ∈ a, -9223372036854775808 ≤ x ∧ x ≤ 9223372036854775807) : AC Try.prog 8 [I r, I c, tsI a] [] (.v (.bool true)) [] := by
  refine AC.intro (fn := Try.f8) (c := ?_) 76 Try.func8 (by rfl) (by kernel_rfl) (by kernel_rfl) (Nat.le_of_ble_eq_true rfl) fun e hP hf hn h0 hE => ?_
  have hte : TEok e.P te := hP ▸ teOk
  have hmx : e.P.follows .mixedOrders = true := hP ▸ mixedOk
  refine Go.run hte hn 100 ?_; simp only [go_sem, Nat.reduceBEq, Nat.reduceLT, Nat.reduceAdd, Nat.reduceMul, Nat.reduceLeDiff, tsI]
  refine Br.mk (fun hz => ?_) (fun hz => ?_)
  · refine Go.retG hte hE hf [] rfl (by simp [go_sem, tsI, slI, I, renL_ints, blk_ren, en_live, en_dead, ints_length, ints_nil, ints_one]) rfl (by rw [h0]; rfl) trivial
  have ha : a.length ≤ 1048576 := by have := of_decide_eq_false hz; omega
  clear hz
  have T := toIntST_c a ha
  have T2 := toIntS_c a ha
  have CI := impl_MatrixOf_c r c a hr1 hr2 hc1 hc2 ha hw
  have CS := spec_MatrixOf_c r c a hr1 hr2 hc1 hc2 ha hw
  obtain ⟨z1, z2⟩ := mol_small r c a hw
  generalize mol r c a = l at *
  generalize mod1 r c a = p at *
  generalize mod2 r c a = q at *
  have E := eqMatrix_c p q l (by omega) (fun i hi => by have := tot_at' hi; omega)
  have K := markMatrix_c p q l 1 (by omega) (by omega)
  have H := heldMatrix_c p q l 1 (by omega) (by omega)
  have EA := eqIntS_c a (by omega)
  unfold matT at CS E H
  unfold matO at CI K
  refine Go.call0 hP (T) rfl rfl rfl (by omega) (by simp [go_sem, tsI, slI, I, renL_ints, blk_ren, en_live, en_dead, ints_length, ints_nil, ints_one]) ?_
  refine Go.run hte hn 100 ?_; simp only [go_sem, Nat.reduceBEq, Nat.reduceLT, Nat.reduceAdd, Nat.reduceMul, Nat.reduceLeDiff]
  refine Go.call0 hP (CS) rfl rfl rfl (by omega) (by simp [go_sem, tsI, slI, I, renL_ints, blk_ren, en_live, en_dead, ints_length, ints_nil, ints_one]) ?_
  refine Go.run hte hn 100 ?_; simp only [go_sem, Nat.reduceBEq, Nat.reduceLT, Nat.reduceAdd, Nat.reduceMul, Nat.reduceLeDiff, ratsT, renL_frs]
  refine Go.freeze (nm := 0) rfl ?_; simp only [go_sem, Nat.reduceBEq, Nat.reduceLT, Nat.reduceAdd, Nat.reduceMul, Nat.reduceLeDiff]
  refine Go.to [(0, I r), (1, I c), (2, tsI a), (6, .v (.bool false)), (7, .tp [I p, I q, ratsT l] 0), (22, tsI a)] [] [] rfl rfl (by rw [h0]; rfl) (by simp [go_sem, tsI, slI, I, renL_ints, blk_ren, en_live, en_dead, ints_length, ints_nil, ints_one, ratsT, renL_frs]) trivial ?_
  refine Go.call0 hP (T2) rfl rfl rfl (by omega) (by simp [go_sem, tsI, slI, I, renL_ints, blk_ren, en_live, en_dead, ints_length, ints_nil, ints_one]) ?_
  refine Go.run hte hn 100 ?_; simp only [go_sem, Nat.reduceBEq, Nat.reduceLT, Nat.reduceAdd, Nat.reduceMul, Nat.reduceLeDiff]
  refine Go.callB 3 hP CI rfl rfl rfl (by omega) (by first | (simp only [go_sem, Nat.reduceBEq, Nat.reduceLT, Nat.reduceAdd, Nat.reduceMul, Nat.reduceLeDiff]; done) | simp [go_sem, tsI, slI, I, renL_ints, blk_ren, en_live, en_dead, ints_length, ints_nil, ints_one]) (by first | (simp only [go_sem, Nat.reduceBEq, Nat.reduceLT, Nat.reduceAdd, Nat.reduceMul, Nat.reduceLeDiff]; done) | simp [go_sem, tsI, slI, I, renL_ints, blk_ren, en_live, en_dead, ints_length, ints_nil, ints_one]) rfl (plain_seg _ _) ?_
  show Go e _ (put 27 (.agg [I p, I q, .sl 1 0 l.length 3]) _) ([.live ⟨3, ints a⟩] ++ (segO 30 l).map (En.ren (rho [] ([.live ⟨3, ints a⟩] : Sto).length)))
  have hS := (Seg.canon 30 l).shift [.live ⟨3, ints a⟩]
  have h00 : nth ([.live ⟨3, ints a⟩] ++ (segO 30 l).map (En.ren (rho [] ([.live ⟨3, ints a⟩] : Sto).length))) 0 = some (.live ⟨3, ints a⟩) := rfl
  have hge : ∀ m ∈ (1 + 0) :: (List.range' 1 (2 * l.length)).map (1 + ·), m ∉ [0] := fun m hm hh => by
    have hh := List.mem_singleton.1 hh
    rcases List.mem_cons.1 hm with hm | hm
    · omega
    · obtain ⟨j, _, hj⟩ := List.mem_map.1 hm
      omega
  have hN : (([.live ⟨3, ints a⟩] : Sto) ++ (segO 30 l).map (En.ren (rho [] ([.live ⟨3, ints a⟩] : Sto).length))).length = 2 * l.length + 2 := by rw [List.length_append, List.length_map, segO_length]; simp; omega
  generalize [.live ⟨3, ints a⟩] ++ (segO 30 l).map (En.ren (rho [] ([.live ⟨3, ints a⟩] : Sto).length)) = σ at hS h00 hN ⊢
  refine Go.run hte hn 100 ?_; simp only [go_sem, Nat.reduceBEq, Nat.reduceLT, Nat.reduceAdd, Nat.reduceMul, Nat.reduceLeDiff, ratsT, renL_frs, nth_app_end, setN_app_end]
  have b0 : (0 == σ.length) = false := by rw [hN]; simp
  have b1 : (1 == σ.length) = false := by rw [hN]; simp
  refine Go.kill σ.length [(0, I r), (1, I c), (2, tsI a), (6, .v (.bool false)), (7, .tp [I p, I q, ratsT l] 0), (8, .sl 0 0 a.length 1), (9, .tp [I p, I q, .sl 1 0 l.length 3] 0), (28, .agg [I p, I q, .sl 1 0 l.length 3]), (29, .agg [I p, I q, ratsT l])] (nth_app_end _ _) rfl (by simp [go_sem, tsI, slI, I, renL_ints, blk_ren, en_live, en_dead, ints_length, ints_nil, ints_one, b0, b1, ratsT, frzL_frs, tsI, frzL_ints]) ?_
  rw [setN_app_end]
  have hS3 := hS.append [.dead]
  have h03 := nth_app [.dead] h00
  change Seg _ 1 _ _ _ at hS3
  change ∀ m ∈ 1 :: _, _ at hge
  generalize (List.range' 1 (2 * l.length)).map _ = ns at hS3 hge
  generalize σ ++ ([.dead] : Sto) = σ3 at hS3 h03 ⊢
  clear hS h00 hN
  have a1 : [AV.agg [I p, I q, .sl 1 0 l.length 3], .agg [I p, I q, ratsT l]].all (resOk σ3 6) = true := by simp only [List.all_cons, List.all_nil, (res_mat hS3 p q).2, (res_matT _ l p q).2]; rfl
  have a2 : [AV.agg [I p, I q, .sl 1 0 l.length 3], .agg [I p, I q, ratsT l]].map (res σ3 6) = [.agg [I p, I q, ratsT l], .agg [I p, I q, ratsT l]] := by simp only [List.map_cons, List.map_nil, (res_mat hS3 p q).1, (res_matT _ l p q).1]
  refine Go.callB 6 hP E rfl rfl rfl (by omega) a1 a2 rfl rfl ?_
  refine Go.run hte hn 100 ?_; simp only [go_sem, Nat.reduceBEq, Nat.reduceLT, Nat.reduceAdd, Nat.reduceMul, Nat.reduceLeDiff]
  refine Go.call0 hP (T) rfl rfl rfl (by omega) (by simp [go_sem, tsI, slI, I, renL_ints, blk_ren, en_live, en_dead, ints_length, ints_nil, ints_one]) ?_
  refine Go.run hte hn 100 ?_; simp only [go_sem, Nat.reduceBEq, Nat.reduceLT, Nat.reduceAdd, Nat.reduceMul, Nat.reduceLeDiff]
  refine Go.callB 3 hP EA rfl rfl rfl (by omega) (by simp [go_sem, tsI, slI, I, renL_ints, blk_ren, en_live, en_dead, ints_length, ints_nil, ints_one, h03]) (by simp [go_sem, tsI, slI, I, renL_ints, blk_ren, en_live, en_dead, ints_length, ints_nil, ints_one, h03]) rfl rfl ?_
  refine Go.run hte hn 100 ?_; simp only [go_sem, Nat.reduceBEq, Nat.reduceLT, Nat.reduceAdd, Nat.reduceMul, Nat.reduceLeDiff]
  refine Go.call hP (markIntS_c a 1 (by omega) (by omega) (by omega)) [0] rfl rfl rfl (by omega) (by simp [go_sem, tsI, slI, I, renL_ints, blk_ren, en_live, en_dead, ints_length, ints_nil, ints_one]) (Lend.mk' rfl (by simp [go_sem, tsI, slI, I, renL_ints, blk_ren, en_live, en_dead, ints_length, ints_nil, ints_one, h03])) ?_
  have hS4 := hS3.far (L := [0]) (ρ := rho [0] σ3.length) (so := [.live ⟨3, ints (mk 1 a.length)⟩]) hge
  generalize wb _ _ _ σ3 = σ4 at hS4 ⊢
  simp only [go_sem, Nat.reduceBEq, Nat.reduceLT, Nat.reduceAdd, Nat.reduceMul, Nat.reduceLeDiff]
  refine Go.fit (fr' := [(0, I r), (1, I c), (2, tsI a), (6, .v (.bool false)), (7, .tp [I p, I q, ratsT l] 0), (9, .tp [I p, I q, .sl 0 0 l.length 3] 0), (39, I (1 + a.length))]) (1 :: ns) (hS4.fit (n0 := e.σ0.length) rfl (by simp [go_sem, tsI, slI, I, renL_ints, blk_ren, en_live, en_dead, ints_length, ints_nil, ints_one, rho, ratsT, renL_frs]) (by rw [h0]; exact Nat.zero_le _) (fun n hn => by rw [h0] at hn; simp at hn)) ?_
  clear hS3 hS4 h03 hge a1 a2
  have hS := Seg.canon 30 l
  have d1 : decide ((1 : Int) + a.length < 0) = false := decide_eq_false (by omega)
  refine Go.run hte hn 100 ?_; simp only [go_sem, Nat.reduceBEq, Nat.reduceLT, Nat.reduceAdd, Nat.reduceMul, Nat.reduceLeDiff, d1]
  have a1 : [AV.agg [I p, I q, .sl 0 0 l.length 3], .agg [I p, I q, ratsT l]].all (resOk (segO 30 l) 6) = true := by simp only [List.all_cons, List.all_nil, (res_mat hS p q).2, (res_matT _ l p q).2]; rfl
  have a2 : [AV.agg [I p, I q, .sl 0 0 l.length 3], .agg [I p, I q, ratsT l]].map (res (segO 30 l) 6) = [.agg [I p, I q, ratsT l], .agg [I p, I q, ratsT l]] := by simp only [List.map_cons, List.map_nil, (res_mat hS p q).1, (res_matT _ l p q).1]
  refine Go.callB 6 hP E rfl rfl rfl (by omega) a1 a2 rfl rfl ?_
  refine Go.run hte hn 100 ?_; simp only [go_sem, Nat.reduceBEq, Nat.reduceLT, Nat.reduceAdd, Nat.reduceMul, Nat.reduceLeDiff]
  refine Go.call hP K (0 :: List.range' 1 (2 * l.length)) rfl rfl rfl (by omega) rfl (hS.lend _ (mkR_length 1 l)) ?_
  have hS2 := hS.wrote (mkR 1 l) (mkR_length 1 l)
  generalize wb _ _ _ (segO 30 l) = σ2 at hS2 ⊢
  simp only [go_sem, Nat.reduceBEq, Nat.reduceLT, Nat.reduceAdd, Nat.reduceMul, Nat.reduceLeDiff]
  have r1 := (res_tpm hS2 p q).2
  have r2 := (res_tpm hS2 p q).1
  rw [mkR_length] at r1 r2
  refine Go.sealB (x := .tp [I p, I q, .sl 0 0 l.length 3] 0) 6 9 (fr' := [(0, I r), (1, I c), (2, tsI a), (6, .v (.bool false)), (7, .tp [I p, I q, ratsT l] 0), (50, I (1 + l.length + tot l))]) h0 rfl r1 rfl (by simp [go_sem, tsI, slI, I, renL_ints, blk_ren, en_live, en_dead, ints_length, ints_nil, ints_one, ratsT, renL_frs]) ?_
  rw [r2]
  clear r1 r2 hS2 a1 a2
  have d2 : decide ((1 : Int) + l.length + tot l < 0) = false := decide_eq_false (by omega)
  refine Go.run hte hn 100 ?_; simp only [go_sem, Nat.reduceBEq, Nat.reduceLT, Nat.reduceAdd, Nat.reduceMul, Nat.reduceLeDiff, ratsT]
  refine Go.call0 hP H rfl rfl rfl (by omega) (by simp [go_sem, tsI, slI, I, renL_ints, blk_ren, en_live, en_dead, ints_length, ints_nil, ints_one, ratsT, renL_frs]) ?_
  refine Go.run hte hn 100 ?_; simp only [go_sem, Nat.reduceBEq, Nat.reduceLT, Nat.reduceAdd, Nat.reduceMul, Nat.reduceLeDiff, d2]
  refine Go.call0 hP (T) rfl rfl rfl (by omega) (by simp [go_sem, tsI, slI, I, renL_ints, blk_ren, en_live, en_dead, ints_length, ints_nil, ints_one]) ?_
  refine Go.run hte hn 100 ?_; simp only [go_sem, Nat.reduceBEq, Nat.reduceLT, Nat.reduceAdd, Nat.reduceMul, Nat.reduceLeDiff]
  refine Go.call0 hP CI rfl rfl rfl (by omega) (by simp [go_sem, tsI, slI, I, renL_ints, blk_ren, en_live, en_dead, ints_length, ints_nil, ints_one, ratsT, renL_frs]) ?_
  refine Go.run hte hn 100 ?_; simp only [go_sem, Nat.reduceBEq, Nat.reduceLT, Nat.reduceAdd, Nat.reduceMul, Nat.reduceLeDiff, ratsT, renL_frs, nth_seg0, setN_seg0]
  have hS3 := hS.append [.live ⟨43, [.v (.int .i64 p), .v (.int .i64 q), .sl 0 0 l.length 3]⟩]
  generalize segO 30 l ++ [.live ⟨43, [.v (.int .i64 p), .v (.int .i64 q), .sl 0 0 l.length 3]⟩] = σ at hS3 ⊢
  have a1 : [AV.agg [I p, I q, .sl 0 0 l.length 3], .agg [I p, I q, ratsT l]].all (resOk σ 6) = true := by simp only [List.all_cons, List.all_nil, (res_mat hS3 p q).2, (res_matT _ l p q).2]; rfl
  have a2 : [AV.agg [I p, I q, .sl 0 0 l.length 3], .agg [I p, I q, ratsT l]].map (res σ 6) = [.agg [I p, I q, ratsT l], .agg [I p, I q, ratsT l]] := by simp only [List.map_cons, List.map_nil, (res_mat hS3 p q).1, (res_matT _ l p q).1]
  refine Go.callB 6 hP E rfl rfl rfl (by omega) a1 a2 rfl rfl ?_
  refine Go.run hte hn 100 ?_; simp only [go_sem, Nat.reduceBEq, Nat.reduceLT, Nat.reduceAdd, Nat.reduceMul, Nat.reduceLeDiff]
  refine Go.call0 hP H rfl rfl rfl (by omega) (by simp [go_sem, tsI, slI, I, renL_ints, blk_ren, en_live, en_dead, ints_length, ints_nil, ints_one, ratsT, renL_frs]) ?_
  refine Go.run hte hn 100 ?_; simp only [go_sem, Nat.reduceBEq, Nat.reduceLT, Nat.reduceAdd, Nat.reduceMul, Nat.reduceLeDiff, d2]
  refine Go.retG hte hE hf [] rfl (by simp [go_sem, tsI, slI, I, renL_ints, blk_ren, en_live, en_dead, ints_length, ints_nil, ints_one]) rfl (by rw [h0]; rfl) trivial
theorem law_FnExactMatrixOf (x0 : Int) (x1 : Int) (x2 : List (Int)) (h0 : (fun n : Int => (Lit.int .i64 n).wf = true) x0) (h1 : (fun n : Int => (Lit.int .i64 n).wf = true) x1) (h2 : (fun l : List (Int) => (∀ a ∈ l, (fun n : Int => (Lit.int .i64 n).wf = true) a) ∧ l.length ≤ maxLen) x2) : AC Try.prog 8 [AV.v (.int .i64 x0), AV.v (.int .i64 x1), AV.ts x2.length (x2.flatMap (fun n : Int => [AV.v (.int .i64 n)]))] [] (.v (.bool true)) [] := by
  have h := walk_FnExactMatrixOf x0 x1 x2 (wf64 h0).1 (wf64 h0).2 (wf64 h1).1 (wf64 h1).2 (fun x hx => wf64 (h2.1 x hx))
  simp only [flat_ints]
  exact h

end Go.Proofs.Ytbblhgldfcodfaa.Ab
