/- Contracts of the given program's functions and of the reference's (walks). -/
import Derived.Test.YtbblhgldfcodfaaAbT
import Derived.Test.YtbblhgldfcodfaaAbP
import Derived.Test.YtbblhgldfcodfaaAbN
import Derived.Test.YtbblhgldfcodfaaAbD
import Derived.Test.YtbblhgldfcodfaaAbK
import Derived.Test.YtbblhgldfcodfaaAbV
import Derived.Test.YtbblhgldfcodfaaAbW
import Derived.Test.YtbblhgldfcodfaaAbC
import Derived.Test.YtbblhgldfcodfaaAbY
import Derived.Test.YtbblhgldfcodfaaAbO
import Derived.Test.YtbblhgldfcodfaaRunW1
import Derived.Test.YtbblhgldfcodfaaRunW5
import Derived.Test.YtbblhgldfcodfaaW8
import Derived.Test.YtbblhgldfcodfaaRunW9
import Derived.Test.YtbblhgldfcodfaaRunW17
import Derived.Test.YtbblhgldfcodfaaW42
import Derived.Test.YtbblhgldfcodfaaW48
set_option linter.unusedVariables false
set_option linter.unusedSimpArgs false
set_option maxRecDepth 10000
namespace Go.Proofs.Ytbblhgldfcodfaa.Ab
open Go Go.RowKit
attribute [local go_sem] q_run q_seq q_skip q_block q_exit q_cond q_region q_nil q_op q_blk q_loop q_ret q_open q_inv q_fin q_go q_h0 q_h1 q_gskip q_stepC q_brt q_brf q_stepX q_sskip q_sskip0 q_val q_need q_new q_newc q_sv q_sto q_c1 q_c2 q_c3 q_c4 q_c5 q_c6 q_c7 q_c8 q_c9 q_c10 q_c11 q_c12 q_c13 q_c14 q_c15 q_c16 q_c17 q_c18 q_c19 q_c20 q_c21 q_c22 q_g0 q_g1 q_gC q_gD q_gE q_gB1 q_gB2 q_gB3 q_gB4 q_ev1 q_ev2 q_ev3 q_evo0 q_evo1 q_rv q_rva q_o1 q_o2 q_pk1 q_pk2 q_ld1p q_ld1e q_ld1t q_ldnp q_ldne q_ldnt q_sub0 q_sub1 q_subc q_stS q_stT q_box q_bldr q_bld q_fill0 q_fill1 q_fillB q_bsr q_bsl q_fap q_fat q_iasl q_iats q_lnsl q_lnts q_lnv q_lnS q_exA q_mkB q_lo0 q_lo1 q_hi0 q_hi1 q_slcA q_slcU1 q_slcU2 q_slcT1 q_slcT2 q_slsA q_slsU q_slsT q_apA q_apC q_srcE1 q_srcE2 q_srcE3 q_srcA1 q_srcB q_srcA2 q_srcA3 q_fnA q_nc1 q_nc2 q_bin q_bin2 q_bin3 q_bin4 q_bin5 q_bin6 q_bin7 q_bin8 q_bin9 q_bin10 q_i1 q_i2 q_i3 q_i4 q_i5 q_i6 q_i7 q_i8 q_i9 q_i10 q_i11 q_s1 q_s2 q_s3 q_u1 q_u2 q_min q_max q_ce1 q_ce2 q_ce3 q_ce4 q_ce5 q_ce6 q_ce7 q_ce8 q_ce9 q_ce10 q_ce11 q_on2 q_on3 q_on4 q_on5 q_on6 q_on7 q_on8 q_on9 q_on10 q_on11 q_enr1 q_gEt q_zr0 q_zr1 q_zgs q_zgg q_zk1 q_zk2 q_zd q_zv1 q_zv2 q_zv3 q_zp1 q_zp2 q_zf q_zs1 q_zs2 q_za q_za1 q_fi0 q_fi1 q_ln0 q_ln1 q_h01 q_h02 q_h03 q_h04 q_h05 q_h06 q_h07 q_h08 q_h09 q_h10 q_h11 q_h12 q_h13 q_h14 q_h15 q_h16 q_h17 q_h18 q_h19 q_h20 q_h21 q_h22 q_h23 q_h24 q_al q_b0 q_rs1 q_rs2 q_rs3 q_rs4 q_rs5 q_rs6 q_rs7 q_rs8 q_ro1 q_ro2 q_ro3 q_ro4 q_ro5 q_ro6 q_ro7 q_ro8 cond_true cond_false decide_true decide_false List.length_cons List.length_nil List.nil_append List.cons_append true_and and_true List.toList_toArray Option.map_some Nat.zero_add Nat.add_zero Bool.and_self Bool.and_true Bool.true_and Bool.and_false Bool.false_and Bool.not_true Bool.not_false FitF FitL LendL wb keys nodupB firstOk tupA op_move op_assign op_pick op_un op_box op_nc op_mf op_ex op_min op_max get put del nth evs evp sets setN ones popTo args0 AV.ren AV.renL rho List.take_succ_cons List.take_zero List.drop_succ_cons List.drop_zero Option.isNone_none Option.isNone_some o_al28 o_al30 o_al43 o_al80 o_al84 o_ap22 o_ap41 o_bi120 o_bi22 o_bi3 o_bi4 o_bi68 o_bs22_0 o_bs22_1 o_bs22_3 o_bs41_0 o_bs41_1 o_bu28 o_bu30 o_bu43 o_bu80 o_bu98 o_cn120 o_cn3 o_cv120_3 o_cv3_120 o_fa24_0 o_fa24_1 o_fa26_0 o_fa26_1 o_fa28_0 o_fa28_1 o_fa30_0 o_fa30_1 o_fa38_0 o_fa38_1 o_fa38_2 o_fa43_0 o_fa43_1 o_fa43_2 o_fa80_0 o_fa80_1 o_fa80_2 o_fa98_0 o_fa98_1 o_ia22 o_ia36 o_ia41 o_ia78 o_ia84 o_ib4 o_ip68 o_ld22 o_ld24 o_ld26 o_ld28 o_ld3 o_ld30 o_ld36 o_ld38 o_ld4 o_ld41 o_ld43 o_ld68 o_ld78 o_ld80 o_ld84 o_ln22 o_ln36 o_ln41 o_ln78 o_ln84 o_mk22 o_mk41 o_mk78 o_mk84 o_sl22 o_sl41 o_st22 o_st28 o_st3 o_st30 o_st4 o_st41 o_st43 o_st68 o_st80 o_st84 o_zb22 o_zb36 o_zb41 o_zb78 o_zb84 I tsI slI renL_ints blk_ren en_live en_dead List.set_cons_zero List.set_cons_succ List.map_cons List.map_nil List.append_nil frzF frzS AV.frz AV.frzL frzL_ints ints_all ints_all' ints_take1 ints_mk ints_mk1 mk_length res_ints resOk_ints plain_ints plainA plainL plainE plainS List.all_cons List.all_nil bigO bigT ratO ratT ratsT renL_frs frzL_frs frs_all renL_ptrs frzL_ptrs renL_pcs frzL_pcs ptr matT FitI FitZ keys get put del blksO_length mkR_length mixR_length segO_id segO_id0 segO_length List.append_nil List.nil_append renL_rws frzL_rws renL_rcs frzL_rcs renL_rcx frzL_rcx q_yr0 q_yr1 q_ygs q_ygg q_yk1 q_yk2 q_yd q_yp1 q_yp2 q_ys1 q_ys2 q_ys3 q_ys4 q_cx07 q_cx01 q_cx02 q_cx03 q_cx06 q_cx08 q_cx09 q_cx10 q_cx11 q_cx12 q_cx13 q_cx14 q_cx15 q_cx16 q_cx17 q_cx18 q_cx20 q_cx21 q_cx22 onlyK kept List.elem_cons List.elem_nil Bool.or_false Bool.or_true
/-! ### Matrices out of lists of whole numbers: the reference -/
theorem spec_MatrixOf_c (r c : Int) (a : List Int) (hr1 : -9223372036854775808 ≤ r) (hr2 : r ≤ 9223372036854775807) (hc1 : -9223372036854775808 ≤ c) (hc2 : c ≤ 9223372036854775807) (ha : a.length ≤ 1048576) (hw : ∀ x ∈ a, -9223372036854775808 ≤ x ∧ x ≤ 9223372036854775807) : AC Try.prog 34 [I r, I c, tsI a] [] (matT (mod1 r c a) (mod2 r c a) (mol r c a)) [] := by
  refine AC.intro (fn := Try.f34) (c := ?_) 45 Try.func34 (by rfl) (by kernel_rfl) (by kernel_rfl) (Nat.le_of_ble_eq_true rfl) fun e hP hf hn h0 hE => ?_
  have hte : TEok e.P te := hP ▸ teOk
  have hmx : e.P.follows .mixedOrders = true := hP ▸ mixedOk
  have bad : ¬ (0 ≤ r ∧ r ≤ 24 ∧ 0 ≤ c ∧ c ≤ 24 ∧ (a.length : Int) = r * c) → Ends e (.agg [I 0, I 0, .ts 0 []]) [] := fun hb => by
    have e1 : mol r c a = [] := by unfold mol; rw [if_neg hb]
    have e2 : mod1 r c a = 0 := by unfold mod1; rw [if_neg hb]
    have e3 : mod2 r c a = 0 := by unfold mod2; rw [if_neg hb]
    rw [e1, e2, e3] at hE
    exact hE
  refine Go.run hte hn 100 ?_; simp only [go_sem, Nat.reduceBEq, Nat.reduceLT, Nat.reduceAdd, Nat.reduceMul, Nat.reduceLeDiff]
  refine Go.call0 hP (l01In_c r 0 24) rfl rfl rfl (by omega) (by simp [go_sem, tsI, slI, I, renL_ints, blk_ren, en_live, en_dead, ints_length, ints_nil, ints_one]) ?_
  by_cases k12 : 0 ≤ r ∧ r ≤ 24
  · rw [show (decide (r ≥ 0) && decide (r ≤ 24)) = true by rw [decide_eq_true k12.2, decide_eq_true (show r ≥ 0 from k12.1)]; rfl]
    refine Go.run hte hn 100 ?_; simp only [go_sem, Nat.reduceBEq, Nat.reduceLT, Nat.reduceAdd, Nat.reduceMul, Nat.reduceLeDiff]
    refine Go.call0 hP (l01In_c c 0 24) rfl rfl rfl (by omega) (by simp [go_sem, tsI, slI, I, renL_ints, blk_ren, en_live, en_dead, ints_length, ints_nil, ints_one]) ?_
    by_cases k34 : 0 ≤ c ∧ c ≤ 24
    · rw [show (decide (c ≥ 0) && decide (c ≤ 24)) = true by rw [decide_eq_true k34.2, decide_eq_true (show c ≥ 0 from k34.1)]; rfl]
      obtain ⟨R, rfl⟩ : ∃ R : Nat, r = R := ⟨r.toNat, by omega⟩
      obtain ⟨C', rfl⟩ : ∃ C : Nat, c = C := ⟨c.toNat, by omega⟩
      have hRC : R * C' ≤ 24 * 24 := Nat.mul_le_mul (by omega) (by omega)
      have w1 : IntKind.i64.wrap ((R : Int) * (C' : Int)) = ((R * C' : Nat) : Int) := by rw [← Int.natCast_mul]; exact iw _ (by omega)
      by_cases k5 : a.length = R * C'
      · have d5 : decide ((a.length : Int) = ((R * C' : Nat) : Int)) = true := decide_eq_true (by omega)
        have hok : 0 ≤ (R : Int) ∧ (R : Int) ≤ 24 ∧ 0 ≤ (C' : Int) ∧ (C' : Int) ≤ 24 ∧ (a.length : Int) = (R : Int) * (C' : Int) := ⟨by omega, by omega, by omega, by omega, by rw [k5, Int.natCast_mul]⟩
        have e1 : mol (R : Int) (C' : Int) a = a.map ri := by unfold mol; rw [if_pos hok]
        have e2 : mod1 (R : Int) (C' : Int) a = R := by unfold mod1; rw [if_pos hok]
        have e3 : mod2 (R : Int) (C' : Int) a = C' := by unfold mod2; rw [if_pos hok]
        rw [e1, e2, e3] at hE
        have hml : (a.map ri).length = a.length := List.length_map _
        refine Go.run hte hn 100 ?_; simp only [go_sem, Nat.reduceBEq, Nat.reduceLT, Nat.reduceAdd, Nat.reduceMul, Nat.reduceLeDiff, w1, d5, tsI]
        clear w1
        refine Go.virt 30 ?_
        refine Go.nilcell 1 2 2 3 rfl rfl ?_
        simp only [go_sem, Nat.reduceBEq, Nat.reduceLT, Nat.reduceAdd, Nat.reduceMul, Nat.reduceLeDiff]
        refine Go.enter (fun i : Nat => i ≤ a.length) (fun i => a.length - i) (fun i => [(6, .p 0 0), (7, .p 1 0), (30, tsI a), (31, I a.length), (32, I i)]) (fun i => [.live ⟨43, [I 0, I 0, .v (.slice none 0 0)]⟩, .live ⟨43, [I (R : Int), I (C' : Int), .sl 2 0 i 3]⟩, .live ⟨30, frs ((a.map ri).take i)⟩]) 0 [0, 1, 2] (Nat.zero_le _) rfl rfl (by rw [h0]; rfl) (by simp [go_sem, tsI, slI, I, renL_ints, blk_ren, en_live, en_dead, ints_length, ints_nil, ints_one]) (by simp [go_sem, tsI, slI, I, renL_ints, blk_ren, en_live, en_dead, ints_length, ints_nil, ints_one, frs]) ?_
        intro i hi
        by_cases hlt : i < a.length
        · have dA : decide ((i : Int) < (a.length : Int)) = true := decide_eq_true (by omega)
          have w2 : IntKind.i64.wrap ((i : Int) + 1) = ((i + 1 : Nat) : Int) := by rw [W64] <;> omega
          have c0 : (0 ≤ (i : Int)) = True := eq_true (by omega)
          have c1 : ((i : Int) < (a.length : Int)) = True := eq_true (by omega)
          have c2 : (0 < (ints a).length) = True := eq_true (by rw [ints_length]; omega)
          have hx : rd a (i : Int) ∈ a := by
            unfold rd
            rw [Int.toNat_natCast, List.getD_eq_getElem?_getD, List.getElem?_eq_getElem hlt]
            exact List.getElem_mem hlt
          have hfl : (frs ((a.map ri).take i)).length = i * 3 := by rw [frs_length, List.length_take, hml]; omega
          have hst : frs ((a.map ri).take i) ++ [.v (.bool (bofB (rd a (i : Int)))), .ts (bofL (rd a (i : Int))).length (ints (bofL (rd a (i : Int)))), .ts 1 (ints [1])] = frs ((a.map ri).take (i + 1)) := by
            rw [ftake (by rw [hml]; exact hlt), frs_append, mapri_at hlt]
            rfl
          have CR := spec_RatFromInt_c (rd a (i : Int)) (hw _ hx).1 (hw _ hx).2
          refine Go.run hte hn 100 ?_; simp only [go_sem, Nat.reduceBEq, Nat.reduceLT, Nat.reduceAdd, Nat.reduceMul, Nat.reduceLeDiff, dA, c0, c1, c2, tsI, Int.toNat_natCast, Nat.mul_one, nth_ints hlt]
          refine Go.openX 6 [1] hte hn hmx (by kernel_rfl) ?_
          simp only [go_sem, Nat.reduceBEq, Nat.reduceLT, Nat.reduceAdd, Nat.reduceMul, Nat.reduceLeDiff]
          refine YC.call0 hP (CR) rfl rfl rfl (by omega) (by simp [go_sem, tsI, slI, I, renL_ints, blk_ren, en_live, en_dead, ints_length, ints_nil, ints_one]) (by first | trivial | (simp only [kept]; simp) | simp [go_sem, tsI, slI, I, renL_ints, blk_ren, en_live, en_dead, ints_length, ints_nil, ints_one, kept]) ?_
          simp only [go_sem, Nat.reduceBEq, Nat.reduceLT, Nat.reduceAdd, Nat.reduceMul, Nat.reduceLeDiff]
          refine ⟨by omega, ?_⟩
          rw [← hfl, List.take_length]
          refine Go.freeze (nm := 3) rfl ?_
          simp only [go_sem, Nat.reduceBEq, Nat.reduceLT, Nat.reduceAdd, Nat.reduceMul, Nat.reduceLeDiff, frzL_append, frzL_frs]
          refine Go.freeze (nm := 4) rfl ?_
          simp only [go_sem, Nat.reduceBEq, Nat.reduceLT, Nat.reduceAdd, Nat.reduceMul, Nat.reduceLeDiff, frzL_append, frzL_frs]
          rw [hst]
          refine Go.run hte hn 100 ?_; simp only [go_sem, Nat.reduceBEq, Nat.reduceLT, Nat.reduceAdd, Nat.reduceMul, Nat.reduceLeDiff, w2]
          refine Go.round (i + 1) [0, 1, 6] hlt (by omega) rfl rfl (by rw [h0]; rfl) (by simp [go_sem, tsI, slI, I, renL_ints, blk_ren, en_live, en_dead, ints_length, ints_nil, ints_one]) (by simp [go_sem, tsI, slI, I, renL_ints, blk_ren, en_live, en_dead, ints_length, ints_nil, ints_one])
        · have dA : decide ((i : Int) < (a.length : Int)) = false := decide_eq_false (by omega)
          have hil : i = a.length := by omega
          subst hil
          refine Go.run hte hn 100 ?_; simp only [go_sem, Nat.reduceBEq, Nat.reduceLT, Nat.reduceAdd, Nat.reduceMul, Nat.reduceLeDiff, dA]
          rw [← hml, List.take_length]
          have h2 := frs_all (a.map ri)
          refine Go.freeze (nm := 2) rfl ?_
          simp only [go_sem, Nat.reduceBEq, Nat.reduceLT, Nat.reduceAdd, Nat.reduceMul, Nat.reduceLeDiff, h2]
          refine Go.retG hte hE hf [] rfl (by simp [go_sem, tsI, slI, I, renL_ints, blk_ren, en_live, en_dead, ints_length, ints_nil, ints_one, matT, ratsT]) rfl (by rw [h0]; rfl) trivial
      · have d5 : decide ((a.length : Int) = ((R * C' : Nat) : Int)) = false := decide_eq_false (by omega)
        have hE' := bad (fun hb => k5 (by have := hb.2.2.2.2; rw [← Int.natCast_mul] at this; omega))
        refine Go.run hte hn 100 ?_; simp only [go_sem, Nat.reduceBEq, Nat.reduceLT, Nat.reduceAdd, Nat.reduceMul, Nat.reduceLeDiff, w1, d5, tsI]
        refine Go.nilcellT 0 2 rfl rfl ?_
        simp only [go_sem, Nat.reduceBEq, Nat.reduceLT, Nat.reduceAdd, Nat.reduceMul, Nat.reduceLeDiff]
        refine Go.retG hte hE' hf [] rfl (by simp [go_sem, tsI, slI, I, renL_ints, blk_ren, en_live, en_dead, ints_length, ints_nil, ints_one]) rfl (by rw [h0]; rfl) trivial
    · have hE' := bad (fun hb => k34 ⟨hb.2.2.1, hb.2.2.2.1⟩)
      rw [show (decide (c ≥ 0) && decide (c ≤ 24)) = false by
        cases hx : decide (c ≥ 0) && decide (c ≤ 24)
        · rfl
        · simp only [Bool.and_eq_true, decide_eq_true_eq] at hx
          exact absurd ⟨hx.1, hx.2⟩ k34]
      refine Go.run hte hn 100 ?_; simp only [go_sem, Nat.reduceBEq, Nat.reduceLT, Nat.reduceAdd, Nat.reduceMul, Nat.reduceLeDiff]
      refine Go.nilcellT 0 2 rfl rfl ?_
      simp only [go_sem, Nat.reduceBEq, Nat.reduceLT, Nat.reduceAdd, Nat.reduceMul, Nat.reduceLeDiff]
      refine Go.retG hte hE' hf [] rfl (by simp [go_sem, tsI, slI, I, renL_ints, blk_ren, en_live, en_dead, ints_length, ints_nil, ints_one]) rfl (by rw [h0]; rfl) trivial
  · have hE' := bad (fun hb => k12 ⟨hb.1, hb.2.1⟩)
    rw [show (decide (r ≥ 0) && decide (r ≤ 24)) = false by
      cases hx : decide (r ≥ 0) && decide (r ≤ 24)
      · rfl
      · simp only [Bool.and_eq_true, decide_eq_true_eq] at hx
        exact absurd ⟨hx.1, hx.2⟩ k12]
    refine Go.run hte hn 100 ?_; simp only [go_sem, Nat.reduceBEq, Nat.reduceLT, Nat.reduceAdd, Nat.reduceMul, Nat.reduceLeDiff]
    refine Go.nilcellT 0 2 rfl rfl ?_
    simp only [go_sem, Nat.reduceBEq, Nat.reduceLT, Nat.reduceAdd, Nat.reduceMul, Nat.reduceLeDiff]
    refine Go.retG hte hE' hf [] rfl (by simp [go_sem, tsI, slI, I, renL_ints, blk_ren, en_live, en_dead, ints_length, ints_nil, ints_one]) rfl (by rw [h0]; rfl) trivial

end Go.Proofs.Ytbblhgldfcodfaa.Ab
