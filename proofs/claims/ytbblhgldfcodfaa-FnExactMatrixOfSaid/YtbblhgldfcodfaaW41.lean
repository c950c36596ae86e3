/- Contracts of the given program's functions and of the reference's (walks). -/
import Derived.Test.YtbblhgldfcodfaaAbT
import Derived.Test.YtbblhgldfcodfaaAbP
import Derived.Test.YtbblhgldfcodfaaAbV
import Derived.Test.YtbblhgldfcodfaaAbO
import Derived.Test.YtbblhgldfcodfaaRunW1
import Derived.Test.YtbblhgldfcodfaaRunW5
import Derived.Test.YtbblhgldfcodfaaW8
import Derived.Test.YtbblhgldfcodfaaRunW9
import Derived.Test.YtbblhgldfcodfaaRunW17
import Derived.Test.YtbblhgldfcodfaaW40
set_option linter.unusedVariables false
set_option linter.unusedSimpArgs false
set_option maxRecDepth 10000
namespace Go.Proofs.Ytbblhgldfcodfaa.Ab
open Go Go.RowKit
attribute [local go_sem] q_run q_seq q_skip q_block q_exit q_cond q_region q_nil q_op q_blk q_loop q_ret q_open q_inv q_fin q_go q_h0 q_h1 q_gskip q_stepC q_brt q_brf q_stepX q_sskip q_sskip0 q_val q_need q_new q_newc q_sv q_sto q_c1 q_c2 q_c3 q_c4 q_c5 q_c6 q_c7 q_c8 q_c9 q_c10 q_c11 q_c12 q_c13 q_c14 q_c15 q_c16 q_c17 q_c18 q_c19 q_c20 q_c21 q_c22 q_g0 q_g1 q_gC q_gD q_gE q_gB1 q_gB2 q_gB3 q_gB4 q_ev1 q_ev2 q_ev3 q_evo0 q_evo1 q_rv q_rva q_o1 q_o2 q_pk1 q_pk2 q_ld1p q_ld1e q_ld1t q_ldnp q_ldne q_ldnt q_sub0 q_sub1 q_subc q_stS q_stT q_box q_bldr q_bld q_fill0 q_fill1 q_fillB q_bsr q_bsl q_fap q_fat q_iasl q_iats q_lnsl q_lnts q_lnv q_lnS q_exA q_mkB q_lo0 q_lo1 q_hi0 q_hi1 q_slcA q_slcU1 q_slcU2 q_slcT1 q_slcT2 q_slsA q_slsU q_slsT q_apA q_apC q_srcE1 q_srcE2 q_srcE3 q_srcA1 q_srcB q_srcA2 q_srcA3 q_fnA q_nc1 q_nc2 q_bin q_bin2 q_bin3 q_bin4 q_bin5 q_bin6 q_bin7 q_bin8 q_bin9 q_bin10 q_i1 q_i2 q_i3 q_i4 q_i5 q_i6 q_i7 q_i8 q_i9 q_i10 q_i11 q_s1 q_s2 q_s3 q_u1 q_u2 q_min q_max q_ce1 q_ce2 q_ce3 q_ce4 q_ce5 q_ce6 q_ce7 q_ce8 q_ce9 q_ce10 q_ce11 q_on2 q_on3 q_on4 q_on5 q_on6 q_on7 q_on8 q_on9 q_on10 q_on11 q_enr1 q_gEt q_zr0 q_zr1 q_zgs q_zgg q_zk1 q_zk2 q_zd q_zv1 q_zv2 q_zv3 q_zp1 q_zp2 q_zf q_zs1 q_zs2 q_za q_za1 q_fi0 q_fi1 q_ln0 q_ln1 q_h01 q_h02 q_h03 q_h04 q_h05 q_h06 q_h07 q_h08 q_h09 q_h10 q_h11 q_h12 q_h13 q_h14 q_h15 q_h16 q_h17 q_h18 q_h19 q_h20 q_h21 q_h22 q_h23 q_h24 q_al q_b0 q_rs1 q_rs2 q_rs3 q_rs4 q_rs5 q_rs6 q_rs7 q_rs8 q_ro1 q_ro2 q_ro3 q_ro4 q_ro5 q_ro6 q_ro7 q_ro8 cond_true cond_false decide_true decide_false List.length_cons List.length_nil List.nil_append List.cons_append true_and and_true List.toList_toArray Option.map_some Nat.zero_add Nat.add_zero Bool.and_self Bool.and_true Bool.true_and Bool.and_false Bool.false_and Bool.not_true Bool.not_false FitF FitL LendL wb keys nodupB firstOk tupA op_move op_assign op_pick op_un op_box op_nc op_mf op_ex op_min op_max get put del nth evs evp sets setN ones popTo args0 AV.ren AV.renL rho List.take_succ_cons List.take_zero List.drop_succ_cons List.drop_zero Option.isNone_none Option.isNone_some o_al28 o_al30 o_al43 o_al80 o_al84 o_ap22 o_ap41 o_bi120 o_bi22 o_bi3 o_bi4 o_bi68 o_bs22_0 o_bs22_1 o_bs22_3 o_bs41_0 o_bs41_1 o_bu28 o_bu30 o_bu43 o_bu80 o_bu98 o_cn120 o_cn3 o_cv120_3 o_cv3_120 o_fa24_0 o_fa24_1 o_fa26_0 o_fa26_1 o_fa28_0 o_fa28_1 o_fa30_0 o_fa30_1 o_fa38_0 o_fa38_1 o_fa38_2 o_fa43_0 o_fa43_1 o_fa43_2 o_fa80_0 o_fa80_1 o_fa80_2 o_fa98_0 o_fa98_1 o_ia22 o_ia36 o_ia41 o_ia78 o_ia84 o_ib4 o_ip68 o_ld22 o_ld24 o_ld26 o_ld28 o_ld3 o_ld30 o_ld36 o_ld38 o_ld4 o_ld41 o_ld43 o_ld68 o_ld78 o_ld80 o_ld84 o_ln22 o_ln36 o_ln41 o_ln78 o_ln84 o_mk22 o_mk41 o_mk78 o_mk84 o_sl22 o_sl41 o_st22 o_st28 o_st3 o_st30 o_st4 o_st41 o_st43 o_st68 o_st80 o_st84 o_zb22 o_zb36 o_zb41 o_zb78 o_zb84 I tsI slI renL_ints blk_ren en_live en_dead List.set_cons_zero List.set_cons_succ List.map_cons List.map_nil List.append_nil frzF frzS AV.frz AV.frzL frzL_ints ints_all ints_all' ints_take1 ints_mk ints_mk1 mk_length res_ints resOk_ints plain_ints plainA plainL plainE plainS List.all_cons List.all_nil bigO bigT ratO ratT ratsT renL_frs frzL_frs frs_all FitI FitZ keys get put del blksO_length mkR_length mixR_length segO_id segO_id0 segO_length List.append_nil List.nil_append
/-! ### Unit vectors -/
def uf : FR := ((bofB 1, bofL 1), [1])
def uv (n k : Int) : List FR := if 0 ≤ n ∧ n ≤ 24 ∧ 0 ≤ k ∧ k < n then (zs n.toNat).set k.toNat uf else []
theorem spec_l05ZerosO_c (n : Nat) (hn4 : n ≤ 1000) : AC Try.prog 78 [I n] [] (.sl 0 0 n 3) [.live ⟨30, frs (zs n)⟩] := by
  refine AC.intro (fn := Try.f78) (c := ?_) 14 Try.func78 (by rfl) (by kernel_rfl) (by kernel_rfl) (Nat.le_of_ble_eq_true rfl) fun e hP hf hn h0 hE => ?_
  have hte : TEok e.P te := hP ▸ teOk
  have hmx : e.P.follows .mixedOrders = true := hP ▸ mixedOk
  refine Go.run hte hn 100 ?_; simp only [go_sem, Nat.reduceBEq, Nat.reduceLT, Nat.reduceAdd, Nat.reduceMul, Nat.reduceLeDiff]
  refine Go.enter (fun i : Nat => i ≤ n) (fun i => n - i) (fun i => [(0, I n), (3, .sl 0 0 i 3)]) (fun i => [.live ⟨30, frs (zs i)⟩]) 0 [0] (Nat.zero_le _) rfl rfl (by rw [h0]; rfl) (by simp [go_sem, tsI, slI, I, renL_ints, blk_ren, en_live, en_dead, ints_length, ints_nil, ints_one]) (by simp [go_sem, tsI, slI, I, renL_ints, blk_ren, en_live, en_dead, ints_length, ints_nil, ints_one, zs, List.replicate, frs]) ?_
  intro i hi
  by_cases hlt : i < n
  · have dA : decide ((i : Int) < (n : Int)) = true := decide_eq_true (by omega)
    refine Go.run hte hn 100 ?_; simp only [go_sem, Nat.reduceBEq, Nat.reduceLT, Nat.reduceAdd, Nat.reduceMul, Nat.reduceLeDiff, dA]
    have C := spec_l05Zero_c
    refine Go.call0 hP (C) rfl rfl rfl (by omega) (by simp [go_sem, tsI, slI, I, renL_ints, blk_ren, en_live, en_dead, ints_length, ints_nil, ints_one]) ?_
    refine Go.run hte hn 100 ?_; simp only [go_sem, Nat.reduceBEq, Nat.reduceLT, Nat.reduceAdd, Nat.reduceMul, Nat.reduceLeDiff]
    have hfl : (frs (zs i)).length = i * 3 := by rw [frs_length, zs_length]
    have hst : frs (zs i) ++ [.v (.bool (bofB 0)), .ts (bofL 0).length (ints (bofL 0)), .ts 1 (ints [1])] = frs (zs (i + 1)) := zs_succ i
    refine ⟨by omega, ?_⟩
    rw [← hfl, List.take_length, hst]
    refine Go.round (i + 1) [2] hlt (by omega) rfl rfl (by rw [h0]; rfl) (by simp [go_sem, tsI, slI, I, renL_ints, blk_ren, en_live, en_dead, ints_length, ints_nil, ints_one]) (by simp [go_sem, tsI, slI, I, renL_ints, blk_ren, en_live, en_dead, ints_length, ints_nil, ints_one])
  · have dA : decide ((i : Int) < (n : Int)) = false := decide_eq_false (by omega)
    have hil : i = n := by omega
    subst hil
    refine Go.run hte hn 100 ?_; simp only [go_sem, Nat.reduceBEq, Nat.reduceLT, Nat.reduceAdd, Nat.reduceMul, Nat.reduceLeDiff, dA]
    refine Go.retG hte hE hf [0] rfl (by simp [go_sem, tsI, slI, I, renL_ints, blk_ren, en_live, en_dead, ints_length, ints_nil, ints_one]) rfl (by rw [h0]; rfl) (by simp [go_sem, tsI, slI, I, renL_ints, blk_ren, en_live, en_dead, ints_length, ints_nil, ints_one])
theorem spec_UnitVector_c (n k : Int) (hn1 : -9223372036854775808 ≤ n) (hn2 : n ≤ 9223372036854775807) (hk1 : -9223372036854775808 ≤ k) (hk2 : k ≤ 9223372036854775807) : AC Try.prog 44 [I n, I k] [] (ratsT (uv n k)) [] := by
  refine AC.intro (fn := Try.f44) (c := ?_) 23 Try.func44 (by rfl) (by kernel_rfl) (by kernel_rfl) (Nat.le_of_ble_eq_true rfl) fun e hP hf hn h0 hE => ?_
  have hte : TEok e.P te := hP ▸ teOk
  have hmx : e.P.follows .mixedOrders = true := hP ▸ mixedOk
  refine Go.run hte hn 100 ?_; simp only [go_sem, Nat.reduceBEq, Nat.reduceLT, Nat.reduceAdd, Nat.reduceMul, Nat.reduceLeDiff]
  refine Go.call0 hP (l01In_c n 0 24) rfl rfl rfl (by omega) (by simp [go_sem, tsI, slI, I, renL_ints, blk_ren, en_live, en_dead, ints_length, ints_nil, ints_one]) ?_
  by_cases hz : 0 ≤ n ∧ n ≤ 24
  · obtain ⟨k1, k2⟩ := hz
    have w1 : IntKind.i64.wrap (n - 1) = n - 1 := by rw [W64] <;> omega
    rw [show (decide (n ≥ 0) && decide (n ≤ 24)) = true by rw [decide_eq_true k2, decide_eq_true (show n ≥ 0 from k1)]; rfl]
    refine Go.run hte hn 100 ?_; simp only [go_sem, Nat.reduceBEq, Nat.reduceLT, Nat.reduceAdd, Nat.reduceMul, Nat.reduceLeDiff, w1]
    clear w1
    refine Go.call0 hP (l01In_c k 0 (n - 1)) rfl rfl rfl (by omega) (by simp [go_sem, tsI, slI, I, renL_ints, blk_ren, en_live, en_dead, ints_length, ints_nil, ints_one]) ?_
    by_cases hy : 0 ≤ k ∧ k ≤ n - 1
    · obtain ⟨k3, k4⟩ := hy
      obtain ⟨N, rfl⟩ : ∃ N : Nat, n = N := ⟨n.toNat, by omega⟩
      obtain ⟨K, rfl⟩ : ∃ K : Nat, k = K := ⟨k.toNat, by omega⟩
      have e1 : uv (N : Int) (K : Int) = (zs N).set K uf := by unfold uv; rw [if_pos ⟨k1, k2, k3, by omega⟩, Int.toNat_natCast, Int.toNat_natCast]
      rw [e1] at hE
      rw [show (decide ((K : Int) ≥ 0) && decide ((K : Int) ≤ (N : Int) - 1)) = true by rw [decide_eq_true k4, decide_eq_true (show (K : Int) ≥ 0 from k3)]; rfl]
      have hKN : K < N := by omega
      have hKz : K < (zs N).length := by rw [zs_length]; exact hKN
      have c0 : (0 ≤ (K : Int)) = True := eq_true k3
      have c1 : ((K : Int) < (N : Int)) = True := eq_true (by omega)
      have hst : setN (setN (setN (frs (zs N)) (K * 3) (.v (.bool (bofB 1)))) (K * 3 + 1) (.ts (bofL 1).length (ints (bofL 1)))) (K * 3 + 1 + 1) (.ts 1 (ints [1])) = frs ((zs N).set K uf) := frs_set uf hKz
      refine Go.run hte hn 100 ?_; simp only [go_sem, Nat.reduceBEq, Nat.reduceLT, Nat.reduceAdd, Nat.reduceMul, Nat.reduceLeDiff]
      refine Go.call0 hP (spec_l05ZerosO_c N (by omega)) rfl rfl rfl (by omega) (by simp [go_sem, tsI, slI, I, renL_ints, blk_ren, en_live, en_dead, ints_length, ints_nil, ints_one]) ?_
      refine Go.run hte hn 100 ?_; simp only [go_sem, Nat.reduceBEq, Nat.reduceLT, Nat.reduceAdd, Nat.reduceMul, Nat.reduceLeDiff]
      refine Go.call0 hP (spec_RatFromInt_c 1 (by decide) (by decide)) rfl rfl rfl (by omega) (by simp [go_sem, tsI, slI, I, renL_ints, blk_ren, en_live, en_dead, ints_length, ints_nil, ints_one]) ?_
      simp only [go_sem, Nat.reduceBEq, Nat.reduceLT, Nat.reduceAdd, Nat.reduceMul, Nat.reduceLeDiff]
      refine Go.freeze (nm := 1) rfl ?_
      simp only [go_sem, Nat.reduceBEq, Nat.reduceLT, Nat.reduceAdd, Nat.reduceMul, Nat.reduceLeDiff, frzL_frs]
      refine Go.freeze (nm := 2) rfl ?_
      simp only [go_sem, Nat.reduceBEq, Nat.reduceLT, Nat.reduceAdd, Nat.reduceMul, Nat.reduceLeDiff, frzL_frs]
      refine Go.run hte hn 100 ?_; simp only [go_sem, Nat.reduceBEq, Nat.reduceLT, Nat.reduceAdd, Nat.reduceMul, Nat.reduceLeDiff, c0, c1, Int.toNat_natCast]
      refine ⟨by rw [frs_length, zs_length]; omega, ?_⟩
      rw [hst]
      refine Go.freeze (nm := 0) rfl ?_
      have hl : ((zs N).set K uf).length = N := by rw [List.length_set, zs_length]
      have h2 := frs_all ((zs N).set K uf)
      rw [hl] at h2
      simp only [go_sem, Nat.reduceBEq, Nat.reduceLT, Nat.reduceAdd, Nat.reduceMul, Nat.reduceLeDiff, h2]
      refine Go.retG hte hE hf [] rfl (by simp [go_sem, tsI, slI, I, renL_ints, blk_ren, en_live, en_dead, ints_length, ints_nil, ints_one, ratsT, hl]) rfl (by rw [h0]; rfl) trivial
    · have e1 : uv n k = [] := by unfold uv; rw [if_neg (fun h => hy ⟨h.2.2.1, by omega⟩)]
      rw [e1] at hE
      rw [show (decide (k ≥ 0) && decide (k ≤ n - 1)) = false by
        cases hx : decide (k ≥ 0) && decide (k ≤ n - 1)
        · rfl
        · simp only [Bool.and_eq_true, decide_eq_true_eq] at hx
          exact absurd ⟨hx.1, hx.2⟩ hy]
      refine Go.run hte hn 100 ?_; simp only [go_sem, Nat.reduceBEq, Nat.reduceLT, Nat.reduceAdd, Nat.reduceMul, Nat.reduceLeDiff]
      refine Go.nilts 4 rfl ?_
      simp only [go_sem, Nat.reduceBEq, Nat.reduceLT, Nat.reduceAdd, Nat.reduceMul, Nat.reduceLeDiff]
      refine Go.retG hte hE hf [] rfl (by simp [go_sem, tsI, slI, I, renL_ints, blk_ren, en_live, en_dead, ints_length, ints_nil, ints_one, frs]) rfl (by rw [h0]; rfl) trivial
  · have e1 : uv n k = [] := by unfold uv; rw [if_neg (fun h => hz ⟨h.1, h.2.1⟩)]
    rw [e1] at hE
    rw [show (decide (n ≥ 0) && decide (n ≤ 24)) = false by
      cases hx : decide (n ≥ 0) && decide (n ≤ 24)
      · rfl
      · simp only [Bool.and_eq_true, decide_eq_true_eq] at hx
        exact absurd ⟨hx.1, hx.2⟩ hz]
    refine Go.run hte hn 100 ?_; simp only [go_sem, Nat.reduceBEq, Nat.reduceLT, Nat.reduceAdd, Nat.reduceMul, Nat.reduceLeDiff]
    refine Go.nilts 4 rfl ?_
    simp only [go_sem, Nat.reduceBEq, Nat.reduceLT, Nat.reduceAdd, Nat.reduceMul, Nat.reduceLeDiff]
    refine Go.retG hte hE hf [] rfl (by simp [go_sem, tsI, slI, I, renL_ints, blk_ren, en_live, en_dead, ints_length, ints_nil, ints_one, frs]) rfl (by rw [h0]; rfl) trivial
theorem impl_UnitVector_c (n k : Int) (hn1 : -9223372036854775808 ≤ n) (hn2 : n ≤ 9223372036854775807) (hk1 : -9223372036854775808 ≤ k) (hk2 : k ≤ 9223372036854775807) : AC Try.prog 45 [I n, I k] [] (.sl 0 0 (uv n k).length 3) (segO 30 (uv n k)) := by
  refine AC.intro (fn := Try.f45) (c := ?_) 28 Try.func45 (by rfl) (by kernel_rfl) (by kernel_rfl) (Nat.le_of_ble_eq_true rfl) fun e hP hf hn h0 hE => ?_
  have hte : TEok e.P te := hP ▸ teOk
  have hmx : e.P.follows .mixedOrders = true := hP ▸ mixedOk
  have nil : ∀ q : List KI, uv n k = [] → Go e (.code .ret :: q) [(4, .v (.slice none 0 0))] [] := fun q hu => by
    rw [hu] at hE
    refine Go.virt 30 ?_
    simp only [go_sem, Nat.reduceBEq, Nat.reduceLT, Nat.reduceAdd, Nat.reduceMul, Nat.reduceLeDiff]
    refine Go.nilsl 4 0 3 rfl ?_
    simp only [go_sem, Nat.reduceBEq, Nat.reduceLT, Nat.reduceAdd, Nat.reduceMul, Nat.reduceLeDiff]
    refine Go.retG hte hE hf [0] rfl (by simp [go_sem, tsI, slI, I, renL_ints, blk_ren, en_live, en_dead, ints_length, ints_nil, ints_one]) rfl (by rw [h0]; rfl) (by simp [go_sem, tsI, slI, I, renL_ints, blk_ren, en_live, en_dead, ints_length, ints_nil, ints_one, segO, blksO, cellsN])
  have cv := impl_ZeroVector_c n hn1 hn2
  by_cases k1 : 0 ≤ n
  · have d1 : decide (n < 0) = false := decide_eq_false (by omega)
    by_cases k2 : n ≤ 24
    · have d2 : decide (24 < n) = false := decide_eq_false (by omega)
      by_cases k3 : 0 ≤ k
      · have d3 : decide (k < 0) = false := decide_eq_false (by omega)
        by_cases k4 : k < n
        · have d4 : decide (n ≤ k) = false := decide_eq_false (by omega)
          obtain ⟨N, rfl⟩ : ∃ N : Nat, n = N := ⟨n.toNat, by omega⟩
          obtain ⟨K, rfl⟩ : ∃ K : Nat, k = K := ⟨k.toNat, by omega⟩
          have e0 : zv (N : Int) = zs N := by unfold zv; rw [if_pos ⟨k1, k2⟩, Int.toNat_natCast]
          have e1 : uv (N : Int) (K : Int) = (zs N).set K uf := by unfold uv; rw [if_pos ⟨k1, k2, k3, by omega⟩, Int.toNat_natCast, Int.toNat_natCast]
          rw [e1] at hE
          rw [e0] at cv
          have hKz : K < (zs N).length := by rw [zs_length]; omega
          have hzl := zs_length N
          have c0 : (0 ≤ (K : Int)) = True := eq_true k3
          have c1 : ((K : Int) < (N : Int)) = True := eq_true (by omega)
          refine Go.run hte hn 100 ?_; simp only [go_sem, Nat.reduceBEq, Nat.reduceLT, Nat.reduceAdd, Nat.reduceMul, Nat.reduceLeDiff, d1, d2, d3, d4]
          refine Go.call0 hP (cv) rfl rfl rfl (by omega) (by simp [go_sem, tsI, slI, I, renL_ints, blk_ren, en_live, en_dead, ints_length, ints_nil, ints_one]) ?_
          refine Go.run hte hn 100 ?_; simp only [go_sem, Nat.reduceBEq, Nat.reduceLT, Nat.reduceAdd, Nat.reduceMul, Nat.reduceLeDiff]
          refine Go.call0 hP (impl_RatFromInt_c 1 (by decide) (by decide)) rfl rfl rfl (by omega) (by simp [go_sem, tsI, slI, I, renL_ints, blk_ren, en_live, en_dead, ints_length, ints_nil, ints_one]) ?_
          simp only [go_sem, Nat.reduceBEq, Nat.reduceLT, Nat.reduceAdd, Nat.reduceMul, Nat.reduceLeDiff]
          have hS := Seg.canon 30 (zs N)
          have hsl := segO_length 30 (zs N)
          generalize segO 30 (zs N) = σ at hS hsl ⊢
          have hR := hS.repl hKz uf
          rw [hsl] at hR
          have hrow := (hS.append [.live ⟨3, ints (bofL 1)⟩, .live ⟨3, ints [1]⟩]).row
          have hcl := cellsN_length _ _ hS.len
          have hl : ((zs N).set K uf).length = (zs N).length := by rw [List.length_set]
          rw [← hzl] at c1
          refine Go.run hte hn 100 ?_; simp only [go_sem, Nat.reduceBEq, Nat.reduceLT, Nat.reduceAdd, Nat.reduceMul, Nat.reduceLeDiff, hrow, c0, c1, Int.toNat_natCast]
          refine ⟨by rw [hcl]; omega, ?_⟩
          refine Go.retSeg hte hE hf hR rfl (by simp [go_sem, tsI, slI, I, renL_ints, blk_ren, en_live, en_dead, ints_length, ints_nil, ints_one, hl]) (by rw [h0]; exact Nat.zero_le _) (fun n hn => by rw [h0] at hn; simp at hn)
        · have d4 : decide (n ≤ k) = true := decide_eq_true (by omega)
          refine Go.run hte hn 100 ?_; simp only [go_sem, Nat.reduceBEq, Nat.reduceLT, Nat.reduceAdd, Nat.reduceMul, Nat.reduceLeDiff, d1, d2, d3, d4]
          exact Go.part (fr' := [(4, .v (.slice none 0 0))]) rfl (by simp [go_sem, tsI, slI, I, renL_ints, blk_ren, en_live, en_dead, ints_length, ints_nil, ints_one]) (nil _ <| by unfold uv; rw [if_neg (by omega)])
      · have d3 : decide (k < 0) = true := decide_eq_true (by omega)
        refine Go.run hte hn 100 ?_; simp only [go_sem, Nat.reduceBEq, Nat.reduceLT, Nat.reduceAdd, Nat.reduceMul, Nat.reduceLeDiff, d1, d2, d3]
        exact Go.part (fr' := [(4, .v (.slice none 0 0))]) rfl (by simp [go_sem, tsI, slI, I, renL_ints, blk_ren, en_live, en_dead, ints_length, ints_nil, ints_one]) (nil _ <| by unfold uv; rw [if_neg (by omega)])
    · have d2 : decide (24 < n) = true := decide_eq_true (by omega)
      refine Go.run hte hn 100 ?_; simp only [go_sem, Nat.reduceBEq, Nat.reduceLT, Nat.reduceAdd, Nat.reduceMul, Nat.reduceLeDiff, d1, d2]
      exact Go.part (fr' := [(4, .v (.slice none 0 0))]) rfl (by simp [go_sem, tsI, slI, I, renL_ints, blk_ren, en_live, en_dead, ints_length, ints_nil, ints_one]) (nil _ <| by unfold uv; rw [if_neg (by omega)])
  · have d1 : decide (n < 0) = true := decide_eq_true (by omega)
    refine Go.run hte hn 100 ?_; simp only [go_sem, Nat.reduceBEq, Nat.reduceLT, Nat.reduceAdd, Nat.reduceMul, Nat.reduceLeDiff, d1]
    exact Go.part (fr' := [(4, .v (.slice none 0 0))]) rfl (by simp [go_sem, tsI, slI, I, renL_ints, blk_ren, en_live, en_dead, ints_length, ints_nil, ints_one]) (nil _ <| by unfold uv; rw [if_neg (by omega)])

end Go.Proofs.Ytbblhgldfcodfaa.Ab
