/- Contracts of the given program's functions and of the reference's (walks). -/
import Derived.Test.YtbblhgldfcodfaaAbT
import Derived.Test.YtbblhgldfcodfaaAbP
import Derived.Test.YtbblhgldfcodfaaAbN
import Derived.Test.YtbblhgldfcodfaaAbD
import Derived.Test.YtbblhgldfcodfaaAbK
import Derived.Test.YtbblhgldfcodfaaAbV
import Derived.Test.YtbblhgldfcodfaaAbW
import Derived.Test.YtbblhgldfcodfaaAbC
import Derived.Test.YtbblhgldfcodfaaAbY
import Derived.Test.YtbblhgldfcodfaaRunW1
import Derived.Test.YtbblhgldfcodfaaRunW5
import Derived.Test.YtbblhgldfcodfaaW8
import Derived.Test.YtbblhgldfcodfaaW30
import Derived.Test.YtbblhgldfcodfaaW35
set_option linter.unusedVariables false
set_option linter.unusedSimpArgs false
set_option maxRecDepth 10000
namespace Go.Proofs.Ytbblhgldfcodfaa.Ab
open Go Go.RowKit
attribute [local go_sem] q_run q_seq q_skip q_block q_exit q_cond q_region q_nil q_op q_blk q_loop q_ret q_open q_inv q_fin q_go q_h0 q_h1 q_gskip q_stepC q_brt q_brf q_stepX q_sskip q_sskip0 q_val q_need q_new q_newc q_sv q_sto q_c1 q_c2 q_c3 q_c4 q_c5 q_c6 q_c7 q_c8 q_c9 q_c10 q_c11 q_c12 q_c13 q_c14 q_c15 q_c16 q_c17 q_c18 q_c19 q_c20 q_c21 q_c22 q_g0 q_g1 q_gC q_gD q_gE q_gB1 q_gB2 q_gB3 q_gB4 q_ev1 q_ev2 q_ev3 q_evo0 q_evo1 q_rv q_rva q_o1 q_o2 q_pk1 q_pk2 q_ld1p q_ld1e q_ld1t q_ldnp q_ldne q_ldnt q_sub0 q_sub1 q_subc q_stS q_stT q_box q_bldr q_bld q_fill0 q_fill1 q_fillB q_bsr q_bsl q_fap q_fat q_iasl q_iats q_lnsl q_lnts q_lnv q_lnS q_exA q_mkB q_lo0 q_lo1 q_hi0 q_hi1 q_slcA q_slcU1 q_slcU2 q_slcT1 q_slcT2 q_slsA q_slsU q_slsT q_apA q_apC q_srcE1 q_srcE2 q_srcE3 q_srcA1 q_srcB q_srcA2 q_srcA3 q_fnA q_nc1 q_nc2 q_bin q_bin2 q_bin3 q_bin4 q_bin5 q_bin6 q_bin7 q_bin8 q_bin9 q_bin10 q_i1 q_i2 q_i3 q_i4 q_i5 q_i6 q_i7 q_i8 q_i9 q_i10 q_i11 q_s1 q_s2 q_s3 q_u1 q_u2 q_min q_max q_ce1 q_ce2 q_ce3 q_ce4 q_ce5 q_ce6 q_ce7 q_ce8 q_ce9 q_ce10 q_ce11 q_on2 q_on3 q_on4 q_on5 q_on6 q_on7 q_on8 q_on9 q_on10 q_on11 q_enr1 q_gEt q_zr0 q_zr1 q_zgs q_zgg q_zk1 q_zk2 q_zd q_zv1 q_zv2 q_zv3 q_zp1 q_zp2 q_zf q_zs1 q_zs2 q_za q_za1 q_fi0 q_fi1 q_ln0 q_ln1 q_h01 q_h02 q_h03 q_h04 q_h05 q_h06 q_h07 q_h08 q_h09 q_h10 q_h11 q_h12 q_h13 q_h14 q_h15 q_h16 q_h17 q_h18 q_h19 q_h20 q_h21 q_h22 q_h23 q_h24 q_al q_b0 q_rs1 q_rs2 q_rs3 q_rs4 q_rs5 q_rs6 q_rs7 q_rs8 q_ro1 q_ro2 q_ro3 q_ro4 q_ro5 q_ro6 q_ro7 q_ro8 cond_true cond_false decide_true decide_false List.length_cons List.length_nil List.nil_append List.cons_append true_and and_true List.toList_toArray Option.map_some Nat.zero_add Nat.add_zero Bool.and_self Bool.and_true Bool.true_and Bool.and_false Bool.false_and Bool.not_true Bool.not_false FitF FitL LendL wb keys nodupB firstOk tupA op_move op_assign op_pick op_un op_box op_nc op_mf op_ex op_min op_max get put del nth evs evp sets setN ones popTo args0 AV.ren AV.renL rho List.take_succ_cons List.take_zero List.drop_succ_cons List.drop_zero Option.isNone_none Option.isNone_some o_al28 o_al30 o_al43 o_al80 o_al84 o_ap22 o_ap41 o_bi120 o_bi22 o_bi3 o_bi4 o_bi68 o_bs22_0 o_bs22_1 o_bs22_3 o_bs41_0 o_bs41_1 o_bu28 o_bu30 o_bu43 o_bu80 o_bu98 o_cn120 o_cn3 o_cv120_3 o_cv3_120 o_fa24_0 o_fa24_1 o_fa26_0 o_fa26_1 o_fa28_0 o_fa28_1 o_fa30_0 o_fa30_1 o_fa38_0 o_fa38_1 o_fa38_2 o_fa43_0 o_fa43_1 o_fa43_2 o_fa80_0 o_fa80_1 o_fa80_2 o_fa98_0 o_fa98_1 o_ia22 o_ia36 o_ia41 o_ia78 o_ia84 o_ib4 o_ip68 o_ld22 o_ld24 o_ld26 o_ld28 o_ld3 o_ld30 o_ld36 o_ld38 o_ld4 o_ld41 o_ld43 o_ld68 o_ld78 o_ld80 o_ld84 o_ln22 o_ln36 o_ln41 o_ln78 o_ln84 o_mk22 o_mk41 o_mk78 o_mk84 o_sl22 o_sl41 o_st22 o_st28 o_st3 o_st30 o_st4 o_st41 o_st43 o_st68 o_st80 o_st84 o_zb22 o_zb36 o_zb41 o_zb78 o_zb84 I tsI slI renL_ints blk_ren en_live en_dead List.set_cons_zero List.set_cons_succ List.map_cons List.map_nil List.append_nil frzF frzS AV.frz AV.frzL frzL_ints ints_all ints_all' ints_take1 ints_mk ints_mk1 mk_length res_ints resOk_ints plain_ints plainA plainL plainE plainS List.all_cons List.all_nil bigO bigT ratO ratT ratsT renL_frs frzL_frs frs_all renL_ptrs frzL_ptrs renL_pcs frzL_pcs ptr renL_rws frzL_rws renL_rcs frzL_rcs renL_rcx frzL_rcx q_yr0 q_yr1 q_ygs q_ygg q_yk1 q_yk2 q_yd q_yp1 q_yp2 q_ys1 q_ys2 q_ys3 q_ys4 q_cx07 q_cx01 q_cx02 q_cx03 q_cx06 q_cx08 q_cx09 q_cx10 q_cx11 q_cx12 q_cx13 q_cx14 q_cx15 q_cx16 q_cx17 q_cx18 q_cx20 q_cx21 q_cx22 onlyK kept List.elem_cons List.elem_nil Bool.or_false Bool.or_true
/-! ### Grids: made out of a function -/
theorem newGrid_c (n : Nat) (caps : List AV) (r c : Nat) (G : Nat → Nat → FR) (hr : r ≤ 24) (hc : c ≤ 24) (hren : ∀ ρ, AV.renL ρ caps = caps) (hfrz : ∀ nm cs, AV.frzL nm cs caps = caps) (hat : ∀ i k : Nat, i < r → k < c → AC Try.prog n (I (i : Int) :: I (k : Int) :: caps) [] (ptr (G i k)) []) :
    AC Try.prog 72 [I (r : Int), I (c : Int), .fn (.func n) [] caps] [] (gridT r c (grd r c G)) [] := by
  refine AC.intro (fn := Try.f72) (c := ?_) 50 Try.func72 (by rfl) (by kernel_rfl) (by kernel_rfl) (Nat.le_of_ble_eq_true rfl) fun e hP hf hn h0 hE => ?_
  have hte : TEok e.P te := hP ▸ teOk
  have hmx : e.P.follows .mixedOrders = true := hP ▸ mixedOk
  refine Go.run hte hn 100 ?_; simp only [go_sem, Nat.reduceBEq, Nat.reduceLT, Nat.reduceAdd, Nat.reduceMul, Nat.reduceLeDiff]
  refine ⟨⟨by omega, by omega, by omega⟩, ?_⟩
  have e0 : repA r [AV.v (.slice none 0 0)] = rcs (grd r c G) 0 := by unfold rcs; rw [grd_length]; rfl
  simp only [Int.toNat_natCast, e0]
  refine Go.freeze (nm := 2) rfl ?_; simp only [go_sem, Nat.reduceBEq, Nat.reduceLT, Nat.reduceAdd, Nat.reduceMul, Nat.reduceLeDiff]
  simp only [hfrz]
  refine Go.enter (fun i : Nat => i ≤ r) (fun i => r - i) (fun i => [(1, I c), (2, .fn (.func n) [] caps), (6, .p 0 0), (7, .tp [I (r : Int), I (c : Int), .sl 1 0 r 1] 0), (17, I r), (18, I i)]) (fun i => [.live ⟨80, [I 0, I 0, .v (.slice none 0 0)]⟩, .live ⟨84, rcs (grd r c G) i⟩]) 0 [0, 1] (Nat.zero_le _) rfl rfl (by rw [h0]; rfl) (by simp [go_sem, tsI, slI, I, renL_ints, blk_ren, en_live, en_dead, ints_length, ints_nil, ints_one, hren]) (by simp [go_sem, tsI, slI, I, renL_ints, blk_ren, en_live, en_dead, ints_length, ints_nil, ints_one]) ?_
  intro i hi
  by_cases hlt : i < r
  · have dA : decide ((i : Int) < (r : Int)) = true := decide_eq_true (by omega)
    have e2 : IntKind.i64.wrap ((i : Int) + 1) = ((i + 1 : Nat) : Int) := by rw [W64] <;> omega
    have c0 : (0 ≤ (i : Int)) = True := eq_true (by omega)
    have c1 : ((i : Int) < (r : Int)) = True := eq_true (by omega)
    have hlg : i < (grd r c G).length := by rw [grd_length]; exact hlt
    have hrow := gro_length c (G i)
    have e1 : repA c [AV.v (.pointer none)] = pcs (gro c (G i)) 0 := by unfold pcs; rw [hrow]; rfl
    refine Go.run hte hn 100 ?_; simp only [go_sem, Nat.reduceBEq, Nat.reduceLT, Nat.reduceAdd, Nat.reduceMul, Nat.reduceLeDiff, dA]
    refine Go.openX 5 [] hte hn hmx (by kernel_rfl) ?_
    simp only [go_sem, Nat.reduceBEq, Nat.reduceLT, Nat.reduceAdd, Nat.reduceMul, Nat.reduceLeDiff]
    refine ⟨⟨by omega, by omega, by omega⟩, ?_⟩
    simp only [Int.toNat_natCast, e1]
    refine Go.run hte hn 100 ?_; simp only [go_sem, Nat.reduceBEq, Nat.reduceLT, Nat.reduceAdd, Nat.reduceMul, Nat.reduceLeDiff, c0, c1, Int.toNat_natCast, Nat.mul_one]
    refine ⟨by rw [rcs_length (Nat.le_of_lt hlg)]; exact hlg, ?_⟩
    simp only [rcs_set hlg, rcx_at hlg]
    simp only [go_sem, Nat.reduceBEq, Nat.reduceLT, Nat.reduceAdd, Nat.reduceMul, Nat.reduceLeDiff]
    refine Go.enter (fun k : Nat => k ≤ c) (fun k => c - k) (fun k => [(1, I c), (2, .fn (.func n) [] caps), (6, .p 0 0), (7, .tp [I (r : Int), I (c : Int), .sl 1 0 r 1] 0), (8, I i), (17, I r), (18, I i), (32, I c), (33, I k)]) (fun k => [.live ⟨80, [I 0, I 0, .v (.slice none 0 0)]⟩, .live ⟨84, rcx (grd r c G) i (.sl 2 0 c 1)⟩, .live ⟨68, pcs (gro c (G i)) k⟩]) 0 [0, 1, 2] (Nat.zero_le _) rfl rfl (by rw [h0]; rfl) (by simp [go_sem, tsI, slI, I, renL_ints, blk_ren, en_live, en_dead, ints_length, ints_nil, ints_one, hren]) (by simp [go_sem, tsI, slI, I, renL_ints, blk_ren, en_live, en_dead, ints_length, ints_nil, ints_one]) ?_
    intro k hk
    by_cases hkt : k < c
    · have dB : decide ((k : Int) < (c : Int)) = true := decide_eq_true (by omega)
      have e3 : IntKind.i64.wrap ((k : Int) + 1) = ((k + 1 : Nat) : Int) := by clear e2; rw [W64] <;> omega
      have k0 : (0 ≤ (k : Int)) = True := eq_true (by omega)
      have k1 : ((k : Int) < (c : Int)) = True := eq_true (by omega)
      have hkr : k < (gro c (G i)).length := by rw [hrow]; exact hkt
      have hset := pcs_set hkr
      rw [gro_at (G i) hkt] at hset
      have hpl := pcs_length (Nat.le_of_lt hkr)
      have hrp : ∀ ρ, (ptr (G i k)).ren ρ = ptr (G i k) := fun ρ => by unfold ptr; simp only [AV.ren, AV.renL, tsI, renL_ints]
      refine Go.run hte hn 100 ?_; simp only [go_sem, Nat.reduceBEq, Nat.reduceLT, Nat.reduceAdd, Nat.reduceMul, Nat.reduceLeDiff, dB]
      refine Go.openX 10 [1] hte hn hmx (by kernel_rfl) ?_
      simp only [go_sem, Nat.reduceBEq, Nat.reduceLT, Nat.reduceAdd, Nat.reduceMul, Nat.reduceLeDiff, c0, c1, rcx_at hlg, Int.toNat_natCast, Nat.mul_one]

      refine YC.call0 hP (hat i k hlt hkt) rfl rfl rfl (by omega) (by simp [go_sem, tsI, slI, I, renL_ints, blk_ren, en_live, en_dead, ints_length, ints_nil, ints_one, hren]) (by simp [go_sem, tsI, slI, I, renL_ints, blk_ren, en_live, en_dead, ints_length, ints_nil, ints_one, kept]) ?_
      simp only [hrp]
      refine Go.run hte hn 100 ?_; simp only [go_sem, Nat.reduceBEq, Nat.reduceLT, Nat.reduceAdd, Nat.reduceMul, Nat.reduceLeDiff, k0, k1, e3, Int.toNat_natCast, Nat.mul_one, hset]

      unfold ptr tsI at hset
      refine ⟨by rw [hpl, hrow]; exact hkt, ?_⟩
      simp only [hset]
      refine Go.round (k + 1) [0, 1, 2] hkt (by omega) rfl rfl (by rw [h0]; rfl) (by simp [go_sem, tsI, slI, I, renL_ints, blk_ren, en_live, en_dead, ints_length, ints_nil, ints_one, hren]) (by simp [go_sem, tsI, slI, I, renL_ints, blk_ren, en_live, en_dead, ints_length, ints_nil, ints_one])
    · have dB : decide ((k : Int) < (c : Int)) = false := decide_eq_false (by omega)
      have hkc : k = c := by omega
      subst hkc
      have hall := pcs_all (gro k (G i))
      rw [hrow] at hall
      have hpa := ptrs_all (gro k (G i))
      rw [hrow] at hpa
      have hdone := rcx_done hlg (x := .ts k (ptrs (gro k (G i)))) (by rw [grd_at G hlt]; unfold rwA; rw [hrow])
      simp only [hall]
      refine Go.freeze (nm := 2) rfl ?_
      simp only [go_sem, Nat.reduceBEq, Nat.reduceLT, Nat.reduceAdd, Nat.reduceMul, Nat.reduceLeDiff, hpa, Nat.mul_one, AV.frz, hdone, hfrz]
      refine Go.run hte hn 100 ?_; simp only [go_sem, Nat.reduceBEq, Nat.reduceLT, Nat.reduceAdd, Nat.reduceMul, Nat.reduceLeDiff, dB, e2]

      refine Go.round (i + 1) [0, 1] hlt (by omega) rfl rfl (by rw [h0]; rfl) (by simp [go_sem, tsI, slI, I, renL_ints, blk_ren, en_live, en_dead, ints_length, ints_nil, ints_one, hren]) (by simp [go_sem, tsI, slI, I, renL_ints, blk_ren, en_live, en_dead, ints_length, ints_nil, ints_one])
  · have dA : decide ((i : Int) < (r : Int)) = false := decide_eq_false (by omega)
    have hil : i = r := by omega
    subst hil
    have hall := rcs_all (grd i c G)
    rw [grd_length] at hall
    have hws := rws_all (grd i c G)
    rw [grd_length] at hws
    refine Go.run hte hn 100 ?_; simp only [go_sem, Nat.reduceBEq, Nat.reduceLT, Nat.reduceAdd, Nat.reduceMul, Nat.reduceLeDiff, dA]
    simp only [hall]
    refine Go.freeze (nm := 1) rfl ?_
    simp only [go_sem, Nat.reduceBEq, Nat.reduceLT, Nat.reduceAdd, Nat.reduceMul, Nat.reduceLeDiff, hws, Nat.mul_one]
    refine Go.retG hte hE hf [] rfl (by simp [go_sem, tsI, slI, I, renL_ints, blk_ren, en_live, en_dead, ints_length, ints_nil, ints_one, gridT, grd_length]) rfl (by rw [h0]; rfl) trivial
/-! ### Matrices: opened -/
def mokB (r c : Int) (l : List FR) : Bool := decide (0 ≤ r) && (decide (r ≤ 24) && (decide (0 ≤ c) && (decide (c ≤ 24) && (decide ((l.length : Int) = r * c) && allR l))))
theorem mokB_iff {r c : Int} {l : List FR} : mokB r c l = true ↔ 0 ≤ r ∧ r ≤ 24 ∧ 0 ≤ c ∧ c ≤ 24 ∧ (l.length : Int) = r * c ∧ allR l = true := by
  unfold mokB
  simp only [Bool.and_eq_true, decide_eq_true_eq]
theorem mokB_no {r c : Int} {l : List FR} (h : ¬ (0 ≤ r ∧ r ≤ 24 ∧ 0 ≤ c ∧ c ≤ 24 ∧ (l.length : Int) = r * c ∧ allR l = true)) : mokB r c l = false := by
  cases h2 : mokB r c l
  · rfl
  · exact absurd (mokB_iff.mp h2) h
theorem cell_lt {r c i k : Nat} (hi : i < r) (hk : k < c) : i * c + k < r * c := by
  have h1 : (i + 1) * c ≤ r * c := Nat.mul_le_mul_right c hi
  rw [Nat.add_mul, Nat.one_mul] at h1
  omega
theorem open1_c (r c i k : Nat) (l : List FR) (hr : r ≤ 24) (hc : c ≤ 24) (hl : l.length = r * c) (hi : i < r) (hk : k < c) : AC Try.prog 95 [I (i : Int), I (k : Int), .tp [.ts l.length (ptrs l)] 0, .tp [I (r : Int), I (c : Int), .ts l.length (frs l)] 0] [] (ptr (fat l (i * c + k))) [] := by
  refine AC.intro (fn := Try.f95) (c := ?_) 16 Try.func95 (by rfl) (by kernel_rfl) (by kernel_rfl) (Nat.le_of_ble_eq_true rfl) fun e hP hf hn h0 hE => ?_
  have hte : TEok e.P te := hP ▸ teOk
  have hmx : e.P.follows .mixedOrders = true := hP ▸ mixedOk
  have hlt := cell_lt hi hk
  have hic : i * c ≤ 24 * 24 := Nat.mul_le_mul (by omega) hc
  have hlt' : i * c + k < l.length := by omega
  obtain ⟨s, hs⟩ : ∃ s, s = i * c := ⟨_, rfl⟩
  rw [← hs] at hlt hic hlt' hE
  have w1 : IntKind.i64.wrap ((i : Int) * (c : Int)) = (s : Int) := by rw [← Int.natCast_mul, ← hs]; exact iw _ (by omega)
  have w2 : IntKind.i64.wrap ((s : Int) + (k : Int)) = ((s + k : Nat) : Int) := by rw [← Int.natCast_add]; exact iw _ (by omega)
  have c0 : (0 ≤ ((s + k : Nat) : Int)) = True := eq_true (Int.natCast_nonneg _)
  have c1 : (((s + k : Nat) : Int) < (l.length : Int)) = True := eq_true (Int.ofNat_lt.mpr hlt')
  have c2 : (0 < (ptrs l).length) = True := eq_true (by rw [ptrs_length]; omega)
  refine Go.run hte hn 100 ?_; simp only [go_sem, Nat.reduceBEq, Nat.reduceLT, Nat.reduceAdd, Nat.reduceMul, Nat.reduceLeDiff, w1, w2, c0, c1, c2, Int.toNat_natCast, Nat.mul_one, nth_ptrs hlt']
  refine Go.retG hte hE hf [] rfl (by simp [go_sem, tsI, slI, I, renL_ints, blk_ren, en_live, en_dead, ints_length, ints_nil, ints_one]) rfl (by rw [h0]; rfl) trivial

end Go.Proofs.Ytbblhgldfcodfaa.Ab
