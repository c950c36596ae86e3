/- Contracts of the given program's functions and of the reference's (walks). -/
import Derived.Test.YtbblhgldfcodfaaAbT
import Derived.Test.YtbblhgldfcodfaaAbP
import Derived.Test.YtbblhgldfcodfaaAbN
import Derived.Test.YtbblhgldfcodfaaAbD
import Derived.Test.YtbblhgldfcodfaaAbK
import Derived.Test.YtbblhgldfcodfaaAbV
import Derived.Test.YtbblhgldfcodfaaAbW
import Derived.Test.YtbblhgldfcodfaaAbC
import Derived.Test.YtbblhgldfcodfaaAbY
import Derived.Test.YtbblhgldfcodfaaAbO
import Derived.Test.YtbblhgldfcodfaaRunW1
import Derived.Test.YtbblhgldfcodfaaRunW5
import Derived.Test.YtbblhgldfcodfaaW8
import Derived.Test.YtbblhgldfcodfaaRunW9
import Derived.Test.YtbblhgldfcodfaaRunW17
import Derived.Test.YtbblhgldfcodfaaW30
import Derived.Test.YtbblhgldfcodfaaW33
import Derived.Test.YtbblhgldfcodfaaW35
import Derived.Test.YtbblhgldfcodfaaW37
import Derived.Test.YtbblhgldfcodfaaW38
import Derived.Test.YtbblhgldfcodfaaW40
import Derived.Test.YtbblhgldfcodfaaW41
import Derived.Test.YtbblhgldfcodfaaW42
import Derived.Test.YtbblhgldfcodfaaW43
import Derived.Test.YtbblhgldfcodfaaW44
import Derived.Test.YtbblhgldfcodfaaW45
set_option linter.unusedVariables false
set_option linter.unusedSimpArgs false
set_option maxRecDepth 10000
namespace Go.Proofs.Ytbblhgldfcodfaa.Ab
open Go Go.RowKit
attribute [local go_sem] q_run q_seq q_skip q_block q_exit q_cond q_region q_nil q_op q_blk q_loop q_ret q_open q_inv q_fin q_go q_h0 q_h1 q_gskip q_stepC q_brt q_brf q_stepX q_sskip q_sskip0 q_val q_need q_new q_newc q_sv q_sto q_c1 q_c2 q_c3 q_c4 q_c5 q_c6 q_c7 q_c8 q_c9 q_c10 q_c11 q_c12 q_c13 q_c14 q_c15 q_c16 q_c17 q_c18 q_c19 q_c20 q_c21 q_c22 q_g0 q_g1 q_gC q_gD q_gE q_gB1 q_gB2 q_gB3 q_gB4 q_ev1 q_ev2 q_ev3 q_evo0 q_evo1 q_rv q_rva q_o1 q_o2 q_pk1 q_pk2 q_ld1p q_ld1e q_ld1t q_ldnp q_ldne q_ldnt q_sub0 q_sub1 q_subc q_stS q_stT q_box q_bldr q_bld q_fill0 q_fill1 q_fillB q_bsr q_bsl q_fap q_fat q_iasl q_iats q_lnsl q_lnts q_lnv q_lnS q_exA q_mkB q_lo0 q_lo1 q_hi0 q_hi1 q_slcA q_slcU1 q_slcU2 q_slcT1 q_slcT2 q_slsA q_slsU q_slsT q_apA q_apC q_srcE1 q_srcE2 q_srcE3 q_srcA1 q_srcB q_srcA2 q_srcA3 q_fnA q_nc1 q_nc2 q_bin q_bin2 q_bin3 q_bin4 q_bin5 q_bin6 q_bin7 q_bin8 q_bin9 q_bin10 q_i1 q_i2 q_i3 q_i4 q_i5 q_i6 q_i7 q_i8 q_i9 q_i10 q_i11 q_s1 q_s2 q_s3 q_u1 q_u2 q_min q_max q_ce1 q_ce2 q_ce3 q_ce4 q_ce5 q_ce6 q_ce7 q_ce8 q_ce9 q_ce10 q_ce11 q_on2 q_on3 q_on4 q_on5 q_on6 q_on7 q_on8 q_on9 q_on10 q_on11 q_enr1 q_gEt q_zr0 q_zr1 q_zgs q_zgg q_zk1 q_zk2 q_zd q_zv1 q_zv2 q_zv3 q_zp1 q_zp2 q_zf q_zs1 q_zs2 q_za q_za1 q_fi0 q_fi1 q_ln0 q_ln1 q_h01 q_h02 q_h03 q_h04 q_h05 q_h06 q_h07 q_h08 q_h09 q_h10 q_h11 q_h12 q_h13 q_h14 q_h15 q_h16 q_h17 q_h18 q_h19 q_h20 q_h21 q_h22 q_h23 q_h24 q_al q_b0 q_rs1 q_rs2 q_rs3 q_rs4 q_rs5 q_rs6 q_rs7 q_rs8 q_ro1 q_ro2 q_ro3 q_ro4 q_ro5 q_ro6 q_ro7 q_ro8 cond_true cond_false decide_true decide_false List.length_cons List.length_nil List.nil_append List.cons_append true_and and_true List.toList_toArray Option.map_some Nat.zero_add Nat.add_zero Bool.and_self Bool.and_true Bool.true_and Bool.and_false Bool.false_and Bool.not_true Bool.not_false FitF FitL LendL wb keys nodupB firstOk tupA op_move op_assign op_pick op_un op_box op_nc op_mf op_ex op_min op_max get put del nth evs evp sets setN ones popTo args0 AV.ren AV.renL rho List.take_succ_cons List.take_zero List.drop_succ_cons List.drop_zero Option.isNone_none Option.isNone_some o_al28 o_al30 o_al43 o_al80 o_al84 o_ap22 o_ap41 o_bi120 o_bi22 o_bi3 o_bi4 o_bi68 o_bs22_0 o_bs22_1 o_bs22_3 o_bs41_0 o_bs41_1 o_bu28 o_bu30 o_bu43 o_bu80 o_bu98 o_cn120 o_cn3 o_cv120_3 o_cv3_120 o_fa24_0 o_fa24_1 o_fa26_0 o_fa26_1 o_fa28_0 o_fa28_1 o_fa30_0 o_fa30_1 o_fa38_0 o_fa38_1 o_fa38_2 o_fa43_0 o_fa43_1 o_fa43_2 o_fa80_0 o_fa80_1 o_fa80_2 o_fa98_0 o_fa98_1 o_ia22 o_ia36 o_ia41 o_ia78 o_ia84 o_ib4 o_ip68 o_ld22 o_ld24 o_ld26 o_ld28 o_ld3 o_ld30 o_ld36 o_ld38 o_ld4 o_ld41 o_ld43 o_ld68 o_ld78 o_ld80 o_ld84 o_ln22 o_ln36 o_ln41 o_ln78 o_ln84 o_mk22 o_mk41 o_mk78 o_mk84 o_sl22 o_sl41 o_st22 o_st28 o_st3 o_st30 o_st4 o_st41 o_st43 o_st68 o_st80 o_st84 o_zb22 o_zb36 o_zb41 o_zb78 o_zb84 I tsI slI renL_ints blk_ren en_live en_dead List.set_cons_zero List.set_cons_succ List.map_cons List.map_nil List.append_nil frzF frzS AV.frz AV.frzL frzL_ints ints_all ints_all' ints_take1 ints_mk ints_mk1 mk_length res_ints resOk_ints plain_ints plainA plainL plainE plainS List.all_cons List.all_nil bigO bigT ratO ratT ratsT renL_frs frzL_frs frs_all renL_ptrs frzL_ptrs renL_pcs frzL_pcs ptr matT FitI FitZ keys get put del blksO_length mkR_length mixR_length segO_id segO_id0 segO_length List.append_nil List.nil_append renL_rws frzL_rws renL_rcs frzL_rcs renL_rcx frzL_rcx q_yr0 q_yr1 q_ygs q_ygg q_yk1 q_yk2 q_yd q_yp1 q_yp2 q_ys1 q_ys2 q_ys3 q_ys4 q_cx07 q_cx01 q_cx02 q_cx03 q_cx06 q_cx08 q_cx09 q_cx10 q_cx11 q_cx12 q_cx13 q_cx14 q_cx15 q_cx16 q_cx17 q_cx18 q_cx20 q_cx21 q_cx22 onlyK kept List.elem_cons List.elem_nil Bool.or_false Bool.or_true
/-! ### Unit matrices -/
theorem flat_grd (C : Nat) (G : Nat → Nat → FR) (f : Nat → FR) : ∀ R : Nat, (∀ i k, i < R → k < C → G i k = f (i * C + k)) → flat (grd R C G) = (List.range (R * C)).map f
  | 0, _ => by rw [Nat.zero_mul]; rfl
  | R + 1, h => by
    have ih := flat_grd C G f R (fun i k hi hk => h i k (by omega) hk)
    have e1 : grd (R + 1) C G = grd R C G ++ [gro C (G R)] := by
      unfold grd
      rw [List.range_succ, List.map_append]
      rfl
    have e2 : gro C (G R) = (List.range C).map (fun k => f (R * C + k)) := List.map_congr_left (fun k hk => h R k (by omega) (List.mem_range.1 hk))
    unfold flat at ih ⊢
    rw [e1, List.flatten_append, ih, Nat.add_mul, Nat.one_mul, List.range_add, List.map_append, e2, List.map_map]
    simp
def idG (i k : Nat) : FR := if i = k then uf else zf
def idl (N : Nat) : List FR := (List.range (N * N)).map fun j => if j / N = j % N then uf else zf
theorem idl_flat (N : Nat) : flat (grd N N idG) = idl N := flat_grd N idG _ N fun i k hi hk => by
  have e1 : (i * N + k) / N = i := by rw [Nat.mul_comm, Nat.mul_add_div (by omega), Nat.div_eq_of_lt hk, Nat.add_zero]
  have e2 : (i * N + k) % N = k := by rw [Nat.mul_comm, Nat.mul_add_mod, Nat.mod_eq_of_lt hk]
  unfold idG
  rw [e1, e2]
theorem idl_length (N : Nat) : (idl N).length = N * N := by simp [idl]
def idp (N : Nat) : Nat → List FR
  | 0 => zs (N * N)
  | i + 1 => (idp N i).set (i * N + i) uf
theorem idp_length (N : Nat) : ∀ i, (idp N i).length = N * N
  | 0 => zs_length _
  | i + 1 => by rw [idp, List.length_set, idp_length N i]
theorem idp_at (N : Nat) : ∀ i, i ≤ N → ∀ p q, p < N → q < N → fat (idp N i) (p * N + q) = if p = q ∧ p < i then uf else zf
  | 0, _, p, q, hp, hq => by
    rw [if_neg (by omega)]
    exact zs_at (cell_lt hp hq)
  | i + 1, hi, p, q, hp, hq => by
    have ih := idp_at N i (by omega) p q hp hq
    rw [idp]
    by_cases e : i * N + i = p * N + q
    · rw [← e, fat_set _ (by rw [idp_length]; exact cell_lt (by omega) (by omega))]
      have e1 : (i * N + i) / N = i := by rw [Nat.mul_comm, Nat.mul_add_div (by omega), Nat.div_eq_of_lt (by omega), Nat.add_zero]
      have e2 : (p * N + q) / N = p := by rw [Nat.mul_comm, Nat.mul_add_div (by omega), Nat.div_eq_of_lt hq, Nat.add_zero]
      have e3 : i = p := by rw [← e1, ← e2, e]
      subst e3
      rw [if_pos (by omega)]
    · rw [fat_set_ne _ e, ih]
      by_cases e2 : p = q ∧ p < i
      · rw [if_pos e2, if_pos ⟨e2.1, by omega⟩]
      · rw [if_neg e2, if_neg]
        rintro ⟨rfl, h2⟩
        have : p = i := by
          have : ¬ p < i := fun h => e2 ⟨rfl, h⟩
          omega
        exact e (by rw [this])
theorem idp_all (N : Nat) : idp N N = idl N := by
  refine List.ext_getElem? fun j => ?_
  by_cases hj : j < N * N
  · have hN : 0 < N := by
      rcases Nat.eq_zero_or_pos N with h | h
      · subst h; simp at hj
      · exact h
    have hp : j / N < N := Nat.div_lt_of_lt_mul hj
    have hq : j % N < N := Nat.mod_lt _ hN
    have h := idp_at N N (Nat.le_refl _) (j / N) (j % N) hp hq
    rw [Nat.mul_comm (j / N) N, Nat.div_add_mod] at h
    unfold fat at h
    rw [List.getD_eq_getElem?_getD, List.getElem?_eq_getElem (by rw [idp_length]; exact hj), Option.getD_some] at h
    rw [List.getElem?_eq_getElem (by rw [idp_length]; exact hj), h]
    unfold idl
    rw [List.getElem?_map, List.getElem?_range hj, Option.map_some]
    simp only [hp, and_true]
  · rw [List.getElem?_eq_none_iff.2 (by rw [idp_length]; omega), List.getElem?_eq_none_iff.2 (by rw [idl_length]; omega)]
def iml (n : Int) : List FR := if 0 ≤ n ∧ n ≤ 24 then idl n.toNat else []
def imd (n : Int) : Int := if 0 ≤ n ∧ n ≤ 24 then n else 0
theorem isLength_c (n : Int) : AC Try.prog 71 [I n] [] (.v (.bool (decide (0 ≤ n) && decide (n ≤ 24)))) [] := by
  refine AC.intro (fn := Try.f71) (c := ?_) 9 Try.func71 (by rfl) (by kernel_rfl) (by kernel_rfl) (Nat.le_of_ble_eq_true rfl) fun e hP hf hn h0 hE => ?_
  have hte : TEok e.P te := hP ▸ teOk
  have hmx : e.P.follows .mixedOrders = true := hP ▸ mixedOk
  by_cases h1 : 0 ≤ n
  · have d1 : decide (0 ≤ n) = true := decide_eq_true h1
    rw [d1, Bool.true_and] at hE
    refine Go.run hte hn 100 ?_; simp only [go_sem, Nat.reduceBEq, Nat.reduceLT, Nat.reduceAdd, Nat.reduceMul, Nat.reduceLeDiff, d1]
    refine Go.retG hte hE hf [] rfl (by simp [go_sem, tsI, slI, I, renL_ints, blk_ren, en_live, en_dead, ints_length, ints_nil, ints_one]) rfl (by rw [h0]; rfl) trivial
  · have d1 : decide (0 ≤ n) = false := decide_eq_false h1
    rw [d1, Bool.false_and] at hE
    refine Go.run hte hn 100 ?_; simp only [go_sem, Nat.reduceBEq, Nat.reduceLT, Nat.reduceAdd, Nat.reduceMul, Nat.reduceLeDiff, d1]
    refine Go.retG hte hE hf [] rfl (by simp [go_sem, tsI, slI, I, renL_ints, blk_ren, en_live, en_dead, ints_length, ints_nil, ints_one]) rfl (by rw [h0]; rfl) trivial
theorem idfn_c (i k : Nat) (hi : i ≤ 24) (hk : k ≤ 24) : AC Try.prog 99 [I (i : Int), I (k : Int)] [] (ptr (idG i k)) [] := by
  refine AC.intro (fn := Try.f99) (c := ?_) 10 Try.func99 (by rfl) (by kernel_rfl) (by kernel_rfl) (Nat.le_of_ble_eq_true rfl) fun e hP hf hn h0 hE => ?_
  have hte : TEok e.P te := hP ▸ teOk
  have hmx : e.P.follows .mixedOrders = true := hP ▸ mixedOk
  unfold idG at hE
  have W1 := whole_c 1 (by decide) (by decide)
  have W0 := whole_c 0 (by decide) (by decide)
  unfold ratP at W1 W0
  by_cases h : i = k
  · have d1 : decide ((i : Int) = (k : Int)) = true := decide_eq_true (by omega)
    rw [if_pos h] at hE
    refine Go.run hte hn 100 ?_; simp only [go_sem, Nat.reduceBEq, Nat.reduceLT, Nat.reduceAdd, Nat.reduceMul, Nat.reduceLeDiff, d1]
    refine Go.call0 hP (W1) rfl rfl rfl (by omega) (by simp [go_sem, tsI, slI, I, renL_ints, blk_ren, en_live, en_dead, ints_length, ints_nil, ints_one]) ?_
    refine Go.run hte hn 100 ?_; simp only [go_sem, Nat.reduceBEq, Nat.reduceLT, Nat.reduceAdd, Nat.reduceMul, Nat.reduceLeDiff]
    refine Go.retG hte hE hf [] rfl (by simp [go_sem, tsI, slI, I, renL_ints, blk_ren, en_live, en_dead, ints_length, ints_nil, ints_one, uf]) rfl (by rw [h0]; rfl) trivial
  · have d1 : decide ((i : Int) = (k : Int)) = false := decide_eq_false (by omega)
    rw [if_neg h] at hE
    refine Go.run hte hn 100 ?_; simp only [go_sem, Nat.reduceBEq, Nat.reduceLT, Nat.reduceAdd, Nat.reduceMul, Nat.reduceLeDiff, d1]
    refine Go.call0 hP (W0) rfl rfl rfl (by omega) (by simp [go_sem, tsI, slI, I, renL_ints, blk_ren, en_live, en_dead, ints_length, ints_nil, ints_one]) ?_
    refine Go.run hte hn 100 ?_; simp only [go_sem, Nat.reduceBEq, Nat.reduceLT, Nat.reduceAdd, Nat.reduceMul, Nat.reduceLeDiff]
    refine Go.retG hte hE hf [] rfl (by simp [go_sem, tsI, slI, I, renL_ints, blk_ren, en_live, en_dead, ints_length, ints_nil, ints_one, zf]) rfl (by rw [h0]; rfl) trivial
theorem identity_c (N : Nat) (hN : N ≤ 24) : AC Try.prog 77 [I (N : Int)] [] (gridT (N : Int) (N : Int) (grd N N idG)) [] := by
  refine AC.intro (fn := Try.f77) (c := ?_) 6 Try.func77 (by rfl) (by kernel_rfl) (by kernel_rfl) (Nat.le_of_ble_eq_true rfl) fun e hP hf hn h0 hE => ?_
  have hte : TEok e.P te := hP ▸ teOk
  have hmx : e.P.follows .mixedOrders = true := hP ▸ mixedOk
  have CG := newGrid_c 99 [] N N idG hN hN (fun _ => rfl) (fun _ _ => rfl) (fun i k hi hk => idfn_c i k (by omega) (by omega))
  refine Go.run hte hn 100 ?_; simp only [go_sem, Nat.reduceBEq, Nat.reduceLT, Nat.reduceAdd, Nat.reduceMul, Nat.reduceLeDiff]
  refine Go.call0 hP CG rfl rfl rfl (by omega) (by simp [go_sem, tsI, slI, I, renL_ints, blk_ren, en_live, en_dead, ints_length, ints_nil, ints_one, AV.renL, AV.ren]) ?_
  refine Go.run hte hn 100 ?_; simp only [go_sem, Nat.reduceBEq, Nat.reduceLT, Nat.reduceAdd, Nat.reduceMul, Nat.reduceLeDiff, gridT, renL_rws]
  refine Go.retG hte hE hf [] rfl (by simp [go_sem, tsI, slI, I, renL_ints, blk_ren, en_live, en_dead, ints_length, ints_nil, ints_one, gridT]) rfl (by rw [h0]; rfl) trivial
theorem bof01 : (bofL 0).length = 0 ∧ (bofL 1).length = 1 := by
  constructor
  · simp [bofL, dg_zero]
  · unfold bofL; rw [dg_pos (by decide)]; simp [dg_zero]
theorem impl_IdentityMatrix_c (n : Int) : AC Try.prog 41 [I n] [] (matO (imd n) (imd n) 0 (iml n)) (segO 30 (iml n)) := by
  refine AC.intro (fn := Try.f41) (c := ?_) 16 Try.func41 (by rfl) (by kernel_rfl) (by kernel_rfl) (Nat.le_of_ble_eq_true rfl) fun e hP hf hn h0 hE => ?_
  have hte : TEok e.P te := hP ▸ teOk
  have hmx : e.P.follows .mixedOrders = true := hP ▸ mixedOk
  refine Go.run hte hn 100 ?_; simp only [go_sem, Nat.reduceBEq, Nat.reduceLT, Nat.reduceAdd, Nat.reduceMul, Nat.reduceLeDiff]
  refine Go.call0 hP (isLength_c n) rfl rfl rfl (by omega) (by simp [go_sem, tsI, slI, I, renL_ints, blk_ren, en_live, en_dead, ints_length, ints_nil, ints_one]) ?_
  by_cases hz : 0 ≤ n ∧ n ≤ 24
  · obtain ⟨N, rfl⟩ : ∃ N : Nat, n = N := ⟨n.toNat, by omega⟩
    have e1 : iml (N : Int) = idl N := by unfold iml; rw [if_pos hz, Int.toNat_natCast]
    have e2 : imd (N : Int) = N := by unfold imd; rw [if_pos hz]
    rw [e1, e2] at hE
    rw [show (decide (0 ≤ (N : Int)) && decide ((N : Int) ≤ 24)) = true by rw [decide_eq_true hz.1, decide_eq_true hz.2]; rfl]
    have hg : ∀ i, i < (grd N N idG).length → ((grd N N idG).getD i []) = gro N (idG i) := fun i hi => by rw [grd_length] at hi; exact grd_at idG hi
    have CC := closed_c (N : Int) (N : Int) (grd N N idG) (by rw [grd_length]; omega) (fun i hi => by rw [hg i hi, gro_length]; omega) (fun i hi j hj => by
      rw [hg i hi] at hj ⊢
      rw [gro_length] at hj
      rw [gro_at _ hj]
      unfold idG
      have := bof01
      split
      · show (bofL 1).length ≤ 24 ∧ _; exact ⟨by omega, by decide⟩
      · show (bofL 0).length ≤ 24 ∧ _; exact ⟨by omega, by decide⟩)
    rw [idl_flat] at CC
    have CI := identity_c N (by omega)
    refine Go.run hte hn 100 ?_; simp only [go_sem, Nat.reduceBEq, Nat.reduceLT, Nat.reduceAdd, Nat.reduceMul, Nat.reduceLeDiff]
    refine Go.call0 hP (CI) rfl rfl rfl (by omega) (by simp [go_sem, tsI, slI, I, renL_ints, blk_ren, en_live, en_dead, ints_length, ints_nil, ints_one]) ?_
    refine Go.run hte hn 100 ?_; simp only [go_sem, Nat.reduceBEq, Nat.reduceLT, Nat.reduceAdd, Nat.reduceMul, Nat.reduceLeDiff, gridT, renL_rws]
    unfold gridT at CC
    refine Go.call0 hP CC rfl rfl rfl (by omega) (by simp [go_sem, tsI, slI, I, renL_ints, blk_ren, en_live, en_dead, ints_length, ints_nil, ints_one, AV.renL, AV.ren]) ?_
    unfold matO
    show Go e _ (put 12 (.tup [.agg [I (N : Int), I (N : Int), .sl 1 0 (idl N).length 3], .v (.bool true)]) _) ([.live ⟨43, [I 0, I 0, .v (.slice none 0 0)]⟩] ++ (segO 30 (idl N)).map (En.ren (rho [] [(.live ⟨43, [I 0, I 0, .v (.slice none 0 0)]⟩ : En)].length)))
    have hS := (Seg.canon 30 (idl N)).shift [.live ⟨43, [I 0, I 0, .v (.slice none 0 0)]⟩]
    have h00 : nth ([.live ⟨43, [I 0, I 0, .v (.slice none 0 0)]⟩] ++ (segO 30 (idl N)).map (En.ren (rho [] [(.live ⟨43, [I 0, I 0, .v (.slice none 0 0)]⟩ : En)].length))) 0 = some (.live ⟨43, [I 0, I 0, .v (.slice none 0 0)]⟩) := rfl
    have hge : ∀ m ∈ (1 + 0) :: (List.range' 1 (2 * (idl N).length)).map (1 + ·), m ≠ 0 := fun m hm => by
      rcases List.mem_cons.1 hm with hm | hm
      · omega
      · obtain ⟨j, _, hj⟩ := List.mem_map.1 hm
        omega
    generalize [.live ⟨43, [I 0, I 0, .v (.slice none 0 0)]⟩] ++ (segO 30 (idl N)).map (En.ren (rho [] [(.live ⟨43, [I 0, I 0, .v (.slice none 0 0)]⟩ : En)].length)) = σ at hS h00 ⊢
    have h01 := fun x => nth_app [x] h00
    refine Go.run hte hn 100 ?_; simp only [go_sem, Nat.reduceBEq, Nat.reduceLT, Nat.reduceAdd, Nat.reduceMul, Nat.reduceLeDiff, nth_app_end, setN_app_end, h01]
    have hS1 := hS.append [.live ⟨43, [I (N : Int), I (N : Int), .sl 1 0 (idl N).length 3]⟩]
    have hS2 := hS1.other (m := 0) (fun hm => hge _ hm rfl) (.live ⟨43, [I (N : Int), I (N : Int), .sl 1 0 (idl N).length 3]⟩)
    have hS3 := hS2.other (m := 0) (fun hm => hge _ hm rfl) .dead
    refine Go.kill 0 [(2, .tp [I (N : Int), I (N : Int), .sl 1 0 (idl N).length 3] 0)] (nth_set _ (by rw [List.length_append]; exact Nat.lt_add_right _ (nth_lt h00))) rfl (by simp [go_sem, tsI, slI, I, renL_ints, blk_ren, en_live, en_dead, ints_length, ints_nil, ints_one]) ?_
    exact Go.retSeg (q := 1) hte hE hf hS3 rfl (by simp [go_sem, tsI, slI, I, renL_ints, blk_ren, en_live, en_dead, ints_length, ints_nil, ints_one, matO, rho]) (by rw [h0]; exact Nat.zero_le _) (fun n hn => by rw [h0] at hn; simp at hn)
  · have e1 : iml n = [] := by unfold iml; rw [if_neg hz]
    have e2 : imd n = 0 := by unfold imd; rw [if_neg hz]
    rw [e1, e2] at hE
    rw [show (decide (0 ≤ n) && decide (n ≤ 24)) = false by
      cases hx : decide (0 ≤ n) && decide (n ≤ 24)
      · rfl
      · simp only [Bool.and_eq_true, decide_eq_true_eq] at hx
        exact absurd hx hz]
    refine Go.run hte hn 100 ?_; simp only [go_sem, Nat.reduceBEq, Nat.reduceLT, Nat.reduceAdd, Nat.reduceMul, Nat.reduceLeDiff]
    refine Go.virt 30 ?_
    refine Go.nilcell 0 2 1 3 rfl rfl ?_
    simp only [go_sem, Nat.reduceBEq, Nat.reduceLT, Nat.reduceAdd, Nat.reduceMul, Nat.reduceLeDiff]
    refine Go.retG hte hE hf [1] rfl (by simp [go_sem, tsI, slI, I, renL_ints, blk_ren, en_live, en_dead, ints_length, ints_nil, ints_one, matO]) rfl (by rw [h0]; rfl) (by simp [go_sem, tsI, slI, I, renL_ints, blk_ren, en_live, en_dead, ints_length, ints_nil, ints_one, segO, blksO, cellsN])

end Go.Proofs.Ytbblhgldfcodfaa.Ab
