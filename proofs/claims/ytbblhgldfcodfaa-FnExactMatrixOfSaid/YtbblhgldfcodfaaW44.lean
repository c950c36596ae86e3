/- Contracts of the given program's functions and of the reference's (walks). -/
import Derived.Test.YtbblhgldfcodfaaAbT
import Derived.Test.YtbblhgldfcodfaaAbP
import Derived.Test.YtbblhgldfcodfaaAbN
import Derived.Test.YtbblhgldfcodfaaAbD
import Derived.Test.YtbblhgldfcodfaaAbK
import Derived.Test.YtbblhgldfcodfaaAbV
import Derived.Test.YtbblhgldfcodfaaAbW
import Derived.Test.YtbblhgldfcodfaaAbC
import Derived.Test.YtbblhgldfcodfaaAbY
import Derived.Test.YtbblhgldfcodfaaAbO
import Derived.Test.YtbblhgldfcodfaaRunW1
import Derived.Test.YtbblhgldfcodfaaRunW5
import Derived.Test.YtbblhgldfcodfaaW8
import Derived.Test.YtbblhgldfcodfaaRunW9
import Derived.Test.YtbblhgldfcodfaaRunW17
import Derived.Test.YtbblhgldfcodfaaW30
import Derived.Test.YtbblhgldfcodfaaW33
import Derived.Test.YtbblhgldfcodfaaW35
import Derived.Test.YtbblhgldfcodfaaW37
import Derived.Test.YtbblhgldfcodfaaW38
import Derived.Test.YtbblhgldfcodfaaW42
import Derived.Test.YtbblhgldfcodfaaW43
set_option linter.unusedVariables false
set_option linter.unusedSimpArgs false
set_option maxRecDepth 10000
namespace Go.Proofs.Ytbblhgldfcodfaa.Ab
open Go Go.RowKit
attribute [local go_sem] q_run q_seq q_skip q_block q_exit q_cond q_region q_nil q_op q_blk q_loop q_ret q_open q_inv q_fin q_go q_h0 q_h1 q_gskip q_stepC q_brt q_brf q_stepX q_sskip q_sskip0 q_val q_need q_new q_newc q_sv q_sto q_c1 q_c2 q_c3 q_c4 q_c5 q_c6 q_c7 q_c8 q_c9 q_c10 q_c11 q_c12 q_c13 q_c14 q_c15 q_c16 q_c17 q_c18 q_c19 q_c20 q_c21 q_c22 q_g0 q_g1 q_gC q_gD q_gE q_gB1 q_gB2 q_gB3 q_gB4 q_ev1 q_ev2 q_ev3 q_evo0 q_evo1 q_rv q_rva q_o1 q_o2 q_pk1 q_pk2 q_ld1p q_ld1e q_ld1t q_ldnp q_ldne q_ldnt q_sub0 q_sub1 q_subc q_stS q_stT q_box q_bldr q_bld q_fill0 q_fill1 q_fillB q_bsr q_bsl q_fap q_fat q_iasl q_iats q_lnsl q_lnts q_lnv q_lnS q_exA q_mkB q_lo0 q_lo1 q_hi0 q_hi1 q_slcA q_slcU1 q_slcU2 q_slcT1 q_slcT2 q_slsA q_slsU q_slsT q_apA q_apC q_srcE1 q_srcE2 q_srcE3 q_srcA1 q_srcB q_srcA2 q_srcA3 q_fnA q_nc1 q_nc2 q_bin q_bin2 q_bin3 q_bin4 q_bin5 q_bin6 q_bin7 q_bin8 q_bin9 q_bin10 q_i1 q_i2 q_i3 q_i4 q_i5 q_i6 q_i7 q_i8 q_i9 q_i10 q_i11 q_s1 q_s2 q_s3 q_u1 q_u2 q_min q_max q_ce1 q_ce2 q_ce3 q_ce4 q_ce5 q_ce6 q_ce7 q_ce8 q_ce9 q_ce10 q_ce11 q_on2 q_on3 q_on4 q_on5 q_on6 q_on7 q_on8 q_on9 q_on10 q_on11 q_enr1 q_gEt q_zr0 q_zr1 q_zgs q_zgg q_zk1 q_zk2 q_zd q_zv1 q_zv2 q_zv3 q_zp1 q_zp2 q_zf q_zs1 q_zs2 q_za q_za1 q_fi0 q_fi1 q_ln0 q_ln1 q_h01 q_h02 q_h03 q_h04 q_h05 q_h06 q_h07 q_h08 q_h09 q_h10 q_h11 q_h12 q_h13 q_h14 q_h15 q_h16 q_h17 q_h18 q_h19 q_h20 q_h21 q_h22 q_h23 q_h24 q_al q_b0 q_rs1 q_rs2 q_rs3 q_rs4 q_rs5 q_rs6 q_rs7 q_rs8 q_ro1 q_ro2 q_ro3 q_ro4 q_ro5 q_ro6 q_ro7 q_ro8 cond_true cond_false decide_true decide_false List.length_cons List.length_nil List.nil_append List.cons_append true_and and_true List.toList_toArray Option.map_some Nat.zero_add Nat.add_zero Bool.and_self Bool.and_true Bool.true_and Bool.and_false Bool.false_and Bool.not_true Bool.not_false FitF FitL LendL wb keys nodupB firstOk tupA op_move op_assign op_pick op_un op_box op_nc op_mf op_ex op_min op_max get put del nth evs evp sets setN ones popTo args0 AV.ren AV.renL rho List.take_succ_cons List.take_zero List.drop_succ_cons List.drop_zero Option.isNone_none Option.isNone_some o_al28 o_al30 o_al43 o_al80 o_al84 o_ap22 o_ap41 o_bi120 o_bi22 o_bi3 o_bi4 o_bi68 o_bs22_0 o_bs22_1 o_bs22_3 o_bs41_0 o_bs41_1 o_bu28 o_bu30 o_bu43 o_bu80 o_bu98 o_cn120 o_cn3 o_cv120_3 o_cv3_120 o_fa24_0 o_fa24_1 o_fa26_0 o_fa26_1 o_fa28_0 o_fa28_1 o_fa30_0 o_fa30_1 o_fa38_0 o_fa38_1 o_fa38_2 o_fa43_0 o_fa43_1 o_fa43_2 o_fa80_0 o_fa80_1 o_fa80_2 o_fa98_0 o_fa98_1 o_ia22 o_ia36 o_ia41 o_ia78 o_ia84 o_ib4 o_ip68 o_ld22 o_ld24 o_ld26 o_ld28 o_ld3 o_ld30 o_ld36 o_ld38 o_ld4 o_ld41 o_ld43 o_ld68 o_ld78 o_ld80 o_ld84 o_ln22 o_ln36 o_ln41 o_ln78 o_ln84 o_mk22 o_mk41 o_mk78 o_mk84 o_sl22 o_sl41 o_st22 o_st28 o_st3 o_st30 o_st4 o_st41 o_st43 o_st68 o_st80 o_st84 o_zb22 o_zb36 o_zb41 o_zb78 o_zb84 I tsI slI renL_ints blk_ren en_live en_dead List.set_cons_zero List.set_cons_succ List.map_cons List.map_nil List.append_nil frzF frzS AV.frz AV.frzL frzL_ints ints_all ints_all' ints_take1 ints_mk ints_mk1 mk_length res_ints resOk_ints plain_ints plainA plainL plainE plainS List.all_cons List.all_nil bigO bigT ratO ratT ratsT renL_frs frzL_frs frs_all renL_ptrs frzL_ptrs renL_pcs frzL_pcs ptr matT FitI FitZ keys get put del blksO_length mkR_length mixR_length segO_id segO_id0 segO_length List.append_nil List.nil_append renL_rws frzL_rws renL_rcs frzL_rcs renL_rcx frzL_rcx q_yr0 q_yr1 q_ygs q_ygg q_yk1 q_yk2 q_yd q_yp1 q_yp2 q_ys1 q_ys2 q_ys3 q_ys4 q_cx07 q_cx01 q_cx02 q_cx03 q_cx06 q_cx08 q_cx09 q_cx10 q_cx11 q_cx12 q_cx13 q_cx14 q_cx15 q_cx16 q_cx17 q_cx18 q_cx20 q_cx21 q_cx22 onlyK kept List.elem_cons List.elem_nil Bool.or_false Bool.or_true
/-! ### A matrix's rows -/
def rwX (r c : Int) (l : List FR) (i : Int) : List FR := if mokB r c l = true ∧ 0 ≤ i ∧ i < r then gro c.toNat (fun k => fat l (i.toNat * c.toNat + k)) else []
theorem gro_eq (l : List FR) (s C : Nat) (h : s + C ≤ l.length) : (l.drop s).take C = gro C fun k => fat l (s + k) := by
  refine List.ext_getElem? fun j => ?_
  unfold gro
  rw [List.getElem?_take, List.getElem?_map, List.getElem?_drop]
  by_cases hj : j < C
  · rw [if_pos hj, List.getElem?_range hj, Option.map_some]
    unfold fat
    rw [List.getD_eq_getElem?_getD, List.getElem?_eq_getElem (show s + j < l.length by omega)]
    rfl
  · rw [if_neg hj, List.getElem?_eq_none_iff.2 (by rw [List.length_range]; omega)]
    rfl
theorem row_few {R C : Nat} {l : List FR} (ha : allR l = true) (hlen : l.length = R * C) {p : Nat} (hp : p < R) : ∀ j, j < (gro C fun k => fat l (p * C + k)).length → rok (fat (gro C fun k => fat l (p * C + k)) j).1.1 (fat (gro C fun k => fat l (p * C + k)) j).1.2 (fat (gro C fun k => fat l (p * C + k)) j).2 = true := fun j hj => by
  rw [gro_length] at hj
  rw [gro_at _ hj]
  have := cell_lt hp hj
  exact allR_at ha (by omega)
theorem impl_RowOf_c (r c : Int) (l : List FR) (i : Int) (hr1 : -9223372036854775808 ≤ r) (hr2 : r ≤ 9223372036854775807) (hc1 : -9223372036854775808 ≤ c) (hc2 : c ≤ 9223372036854775807) (hl : l.length ≤ 1048576) (hd : short l 1152921504606846976) : AC Try.prog 30 [matT r c l, I i] [] (.sl 0 0 (rwX r c l i).length 3) (segO 30 (rwX r c l i)) := by
  refine AC.intro (fn := Try.f30) (c := ?_) 36 Try.func30 (by rfl) (by kernel_rfl) (by kernel_rfl) (Nat.le_of_ble_eq_true rfl) fun e hP hf hn h0 hE => ?_
  have hte : TEok e.P te := hP ▸ teOk
  have hmx : e.P.follows .mixedOrders = true := hP ▸ mixedOk
  have bad : ¬ (mokB r c l = true ∧ 0 ≤ i ∧ i < r) → Ends e (.sl 0 0 0 3) [.live ⟨30, []⟩] := fun hb => by
    have e1 : rwX r c l i = [] := by unfold rwX; rw [if_neg hb]
    rw [e1] at hE
    exact hE
  cases h : mokB r c l
  · have hE' := bad (by rw [h]; simp)
    have C := open_no_c r c l hr1 hr2 hc1 hc2 hl hd h
    unfold matT at C
    refine Go.run hte hn 100 ?_; simp only [go_sem, Nat.reduceBEq, Nat.reduceLT, Nat.reduceAdd, Nat.reduceMul, Nat.reduceLeDiff, matT]
    refine Go.call0 hP C rfl rfl rfl (by omega) (by simp [go_sem, tsI, slI, I, renL_ints, blk_ren, en_live, en_dead, ints_length, ints_nil, ints_one]) ?_
    refine Go.run hte hn 100 ?_; simp only [go_sem, Nat.reduceBEq, Nat.reduceLT, Nat.reduceAdd, Nat.reduceMul, Nat.reduceLeDiff, gridZ]
    refine Go.virt 30 ?_
    simp only [go_sem, Nat.reduceBEq, Nat.reduceLT, Nat.reduceAdd, Nat.reduceMul, Nat.reduceLeDiff]
    refine Go.nilsl 4 2 3 rfl ?_
    simp only [go_sem, Nat.reduceBEq, Nat.reduceLT, Nat.reduceAdd, Nat.reduceMul, Nat.reduceLeDiff]
    refine Go.retG hte hE' hf [2] rfl (by simp [go_sem, tsI, slI, I, renL_ints, blk_ren, en_live, en_dead, ints_length, ints_nil, ints_one]) rfl (by rw [h0]; rfl) (by simp [go_sem, tsI, slI, I, renL_ints, blk_ren, en_live, en_dead, ints_length, ints_nil, ints_one])
  · have C := open_ok_c r c l hl hd h
    unfold matT at C
    obtain ⟨k1, k2, k3, k4, k5, ha⟩ := mokB_iff.mp h
    obtain ⟨R, rfl⟩ : ∃ R : Nat, r = R := ⟨r.toNat, by omega⟩
    obtain ⟨C', rfl⟩ : ∃ C : Nat, c = C := ⟨c.toNat, by omega⟩
    refine Go.run hte hn 100 ?_; simp only [go_sem, Nat.reduceBEq, Nat.reduceLT, Nat.reduceAdd, Nat.reduceMul, Nat.reduceLeDiff, matT]
    refine Go.call0 hP C rfl rfl rfl (by omega) (by simp [go_sem, tsI, slI, I, renL_ints, blk_ren, en_live, en_dead, ints_length, ints_nil, ints_one]) ?_
    by_cases i1 : 0 ≤ i
    · have d1 : decide (i < 0) = false := decide_eq_false (by omega)
      by_cases i2 : i < R
      · have d2 : decide ((R : Int) ≤ i) = false := decide_eq_false (by omega)
        obtain ⟨p, rfl⟩ : ∃ p : Nat, i = p := ⟨i.toNat, by omega⟩
        have hge : gOf (R : Int) (C' : Int) l = grd R C' fun i k => fat l (i * C' + k) := rfl
        rw [← Int.natCast_mul] at k5
        have hlen : l.length = R * C' := by omega
        have hpR : p < R := by omega
        have e1 : rwX (R : Int) (C' : Int) l (p : Int) = gro C' fun k => fat l (p * C' + k) := by unfold rwX; rw [if_pos ⟨h, i1, i2⟩]; simp only [Int.toNat_natCast]
        rw [e1] at hE
        have hrk := row_few ha hlen hpR
        have hgl : (gOf (R : Int) (C' : Int) l).length = R := by rw [hge, grd_length]
        have hrl : (gro C' fun k => fat l (p * C' + k)).length = C' := gro_length _ _
        have hrw : nth (rws (gOf (R : Int) (C' : Int) l)) p = some (.ts (gro C' fun k => fat l (p * C' + k)).length (ptrs (gro C' fun k => fat l (p * C' + k)))) := by
          rw [nth_rws (by rw [hgl]; exact hpR), hge, grd_at _ hpR]
          rfl
        have c0 : (0 ≤ (p : Int)) = True := eq_true (by omega)
        have c1 : ((p : Int) < (R : Int)) = True := eq_true (by omega)
        have c2 : (0 < (rws (gOf (R : Int) (C' : Int) l)).length) = True := eq_true (by rw [rws_length, hgl]; omega)
        have CS := stores_c (gro C' fun k => fat l (p * C' + k)) (by omega) (fun j hj => by have := rok_few (hrk j hj); omega) (fun j hj => ⟨(rok_few (hrk j hj)).1, (rok_few (hrk j hj)).2.1⟩)
        generalize (gro C' fun k => fat l (p * C' + k)) = q at *
        refine Go.run hte hn 100 ?_; simp only [go_sem, Nat.reduceBEq, Nat.reduceLT, Nat.reduceAdd, Nat.reduceMul, Nat.reduceLeDiff, gridT, renL_rws, d1, d2, hgl, c0, c1, c2, Int.toNat_natCast, Nat.mul_one, hrw]
        refine Go.call0 hP (CS) rfl rfl rfl (by omega) (by simp [go_sem, tsI, slI, I, renL_ints, blk_ren, en_live, en_dead, ints_length, ints_nil, ints_one]) ?_
        refine Go.run hte hn 100 ?_; simp only [go_sem, Nat.reduceBEq, Nat.reduceLT, Nat.reduceAdd, Nat.reduceMul, Nat.reduceLeDiff]
        have hS := (Seg.canon 30 q).shift [.live ⟨43, [I (R : Int), I (C' : Int), .ts l.length (frs l)]⟩, .live ⟨80, [I (R : Int), I (C' : Int), .ts R (rws (gOf (R : Int) (C' : Int) l))]⟩]
        exact Go.retSeg (q := 2) hte hE hf hS rfl (by simp [go_sem, tsI, slI, I, renL_ints, blk_ren, en_live, en_dead, ints_length, ints_nil, ints_one]) (by rw [h0]; exact Nat.zero_le _) (fun n hn => by rw [h0] at hn; simp at hn)
      · have d2 : decide ((R : Int) ≤ i) = true := decide_eq_true (by omega)
        have hE' := bad (fun hb => i2 hb.2.2)
        refine Go.run hte hn 100 ?_; simp only [go_sem, Nat.reduceBEq, Nat.reduceLT, Nat.reduceAdd, Nat.reduceMul, Nat.reduceLeDiff, gridT, renL_rws, d1, d2]
        refine Go.virt 30 ?_
        simp only [go_sem, Nat.reduceBEq, Nat.reduceLT, Nat.reduceAdd, Nat.reduceMul, Nat.reduceLeDiff]
        refine Go.nilsl 4 2 3 rfl ?_
        simp only [go_sem, Nat.reduceBEq, Nat.reduceLT, Nat.reduceAdd, Nat.reduceMul, Nat.reduceLeDiff]
        refine Go.retG hte hE' hf [2] rfl (by simp [go_sem, tsI, slI, I, renL_ints, blk_ren, en_live, en_dead, ints_length, ints_nil, ints_one]) rfl (by rw [h0]; rfl) (by simp [go_sem, tsI, slI, I, renL_ints, blk_ren, en_live, en_dead, ints_length, ints_nil, ints_one])
    · have d1 : decide (i < 0) = true := decide_eq_true (by omega)
      have hE' := bad (fun hb => i1 hb.2.1)
      refine Go.run hte hn 100 ?_; simp only [go_sem, Nat.reduceBEq, Nat.reduceLT, Nat.reduceAdd, Nat.reduceMul, Nat.reduceLeDiff, gridT, renL_rws, d1]
      refine Go.virt 30 ?_
      simp only [go_sem, Nat.reduceBEq, Nat.reduceLT, Nat.reduceAdd, Nat.reduceMul, Nat.reduceLeDiff]
      refine Go.nilsl 4 2 3 rfl ?_
      simp only [go_sem, Nat.reduceBEq, Nat.reduceLT, Nat.reduceAdd, Nat.reduceMul, Nat.reduceLeDiff]
      refine Go.retG hte hE' hf [2] rfl (by simp [go_sem, tsI, slI, I, renL_ints, blk_ren, en_live, en_dead, ints_length, ints_nil, ints_one]) rfl (by rw [h0]; rfl) (by simp [go_sem, tsI, slI, I, renL_ints, blk_ren, en_live, en_dead, ints_length, ints_nil, ints_one])
theorem spec_l05Copy_c (q : List FR) (n : Nat) (hn24 : n ≤ 24) (hnq : n ≤ q.length) (hd : ∀ i, i < n → (fat q i).1.2.length ≤ 1000 ∧ (fat q i).2.length ≤ 1000) : AC Try.prog 67 [.ts n (frs q)] [] (ratsT (q.take n)) [] := by
  refine AC.intro (fn := Try.f67) (c := ?_) 20 Try.func67 (by rfl) (by kernel_rfl) (by kernel_rfl) (Nat.le_of_ble_eq_true rfl) fun e hP hf hn h0 hE => ?_
  have hte : TEok e.P te := hP ▸ teOk
  have hmx : e.P.follows .mixedOrders = true := hP ▸ mixedOk
  refine Go.run hte hn 100 ?_; simp only [go_sem, Nat.reduceBEq, Nat.reduceLT, Nat.reduceAdd, Nat.reduceMul, Nat.reduceLeDiff]
  refine Go.enter (fun i : Nat => i ≤ n) (fun i => n - i) (fun i => [(3, .sl 0 0 i 3), (7, .ts n (frs q)), (8, I n), (9, I i)]) (fun i => [.live ⟨30, frs (q.take i)⟩]) 0 [0] (Nat.zero_le _) rfl rfl (by rw [h0]; rfl) (by simp [go_sem, tsI, slI, I, renL_ints, blk_ren, en_live, en_dead, ints_length, ints_nil, ints_one]) (by simp [go_sem, tsI, slI, I, renL_ints, blk_ren, en_live, en_dead, ints_length, ints_nil, ints_one, frs]) ?_
  intro i hi
  by_cases hlt : i < n
  · have dA : decide ((i : Int) < (n : Int)) = true := decide_eq_true (by omega)
    have e2 : IntKind.i64.wrap ((i : Int) + 1) = ((i + 1 : Nat) : Int) := by rw [W64] <;> omega
    have c0 : (0 ≤ (i : Int)) = True := eq_true (by omega)
    have c1 : ((i : Int) < (n : Int)) = True := eq_true (by omega)
    have c2 : (0 < (frs q).length) = True := eq_true (by rw [frs_length]; omega)
    have hlq : i < q.length := by omega
    obtain ⟨b1, b2⟩ := hd i hlt
    have hfl : (frs (q.take i)).length = i * 3 := by rw [frs_length, List.length_take]; omega
    have hst : frs (q.take i) ++ [.v (.bool (fat q i).1.1), .ts (fat q i).1.2.length (ints (fat q i).1.2), .ts (fat q i).2.length (ints (fat q i).2)] = frs (q.take (i + 1)) := by rw [ftake hlq, frs_append]; rfl
    refine Go.run hte hn 100 ?_; simp only [go_sem, Nat.reduceBEq, Nat.reduceLT, Nat.reduceAdd, Nat.reduceMul, Nat.reduceLeDiff, dA, c0, c1, c2, Int.toNat_natCast, nfr0 hlq, nfr1 hlq, nfr2 hlq]
    refine Go.call0 hP (l04Copy_c (fat q i).1.1 (fat q i).1.2 (fat q i).2 b1 b2) rfl rfl rfl (by omega) (by simp [go_sem, tsI, slI, I, renL_ints, blk_ren, en_live, en_dead, ints_length, ints_nil, ints_one]) ?_
    simp only [go_sem, Nat.reduceBEq, Nat.reduceLT, Nat.reduceAdd, Nat.reduceMul, Nat.reduceLeDiff]
    refine Go.freeze (nm := 2) rfl ?_
    simp only [go_sem, Nat.reduceBEq, Nat.reduceLT, Nat.reduceAdd, Nat.reduceMul, Nat.reduceLeDiff, frzL_frs]
    refine Go.freeze (nm := 3) rfl ?_
    simp only [go_sem, Nat.reduceBEq, Nat.reduceLT, Nat.reduceAdd, Nat.reduceMul, Nat.reduceLeDiff, frzL_frs]
    refine Go.run hte hn 100 ?_; simp only [go_sem, Nat.reduceBEq, Nat.reduceLT, Nat.reduceAdd, Nat.reduceMul, Nat.reduceLeDiff, e2]
    refine ⟨by omega, ?_⟩
    rw [← hfl, List.take_length, hst]
    refine Go.round (i + 1) [5] hlt (by omega) rfl rfl (by rw [h0]; rfl) (by simp [go_sem, tsI, slI, I, renL_ints, blk_ren, en_live, en_dead, ints_length, ints_nil, ints_one]) (by simp [go_sem, tsI, slI, I, renL_ints, blk_ren, en_live, en_dead, ints_length, ints_nil, ints_one])
  · have dA : decide ((i : Int) < (n : Int)) = false := decide_eq_false (by omega)
    have hil : i = n := by omega
    subst hil
    refine Go.run hte hn 100 ?_; simp only [go_sem, Nat.reduceBEq, Nat.reduceLT, Nat.reduceAdd, Nat.reduceMul, Nat.reduceLeDiff, dA]
    refine Go.freeze (nm := 0) rfl ?_
    have hl : (q.take i).length = i := by rw [List.length_take]; omega
    have h2 := frs_all (q.take i)
    rw [hl] at h2
    simp only [go_sem, Nat.reduceBEq, Nat.reduceLT, Nat.reduceAdd, Nat.reduceMul, Nat.reduceLeDiff, h2]
    refine Go.retG hte hE hf [] rfl (by simp [go_sem, tsI, slI, I, renL_ints, blk_ren, en_live, en_dead, ints_length, ints_nil, ints_one, ratsT, hl]) rfl (by rw [h0]; rfl) trivial
theorem frs_drop : ∀ (l : List FR) (s : Nat), (frs l).drop (s * 3) = frs (l.drop s)
  | l, 0 => by rw [Nat.zero_mul]; rfl
  | [], s + 1 => by simp [frs]
  | x :: l, s + 1 => by
    rw [show (s + 1) * 3 = s * 3 + 3 by omega]
    exact frs_drop l s
theorem frs_take : ∀ (l : List FR) (n : Nat), (frs l).take (n * 3) = frs (l.take n)
  | l, 0 => by rw [Nat.zero_mul]; rfl
  | [], n + 1 => by simp [frs]
  | x :: l, n + 1 => by
    rw [show (n + 1) * 3 = n * 3 + 3 by omega]
    have := frs_take l n
    simp only [frs_cons, List.take_succ_cons, this]
theorem spec_l06Row_c (R C : Nat) (l : List FR) (p : Nat) (hR : R ≤ 24) (hC : C ≤ 24) (hl : l.length = R * C) (hp : p < R) : AC Try.prog 68 [matT (R : Int) (C : Int) l, I (p : Int)] [] (.ts C (frs ((l.drop (p * C)).take C))) [] := by
  refine AC.intro (fn := Try.f68) (c := ?_) 17 Try.func68 (by rfl) (by kernel_rfl) (by kernel_rfl) (Nat.le_of_ble_eq_true rfl) fun e hP hf hn h0 hE => ?_
  have hte : TEok e.P te := hP ▸ teOk
  have hmx : e.P.follows .mixedOrders = true := hP ▸ mixedOk
  have hic : p * C ≤ 24 * 24 := Nat.mul_le_mul (by omega) hC
  have hlt' : p * C + C ≤ l.length := by
    have : (p + 1) * C ≤ R * C := Nat.mul_le_mul_right C hp
    rw [Nat.add_mul, Nat.one_mul] at this
    omega
  obtain ⟨s, hs⟩ : ∃ s, s = p * C := ⟨_, rfl⟩
  rw [← hs] at hic hlt' hE
  have w1 : IntKind.i64.wrap ((p : Int) * (C : Int)) = (s : Int) := by rw [← Int.natCast_mul, ← hs]; exact iw _ (by omega)
  have w2 : IntKind.i64.wrap ((p : Int) + 1) = ((p + 1 : Nat) : Int) := iw (p + 1) (by omega)
  have w3 : IntKind.i64.wrap (((p + 1 : Nat) : Int) * (C : Int)) = ((s + C : Nat) : Int) := by rw [← Int.natCast_mul, Nat.add_mul, Nat.one_mul, ← hs]; exact iw _ (by omega)
  have e3 : ((s + C : Nat) : Int).toNat - (s : Int).toNat = C := by omega
  refine Go.run hte hn 100 ?_; simp only [go_sem, Nat.reduceBEq, Nat.reduceLT, Nat.reduceAdd, Nat.reduceMul, Nat.reduceLeDiff, matT, w1, w2, w3, ratsT]
  refine ⟨⟨by omega, by omega, by omega⟩, ?_⟩
  rw [e3, Int.toNat_natCast, frs_drop, frs_take]
  refine Go.retG hte hE hf [] rfl (by simp [go_sem, tsI, slI, I, renL_ints, blk_ren, en_live, en_dead, ints_length, ints_nil, ints_one]) rfl (by rw [h0]; rfl) trivial
theorem spec_RowOf_c (r c : Int) (l : List FR) (i : Int) (hr1 : -9223372036854775808 ≤ r) (hr2 : r ≤ 9223372036854775807) (hc1 : -9223372036854775808 ≤ c) (hc2 : c ≤ 9223372036854775807) (hl : l.length ≤ 1048576) (hd : short l 1152921504606846976) : AC Try.prog 29 [matT r c l, I i] [] (ratsT (rwX r c l i)) [] := by
  refine AC.intro (fn := Try.f29) (c := ?_) 20 Try.func29 (by rfl) (by kernel_rfl) (by kernel_rfl) (Nat.le_of_ble_eq_true rfl) fun e hP hf hn h0 hE => ?_
  have hte : TEok e.P te := hP ▸ teOk
  have hmx : e.P.follows .mixedOrders = true := hP ▸ mixedOk
  have CM := spec_MatrixOk_c r c l hr1 hr2 hc1 hc2 hl hd
  unfold matT at CM
  have bad : ¬ (mokB r c l = true ∧ 0 ≤ i ∧ i < r) → Ends e (.ts 0 []) [] := fun hb => by
    have e1 : rwX r c l i = [] := by unfold rwX; rw [if_neg hb]
    rw [e1] at hE
    exact hE
  cases h : mokB r c l
  · rw [h] at CM
    have hE' := bad (by rw [h]; simp)
    refine Go.run hte hn 100 ?_; simp only [go_sem, Nat.reduceBEq, Nat.reduceLT, Nat.reduceAdd, Nat.reduceMul, Nat.reduceLeDiff, matT]
    refine Go.call0 hP CM rfl rfl rfl (by omega) (by simp [go_sem, tsI, slI, I, renL_ints, blk_ren, en_live, en_dead, ints_length, ints_nil, ints_one]) ?_
    refine Go.run hte hn 100 ?_; simp only [go_sem, Nat.reduceBEq, Nat.reduceLT, Nat.reduceAdd, Nat.reduceMul, Nat.reduceLeDiff]
    refine Go.nilts 4 rfl ?_
    simp only [go_sem, Nat.reduceBEq, Nat.reduceLT, Nat.reduceAdd, Nat.reduceMul, Nat.reduceLeDiff]
    refine Go.retG hte hE' hf [] rfl (by simp [go_sem, tsI, slI, I, renL_ints, blk_ren, en_live, en_dead, ints_length, ints_nil, ints_one]) rfl (by rw [h0]; rfl) trivial
  · rw [h] at CM
    obtain ⟨k1, k2, k3, k4, k5, ha⟩ := mokB_iff.mp h
    have w1 : IntKind.i64.wrap (r - 1) = r - 1 := by rw [W64] <;> omega
    refine Go.run hte hn 100 ?_; simp only [go_sem, Nat.reduceBEq, Nat.reduceLT, Nat.reduceAdd, Nat.reduceMul, Nat.reduceLeDiff, matT]
    refine Go.call0 hP CM rfl rfl rfl (by omega) (by simp [go_sem, tsI, slI, I, renL_ints, blk_ren, en_live, en_dead, ints_length, ints_nil, ints_one]) ?_
    refine Go.run hte hn 100 ?_; simp only [go_sem, Nat.reduceBEq, Nat.reduceLT, Nat.reduceAdd, Nat.reduceMul, Nat.reduceLeDiff, w1]
    clear w1
    refine Go.call0 hP (l01In_c i 0 (r - 1)) rfl rfl rfl (by omega) (by simp [go_sem, tsI, slI, I, renL_ints, blk_ren, en_live, en_dead, ints_length, ints_nil, ints_one]) ?_
    by_cases i12 : 0 ≤ i ∧ i ≤ r - 1
    · rw [show (decide (i ≥ 0) && decide (i ≤ r - 1)) = true by rw [decide_eq_true i12.2, decide_eq_true (show i ≥ 0 from i12.1)]; rfl]
      obtain ⟨R, rfl⟩ : ∃ R : Nat, r = R := ⟨r.toNat, by omega⟩
      obtain ⟨C', rfl⟩ : ∃ C : Nat, c = C := ⟨c.toNat, by omega⟩
      obtain ⟨p, rfl⟩ : ∃ p : Nat, i = p := ⟨i.toNat, by omega⟩
      rw [← Int.natCast_mul] at k5
      have hlen : l.length = R * C' := by omega
      have hpR : p < R := by omega
      have hpc : p * C' + C' ≤ l.length := by
        have : (p + 1) * C' ≤ R * C' := Nat.mul_le_mul_right C' hpR
        rw [Nat.add_mul, Nat.one_mul] at this
        omega
      have hrk := row_few ha hlen hpR
      have e1 : rwX (R : Int) (C' : Int) l (p : Int) = gro C' fun k => fat l (p * C' + k) := by unfold rwX; rw [if_pos ⟨h, by omega, by omega⟩]; simp only [Int.toNat_natCast]
      rw [e1] at hE
      have CA := spec_l06Row_c R C' l p (by omega) (by omega) hlen hpR
      rw [gro_eq l (p * C') C' hpc] at CA
      have hrl : (gro C' fun k => fat l (p * C' + k)).length = C' := gro_length _ _
      unfold matT at CA
      generalize (gro C' fun k => fat l (p * C' + k)) = q at *
      have CC := spec_l05Copy_c q C' (by omega) (by omega) (fun j hj => by have := rok_few (hrk j (by omega)); omega)
      rw [← hrl, List.take_length] at CC
      rw [← hrl] at CA
      refine Go.run hte hn 100 ?_; simp only [go_sem, Nat.reduceBEq, Nat.reduceLT, Nat.reduceAdd, Nat.reduceMul, Nat.reduceLeDiff]
      refine Go.call0 hP CA rfl rfl rfl (by omega) (by simp [go_sem, tsI, slI, I, renL_ints, blk_ren, en_live, en_dead, ints_length, ints_nil, ints_one, hrl]) ?_
      refine Go.run hte hn 100 ?_; simp only [go_sem, Nat.reduceBEq, Nat.reduceLT, Nat.reduceAdd, Nat.reduceMul, Nat.reduceLeDiff]
      refine Go.call0 hP (CC) rfl rfl rfl (by omega) (by simp [go_sem, tsI, slI, I, renL_ints, blk_ren, en_live, en_dead, ints_length, ints_nil, ints_one]) ?_
      refine Go.run hte hn 100 ?_; simp only [go_sem, Nat.reduceBEq, Nat.reduceLT, Nat.reduceAdd, Nat.reduceMul, Nat.reduceLeDiff]
      refine Go.retG hte hE hf [] rfl (by simp [go_sem, tsI, slI, I, renL_ints, blk_ren, en_live, en_dead, ints_length, ints_nil, ints_one]) rfl (by rw [h0]; rfl) trivial
    · have hE' := bad (fun hb => i12 ⟨hb.2.1, by omega⟩)
      rw [show (decide (i ≥ 0) && decide (i ≤ r - 1)) = false by
        cases hx : decide (i ≥ 0) && decide (i ≤ r - 1)
        · rfl
        · simp only [Bool.and_eq_true, decide_eq_true_eq] at hx
          exact absurd ⟨hx.1, hx.2⟩ i12]
      refine Go.run hte hn 100 ?_; simp only [go_sem, Nat.reduceBEq, Nat.reduceLT, Nat.reduceAdd, Nat.reduceMul, Nat.reduceLeDiff]
      refine Go.nilts 4 rfl ?_
      simp only [go_sem, Nat.reduceBEq, Nat.reduceLT, Nat.reduceAdd, Nat.reduceMul, Nat.reduceLeDiff]
      refine Go.retG hte hE' hf [] rfl (by simp [go_sem, tsI, slI, I, renL_ints, blk_ren, en_live, en_dead, ints_length, ints_nil, ints_one]) rfl (by rw [h0]; rfl) trivial

end Go.Proofs.Ytbblhgldfcodfaa.Ab
