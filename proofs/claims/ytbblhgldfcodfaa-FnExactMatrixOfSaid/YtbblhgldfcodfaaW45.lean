/- Contracts of the given program's functions and of the reference's (walks). -/
import Derived.Test.YtbblhgldfcodfaaAbT
import Derived.Test.YtbblhgldfcodfaaAbP
import Derived.Test.YtbblhgldfcodfaaAbN
import Derived.Test.YtbblhgldfcodfaaAbD
import Derived.Test.YtbblhgldfcodfaaAbK
import Derived.Test.YtbblhgldfcodfaaAbV
import Derived.Test.YtbblhgldfcodfaaAbW
import Derived.Test.YtbblhgldfcodfaaAbC
import Derived.Test.YtbblhgldfcodfaaAbY
import Derived.Test.YtbblhgldfcodfaaAbO
import Derived.Test.YtbblhgldfcodfaaRunW1
import Derived.Test.YtbblhgldfcodfaaRunW5
import Derived.Test.YtbblhgldfcodfaaW8
import Derived.Test.YtbblhgldfcodfaaRunW9
import Derived.Test.YtbblhgldfcodfaaRunW17
import Derived.Test.YtbblhgldfcodfaaW30
import Derived.Test.YtbblhgldfcodfaaW33
import Derived.Test.YtbblhgldfcodfaaW35
import Derived.Test.YtbblhgldfcodfaaW37
import Derived.Test.YtbblhgldfcodfaaW38
import Derived.Test.YtbblhgldfcodfaaW42
import Derived.Test.YtbblhgldfcodfaaW43
import Derived.Test.YtbblhgldfcodfaaW44
set_option linter.unusedVariables false
set_option linter.unusedSimpArgs false
set_option maxRecDepth 10000
namespace Go.Proofs.Ytbblhgldfcodfaa.Ab
open Go Go.RowKit
attribute [local go_sem] q_run q_seq q_skip q_block q_exit q_cond q_region q_nil q_op q_blk q_loop q_ret q_open q_inv q_fin q_go q_h0 q_h1 q_gskip q_stepC q_brt q_brf q_stepX q_sskip q_sskip0 q_val q_need q_new q_newc q_sv q_sto q_c1 q_c2 q_c3 q_c4 q_c5 q_c6 q_c7 q_c8 q_c9 q_c10 q_c11 q_c12 q_c13 q_c14 q_c15 q_c16 q_c17 q_c18 q_c19 q_c20 q_c21 q_c22 q_g0 q_g1 q_gC q_gD q_gE q_gB1 q_gB2 q_gB3 q_gB4 q_ev1 q_ev2 q_ev3 q_evo0 q_evo1 q_rv q_rva q_o1 q_o2 q_pk1 q_pk2 q_ld1p q_ld1e q_ld1t q_ldnp q_ldne q_ldnt q_sub0 q_sub1 q_subc q_stS q_stT q_box q_bldr q_bld q_fill0 q_fill1 q_fillB q_bsr q_bsl q_fap q_fat q_iasl q_iats q_lnsl q_lnts q_lnv q_lnS q_exA q_mkB q_lo0 q_lo1 q_hi0 q_hi1 q_slcA q_slcU1 q_slcU2 q_slcT1 q_slcT2 q_slsA q_slsU q_slsT q_apA q_apC q_srcE1 q_srcE2 q_srcE3 q_srcA1 q_srcB q_srcA2 q_srcA3 q_fnA q_nc1 q_nc2 q_bin q_bin2 q_bin3 q_bin4 q_bin5 q_bin6 q_bin7 q_bin8 q_bin9 q_bin10 q_i1 q_i2 q_i3 q_i4 q_i5 q_i6 q_i7 q_i8 q_i9 q_i10 q_i11 q_s1 q_s2 q_s3 q_u1 q_u2 q_min q_max q_ce1 q_ce2 q_ce3 q_ce4 q_ce5 q_ce6 q_ce7 q_ce8 q_ce9 q_ce10 q_ce11 q_on2 q_on3 q_on4 q_on5 q_on6 q_on7 q_on8 q_on9 q_on10 q_on11 q_enr1 q_gEt q_zr0 q_zr1 q_zgs q_zgg q_zk1 q_zk2 q_zd q_zv1 q_zv2 q_zv3 q_zp1 q_zp2 q_zf q_zs1 q_zs2 q_za q_za1 q_fi0 q_fi1 q_ln0 q_ln1 q_h01 q_h02 q_h03 q_h04 q_h05 q_h06 q_h07 q_h08 q_h09 q_h10 q_h11 q_h12 q_h13 q_h14 q_h15 q_h16 q_h17 q_h18 q_h19 q_h20 q_h21 q_h22 q_h23 q_h24 q_al q_b0 q_rs1 q_rs2 q_rs3 q_rs4 q_rs5 q_rs6 q_rs7 q_rs8 q_ro1 q_ro2 q_ro3 q_ro4 q_ro5 q_ro6 q_ro7 q_ro8 cond_true cond_false decide_true decide_false List.length_cons List.length_nil List.nil_append List.cons_append true_and and_true List.toList_toArray Option.map_some Nat.zero_add Nat.add_zero Bool.and_self Bool.and_true Bool.true_and Bool.and_false Bool.false_and Bool.not_true Bool.not_false FitF FitL LendL wb keys nodupB firstOk tupA op_move op_assign op_pick op_un op_box op_nc op_mf op_ex op_min op_max get put del nth evs evp sets setN ones popTo args0 AV.ren AV.renL rho List.take_succ_cons List.take_zero List.drop_succ_cons List.drop_zero Option.isNone_none Option.isNone_some o_al28 o_al30 o_al43 o_al80 o_al84 o_ap22 o_ap41 o_bi120 o_bi22 o_bi3 o_bi4 o_bi68 o_bs22_0 o_bs22_1 o_bs22_3 o_bs41_0 o_bs41_1 o_bu28 o_bu30 o_bu43 o_bu80 o_bu98 o_cn120 o_cn3 o_cv120_3 o_cv3_120 o_fa24_0 o_fa24_1 o_fa26_0 o_fa26_1 o_fa28_0 o_fa28_1 o_fa30_0 o_fa30_1 o_fa38_0 o_fa38_1 o_fa38_2 o_fa43_0 o_fa43_1 o_fa43_2 o_fa80_0 o_fa80_1 o_fa80_2 o_fa98_0 o_fa98_1 o_ia22 o_ia36 o_ia41 o_ia78 o_ia84 o_ib4 o_ip68 o_ld22 o_ld24 o_ld26 o_ld28 o_ld3 o_ld30 o_ld36 o_ld38 o_ld4 o_ld41 o_ld43 o_ld68 o_ld78 o_ld80 o_ld84 o_ln22 o_ln36 o_ln41 o_ln78 o_ln84 o_mk22 o_mk41 o_mk78 o_mk84 o_sl22 o_sl41 o_st22 o_st28 o_st3 o_st30 o_st4 o_st41 o_st43 o_st68 o_st80 o_st84 o_zb22 o_zb36 o_zb41 o_zb78 o_zb84 I tsI slI renL_ints blk_ren en_live en_dead List.set_cons_zero List.set_cons_succ List.map_cons List.map_nil List.append_nil frzF frzS AV.frz AV.frzL frzL_ints ints_all ints_all' ints_take1 ints_mk ints_mk1 mk_length res_ints resOk_ints plain_ints plainA plainL plainE plainS List.all_cons List.all_nil bigO bigT ratO ratT ratsT renL_frs frzL_frs frs_all renL_ptrs frzL_ptrs renL_pcs frzL_pcs ptr matT FitI FitZ keys get put del blksO_length mkR_length mixR_length segO_id segO_id0 segO_length List.append_nil List.nil_append renL_rws frzL_rws renL_rcs frzL_rcs renL_rcx frzL_rcx q_yr0 q_yr1 q_ygs q_ygg q_yk1 q_yk2 q_yd q_yp1 q_yp2 q_ys1 q_ys2 q_ys3 q_ys4 q_cx07 q_cx01 q_cx02 q_cx03 q_cx06 q_cx08 q_cx09 q_cx10 q_cx11 q_cx12 q_cx13 q_cx14 q_cx15 q_cx16 q_cx17 q_cx18 q_cx20 q_cx21 q_cx22 onlyK kept List.elem_cons List.elem_nil Bool.or_false Bool.or_true
/-! ### Grids: closed -/
def flat (L : List (List FR)) : List FR := L.flatten
theorem flat_step {L : List (List FR)} {i : Nat} (h : i < L.length) : flat (L.take (i + 1)) = flat (L.take i) ++ L.getD i [] := by
  unfold flat
  rw [List.take_succ_eq_append_getElem h, List.flatten_append, List.getD_eq_getElem?_getD, List.getElem?_eq_getElem h]
  simp
theorem closed_c (r c : Int) (L : List (List FR)) (hL : L.length ≤ 24) (hlen : ∀ i, i < L.length → (L.getD i []).length ≤ 24) (hrk : ∀ i, i < L.length → ∀ j, j < (L.getD i []).length → (fat (L.getD i []) j).1.2.length ≤ 24 ∧ (fat (L.getD i []) j).2.length ≤ 24) :
    AC Try.prog 75 [gridT r c L] [] (.tup [matO r c 0 (flat L), .v (.bool true)]) (segO 30 (flat L)) := by
  refine AC.intro (fn := Try.f75) (c := ?_) 36 Try.func75 (by rfl) (by kernel_rfl) (by kernel_rfl) (Nat.le_of_ble_eq_true rfl) fun e hP hf hn h0 hE => ?_
  have hte : TEok e.P te := hP ▸ teOk
  have hmx : e.P.follows .mixedOrders = true := hP ▸ mixedOk
  refine Go.run hte hn 100 ?_; simp only [go_sem, Nat.reduceBEq, Nat.reduceLT, Nat.reduceAdd, Nat.reduceMul, Nat.reduceLeDiff, gridT]
  refine Go.virt 30 ?_
  simp only [go_sem, Nat.reduceBEq, Nat.reduceLT, Nat.reduceAdd, Nat.reduceMul, Nat.reduceLeDiff]
  refine Go.nilcell 2 2 3 3 rfl rfl ?_
  simp only [go_sem, Nat.reduceBEq, Nat.reduceLT, Nat.reduceAdd, Nat.reduceMul, Nat.reduceLeDiff]
  refine Go.enterI (fun x : Nat × Sto × Nat × List Nat => x.1 ≤ L.length ∧ Seg x.2.1 x.2.2.1 x.2.2.2 30 (flat (L.take x.1)) ∧ (∀ m ∈ x.2.2.1 :: x.2.2.2, 3 ≤ m) ∧ nth x.2.1 2 = some (.live ⟨43, [I r, I c, .sl x.2.2.1 0 (flat (L.take x.1)).length 3]⟩) ∧ nth x.2.1 1 = some (.live ⟨43, [I 0, I 0, .v (.slice none 0 0)]⟩) ∧ (flat (L.take x.1)).length ≤ x.1 * 24) (fun x => L.length - x.1) (fun x => [(2, .p 1 0), (4, .p 2 0), (15, .ts L.length (rws L)), (16, I L.length), (17, I x.1)]) (fun x => x.2.1) (0, _, 3, []) ⟨Nat.zero_le _, ⟨rfl, rfl, fun j n hn => by simp at hn, by simp⟩, fun m hm => by simp at hm; omega, rfl, rfl, Nat.le_refl _⟩ rfl rfl (by simp [go_sem, tsI, slI, I, renL_ints, blk_ren, en_live, en_dead, ints_length, ints_nil, ints_one]) ?_
  rintro ⟨i, σ, q, ns⟩ ⟨hi, hS, hge, hm2, hm1, hfl⟩
  simp only at hi hS hge hm2 hm1 hfl
  by_cases hlt : i < L.length
  · have dA : decide ((i : Int) < (L.length : Int)) = true := decide_eq_true (by omega)
    have e2 : IntKind.i64.wrap ((i : Int) + 1) = ((i + 1 : Nat) : Int) := by rw [W64] <;> omega
    have c0 : (0 ≤ (i : Int)) = True := eq_true (by omega)
    have c1 : ((i : Int) < (L.length : Int)) = True := eq_true (by omega)
    have c2 : (0 < (rws L).length) = True := eq_true (by rw [rws_length]; omega)
    have hrw := nth_rws hlt
    have hln := hlen i hlt
    have hrk' := hrk i hlt
    have hstep := flat_step hlt
    generalize L.getD i [] = row at hrw hln hrk' hstep
    unfold rwA at hrw
    have CS := stores_c row (by omega) (fun j hj => by have := hrk' j hj; omega) (fun j hj => by
      have := hrk' j hj
      unfold fewB fewL
      rw [if_pos (by omega), if_pos (by omega)]
      exact ⟨rfl, rfl⟩)
    refine Go.run hte hn 100 ?_; simp only [go_sem, Nat.reduceBEq, Nat.reduceLT, Nat.reduceAdd, Nat.reduceMul, Nat.reduceLeDiff, dA, c0, c1, c2, Int.toNat_natCast, Nat.mul_one, hrw]
    refine Go.call0 hP CS rfl rfl rfl (by omega) (by simp [go_sem, tsI, slI, I, renL_ints, blk_ren, en_live, en_dead, ints_length, ints_nil, ints_one]) ?_
    have hS1 := hS.append ((segO 30 row).map (En.ren (rho [] σ.length)))
    have hS2 := (Seg.canon 30 row).shift σ
    have hm2' := nth_app ((segO 30 row).map (En.ren (rho [] σ.length))) hm2
    have hm1' := nth_app ((segO 30 row).map (En.ren (rho [] σ.length))) hm1
    show Go e _ (put 23 (.tup [.sl (σ.length + 0) 0 row.length 3, .v (.bool true)]) _) _
    have hfar : ∀ m ∈ q :: ns, m ∉ (List.range' 1 (2 * row.length)).map (σ.length + ·) := fun m hm hh => by
      have := hS.mem_lt hm
      obtain ⟨j, _, hj⟩ := List.mem_map.1 hh
      omega
    have hge2 : ∀ m ∈ (List.range' 1 (2 * row.length)).map (σ.length + ·), 3 ≤ m := fun m hm => by
      have := nth_lt hm2
      obtain ⟨j, _, hj⟩ := List.mem_map.1 hm
      omega
    generalize σ ++ (segO 30 row).map (En.ren (rho [] σ.length)) = σ1 at hS1 hS2 hm1' hm2' ⊢
    generalize (List.range' 1 (2 * row.length)).map (σ.length + ·) = ms at hS2 hfar hge2 ⊢
    generalize σ.length + 0 = a at hS2 ⊢
    have hr1 := hS1.row
    have hr2 := hS2.row
    have hq2 : q ≠ 2 := fun e => by have := hge q List.mem_cons_self; omega
    refine Go.run hte hn 100 ?_; simp only [go_sem, Nat.reduceBEq, Nat.reduceLT, Nat.reduceAdd, Nat.reduceMul, Nat.reduceLeDiff, hm2', hr1, hr2, List.drop_zero]
    rw [cells_all hS1.len, cells_all hS2.len]
    refine ⟨⟨cellsN_length _ _ hS2.len, ones_cells _ _, by rw [cellsN_length _ _ hS1.len]; omega, by omega, by omega⟩, ?_⟩
    have hC := hS1.concat hS2 hfar
    have hq1 : q ≠ 1 := fun e => by have := hge q List.mem_cons_self; omega
    have h2 := nth_app [.live ⟨30, cellsN (flat (L.take i)) ns ++ cellsN row ms⟩] ((nth_set_ne .dead hq2).trans hm2')
    have h1 := nth_app [.live ⟨30, cellsN (flat (L.take i)) ns ++ cellsN row ms⟩] ((nth_set_ne .dead hq1).trans hm1')
    have hlt2 := nth_lt hm2'
    rw [← hstep] at hC
    have hlen' : (flat (L.take i)).length + row.length = (flat (L.take (i + 1))).length := by rw [hstep, List.length_append]
    generalize setN σ1 q .dead ++ [.live ⟨30, cellsN (flat (L.take i)) ns ++ cellsN row ms⟩] = σ2 at hC h1 h2 ⊢
    have hge3 : ∀ m ∈ σ1.length :: (ns ++ ms), 3 ≤ m := fun m hm => by
      rcases List.mem_cons.1 hm with rfl | hm
      · exact hlt2
      · rcases List.mem_append.1 hm with hm | hm
        · exact hge m (List.mem_cons_of_mem _ hm)
        · exact hge2 m hm
    have h2lt := nth_lt h2
    simp only [go_sem, Nat.reduceBEq, Nat.reduceLT, Nat.reduceAdd, Nat.reduceMul, Nat.reduceLeDiff, h2, e2, hlen']
    refine Go.roundI (i + 1, setN σ2 2 (.live ⟨43, [.v (.int .i64 r), .v (.int .i64 c), .sl σ1.length 0 (flat (L.take (i + 1))).length 3]⟩), σ1.length, ns ++ ms) ⟨hlt, hC.other (fun hm => by have := hge3 _ hm; omega) _, hge3, nth_set _ h2lt, ?_, ?_⟩ (by show L.length - (i + 1) < L.length - i; omega) rfl rfl (by simp [go_sem, tsI, slI, I, renL_ints, blk_ren, en_live, en_dead, ints_length, ints_nil, ints_one])
    · show nth (setN σ2 2 _) 1 = _
      rw [nth_set_ne _ (by omega), h1]
      rfl
    · show (flat (L.take (i + 1))).length ≤ (i + 1) * 24
      rw [← hlen']
      omega
  · have dA : decide ((i : Int) < (L.length : Int)) = false := decide_eq_false (by omega)
    have hil : i = L.length := by omega
    subst hil
    rw [List.take_length] at hS hm2
    refine Go.run hte hn 100 ?_; simp only [go_sem, Nat.reduceBEq, Nat.reduceLT, Nat.reduceAdd, Nat.reduceMul, Nat.reduceLeDiff, dA, hm2, hm1]
    have h1lt := nth_lt hm1
    have hS1 := hS.other (m := 1) (fun hm => by have := hge _ hm; omega) (.live ⟨43, [I r, I c, .sl q 0 (flat L).length 3]⟩)
    refine Go.kill 1 [(2, .tp [I r, I c, .sl q 0 (flat L).length 3] 0), (3, .v (.bool true))] (nth_set _ h1lt) rfl (by simp [go_sem, tsI, slI, I, renL_ints, blk_ren, en_live, en_dead, ints_length, ints_nil, ints_one]) ?_
    have hS2 := hS1.other (m := 1) (fun hm => by have := hge _ hm; omega) .dead
    exact Go.retSeg (q := q) hte hE hf hS2 rfl (by simp [go_sem, tsI, slI, I, renL_ints, blk_ren, en_live, en_dead, ints_length, ints_nil, ints_one, matO, rho]) (by rw [h0]; exact Nat.zero_le _) (fun n hn => by rw [h0] at hn; simp at hn)

end Go.Proofs.Ytbblhgldfcodfaa.Ab
