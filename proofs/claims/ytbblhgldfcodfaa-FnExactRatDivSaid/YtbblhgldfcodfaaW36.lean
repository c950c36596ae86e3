/- Contracts of the given program's functions and of the reference's (walks). -/
import Derived.Test.YtbblhgldfcodfaaAbT
import Derived.Test.YtbblhgldfcodfaaAbP
import Derived.Test.YtbblhgldfcodfaaAbN
import Derived.Test.YtbblhgldfcodfaaAbD
import Derived.Test.YtbblhgldfcodfaaAbK
import Derived.Test.YtbblhgldfcodfaaW1
import Derived.Test.YtbblhgldfcodfaaW2
import Derived.Test.YtbblhgldfcodfaaW3
import Derived.Test.YtbblhgldfcodfaaW4
import Derived.Test.YtbblhgldfcodfaaW5
import Derived.Test.YtbblhgldfcodfaaW6
import Derived.Test.YtbblhgldfcodfaaW7
import Derived.Test.YtbblhgldfcodfaaW9
import Derived.Test.YtbblhgldfcodfaaW10
import Derived.Test.YtbblhgldfcodfaaT1
import Derived.Test.YtbblhgldfcodfaaW11
import Derived.Test.YtbblhgldfcodfaaW12
import Derived.Test.YtbblhgldfcodfaaW13
import Derived.Test.YtbblhgldfcodfaaW21
import Derived.Test.YtbblhgldfcodfaaW22
import Derived.Test.YtbblhgldfcodfaaW24
import Derived.Test.YtbblhgldfcodfaaW25
import Derived.Test.YtbblhgldfcodfaaW26
import Derived.Test.YtbblhgldfcodfaaW27
import Derived.Test.YtbblhgldfcodfaaW28
import Derived.Test.YtbblhgldfcodfaaW30
import Derived.Test.YtbblhgldfcodfaaW31
import Derived.Test.YtbblhgldfcodfaaW32
import Derived.Test.YtbblhgldfcodfaaW33
import Derived.Test.YtbblhgldfcodfaaW34
set_option linter.unusedVariables false
set_option linter.unusedSimpArgs false
set_option maxRecDepth 10000
namespace Go.Proofs.Ytbblhgldfcodfaa.Ab
open Go Go.RowKit
attribute [local go_sem] q_run q_seq q_skip q_block q_exit q_cond q_region q_nil q_op q_blk q_loop q_ret q_open q_inv q_fin q_go q_h0 q_h1 q_gskip q_stepC q_brt q_brf q_stepX q_sskip q_sskip0 q_val q_need q_new q_newc q_sv q_sto q_c1 q_c2 q_c3 q_c4 q_c5 q_c6 q_c7 q_c8 q_c9 q_c10 q_c11 q_c12 q_c13 q_c14 q_c15 q_c16 q_c17 q_c18 q_c19 q_c20 q_c21 q_c22 q_g0 q_g1 q_gC q_gD q_gE q_gB1 q_gB2 q_gB3 q_gB4 q_ev1 q_ev2 q_ev3 q_evo0 q_evo1 q_rv q_rva q_o1 q_o2 q_pk1 q_pk2 q_ld1p q_ld1e q_ld1t q_ldnp q_ldne q_ldnt q_sub0 q_sub1 q_subc q_stS q_stT q_box q_bldr q_bld q_fill0 q_fill1 q_fillB q_bsr q_bsl q_fap q_fat q_iasl q_iats q_lnsl q_lnts q_lnv q_lnS q_exA q_mkB q_lo0 q_lo1 q_hi0 q_hi1 q_slcA q_slcU1 q_slcU2 q_slcT1 q_slcT2 q_slsA q_slsU q_slsT q_apA q_apC q_srcE1 q_srcE2 q_srcE3 q_srcA1 q_srcB q_srcA2 q_srcA3 q_fnA q_nc1 q_nc2 q_bin q_bin2 q_bin3 q_bin4 q_bin5 q_bin6 q_bin7 q_bin8 q_bin9 q_bin10 q_i1 q_i2 q_i3 q_i4 q_i5 q_i6 q_i7 q_i8 q_i9 q_i10 q_i11 q_s1 q_s2 q_s3 q_u1 q_u2 q_min q_max q_ce1 q_ce2 q_ce3 q_ce4 q_ce5 q_ce6 q_ce7 q_ce8 q_ce9 q_ce10 q_ce11 q_on2 q_on3 q_on4 q_on5 q_on6 q_on7 q_on8 q_on9 q_on10 q_on11 q_enr1 q_gEt q_zr0 q_zr1 q_zgs q_zgg q_zk1 q_zk2 q_zd q_zv1 q_zv2 q_zv3 q_zp1 q_zp2 q_zf q_zs1 q_zs2 q_za q_za1 q_fi0 q_fi1 q_ln0 q_ln1 q_h01 q_h02 q_h03 q_h04 q_h05 q_h06 q_h07 q_h08 q_h09 q_h10 q_h11 q_h12 q_h13 q_h14 q_h15 q_h16 q_h17 q_h18 q_h19 q_h20 q_h21 q_h22 q_h23 q_h24 q_al q_b0 q_rs1 q_rs2 q_rs3 q_rs4 q_rs5 q_rs6 q_rs7 q_rs8 q_ro1 q_ro2 q_ro3 q_ro4 q_ro5 q_ro6 q_ro7 q_ro8 cond_true cond_false decide_true decide_false List.length_cons List.length_nil List.nil_append List.cons_append true_and and_true List.toList_toArray Option.map_some Nat.zero_add Nat.add_zero Bool.and_self Bool.and_true Bool.true_and Bool.and_false Bool.false_and Bool.not_true Bool.not_false FitF FitL LendL wb keys nodupB firstOk tupA op_move op_assign op_pick op_un op_box op_nc op_mf op_ex op_min op_max get put del nth evs evp sets setN ones popTo args0 AV.ren AV.renL rho List.take_succ_cons List.take_zero List.drop_succ_cons List.drop_zero Option.isNone_none Option.isNone_some o_al28 o_al30 o_al43 o_al80 o_al84 o_ap22 o_ap41 o_bi120 o_bi22 o_bi3 o_bi4 o_bi68 o_bs22_0 o_bs22_1 o_bs22_3 o_bs41_0 o_bs41_1 o_bu28 o_bu30 o_bu43 o_bu80 o_bu98 o_cn120 o_cn3 o_cv120_3 o_cv3_120 o_fa24_0 o_fa24_1 o_fa26_0 o_fa26_1 o_fa28_0 o_fa28_1 o_fa30_0 o_fa30_1 o_fa38_0 o_fa38_1 o_fa38_2 o_fa43_0 o_fa43_1 o_fa43_2 o_fa80_0 o_fa80_1 o_fa80_2 o_fa98_0 o_fa98_1 o_ia22 o_ia36 o_ia41 o_ia78 o_ia84 o_ib4 o_ip68 o_ld22 o_ld24 o_ld26 o_ld28 o_ld3 o_ld30 o_ld36 o_ld38 o_ld4 o_ld41 o_ld43 o_ld68 o_ld78 o_ld80 o_ld84 o_ln22 o_ln36 o_ln41 o_ln78 o_ln84 o_mk22 o_mk41 o_mk78 o_mk84 o_sl22 o_sl41 o_st22 o_st28 o_st3 o_st30 o_st4 o_st41 o_st43 o_st68 o_st80 o_st84 o_zb22 o_zb36 o_zb41 o_zb78 o_zb84 I tsI slI renL_ints blk_ren en_live en_dead List.set_cons_zero List.set_cons_succ List.map_cons List.map_nil List.append_nil frzF frzS AV.frz AV.frzL frzL_ints ints_all ints_all' ints_take1 ints_mk ints_mk1 mk_length res_ints resOk_ints plain_ints plainA plainL plainE plainS List.all_cons List.all_nil bigO bigT ratO ratT
/-! ### Products and quotients of fractions -/
theorem sg_low (n : Bool) (A g : Nat) : ((n && decide (0 < (dg A).length)) && decide (0 < (dg (A / g)).length)) = (n && decide (0 < (dg (A / g)).length)) := by
  by_cases h : 0 < (dg A).length
  · rw [decide_eq_true h, Bool.and_true]
  · have h0 : A = 0 := dg_nil (List.length_eq_zero_iff.mp (by omega))
    subst h0
    simp [dg_zero]
theorem btimes_c (s t : Bool) (a b : List Int) (Da : Dig a) (Db : Dig b) (la : a.length ≤ 100) (lb : b.length ≤ 100) : AC Try.prog 104 [bigT s a, bigT t b] [] (bigT (!(s == t) && decide (0 < (dg (val a * val b)).length)) (dg (val a * val b))) [] := by
  refine AC.intro (fn := Try.f104) (c := ?_) 16 Try.func104 (by rfl) (by kernel_rfl) (by kernel_rfl) (Nat.le_of_ble_eq_true rfl) fun e hP hf hn h0 hE => ?_
  have hte : TEok e.P te := hP ▸ teOk
  have hmx : e.P.follows .mixedOrders = true := hP ▸ mixedOk
  refine Go.run hte hn 100 ?_; simp only [go_sem, Nat.reduceBEq, Nat.reduceLT, Nat.reduceAdd, Nat.reduceMul, Nat.reduceLeDiff]
  refine Go.freeze (nm := 0) rfl ?_; simp only [go_sem, Nat.reduceBEq, Nat.reduceLT, Nat.reduceAdd, Nat.reduceMul, Nat.reduceLeDiff]
  refine Go.freeze (nm := 1) rfl ?_; simp only [go_sem, Nat.reduceBEq, Nat.reduceLT, Nat.reduceAdd, Nat.reduceMul, Nat.reduceLeDiff]
  refine Go.openK 10 [] hte hn hmx (by kernel_rfl) ?_
  simp only [go_sem, Nat.reduceBEq, Nat.reduceLT, Nat.reduceAdd, Nat.reduceMul, Nat.reduceLeDiff]
  refine ZC.call0 hP (timesF_c a b Da Db (by omega) (by omega)) rfl rfl rfl (by omega) (by simp [go_sem, tsI, slI, I, renL_ints, blk_ren, en_live, en_dead, ints_length, ints_nil, ints_one]) rfl (by first | trivial | (show _ < _; simp)) ?_
  refine Go.run hte hn 100 ?_; simp only [go_sem, Nat.reduceBEq, Nat.reduceLT, Nat.reduceAdd, Nat.reduceMul, Nat.reduceLeDiff]
  refine Go.call0 hP (signed_c (!(s == t)) (dg (val a * val b))) rfl rfl rfl (by omega) (by simp [go_sem, tsI, slI, I, renL_ints, blk_ren, en_live, en_dead, ints_length, ints_nil, ints_one]) ?_
  refine Go.run hte hn 100 ?_; simp only [go_sem, Nat.reduceBEq, Nat.reduceLT, Nat.reduceAdd, Nat.reduceMul, Nat.reduceLeDiff]
  refine Go.retG hte hE hf [] rfl (by simp [go_sem, tsI, slI, I, renL_ints, blk_ren, en_live, en_dead, ints_length, ints_nil, ints_one]) rfl (by rw [h0]; rfl) trivial
theorem fitR_ok_c (s : Bool) (A B : Nat) (h : lwOk A B = true) : AC Try.prog 86 [ratP (s && decide (0 < (dg (A / Nat.gcd A B)).length)) (dg (A / Nat.gcd A B)) (dg (B / Nat.gcd A B))] [] (ratP (lwB s A B) (lwN A B) (lwD A B)) [] := by
  have h' := h
  unfold lwOk at h'
  simp only [Bool.and_eq_true, decide_eq_true_eq] at h'
  unfold lwB lwN lwD
  rw [h, Bool.true_and, if_pos rfl, if_pos rfl]
  exact fit_ok_c _ _ _ h'.2.1 h'.2.2
theorem fitR_no_c (s : Bool) (A B : Nat) (hB : B ≠ 0) (hal : (dg A).length ≤ 200) (hbl : (dg B).length ≤ 200) (h : lwOk A B = false) : AC Try.prog 86 [ratP (s && decide (0 < (dg (A / Nat.gcd A B)).length)) (dg (A / Nat.gcd A B)) (dg (B / Nat.gcd A B))] [] (.v (.pointer none)) [] := by
  refine fit_no_c _ _ _ (by have := dg_len_mono (Nat.div_le_self A (Nat.gcd A B)); omega) (by have := dg_len_mono (Nat.div_le_self B (Nat.gcd A B)); omega) (fun hh => ?_)
  unfold lwOk at h
  rw [decide_eq_true hB, decide_eq_true hh.1, decide_eq_true hh.2] at h
  simp at h
theorem rok_d0 {s : Bool} {a d : List Int} (h : rok s a d = true) : val d ≠ 0 := by
  obtain ⟨_, r2, r3, _⟩ := rok_iff.mp h
  exact nok_val r2 r3
theorem times_r_c (s : Bool) (a d : List Int) (t : Bool) (b f : List Int) (h : rok s a d = true) (k : rok t b f = true) : AC Try.prog 87 [ratP s a d, ratP t b f] [] (ratP (!(s == t) && decide (0 < (dg (val a * val b / Nat.gcd (val a * val b) (val d * val f))).length)) (dg (val a * val b / Nat.gcd (val a * val b) (val d * val f))) (dg (val d * val f / Nat.gcd (val a * val b) (val d * val f)))) [] := by
  refine AC.intro (fn := Try.f87) (c := ?_) 24 Try.func87 (by rfl) (by kernel_rfl) (by kernel_rfl) (Nat.le_of_ble_eq_true rfl) fun e hP hf hn h0 hE => ?_
  have hte : TEok e.P te := hP ▸ teOk
  have hmx : e.P.follows .mixedOrders = true := hP ▸ mixedOk
  obtain ⟨r1, r2, r3, r4, r5, r6⟩ := rok_iff.mp h
  obtain ⟨q1, q2, q3, q4, q5, q6⟩ := rok_iff.mp k
  have Da := nok_Dig (bok_nok' r1)
  have Db := nok_Dig (bok_nok' q1)
  have Dd := nok_Dig r2
  have Df := nok_Dig q2
  have l1 := mul_len2 Da Db r4 q4
  have l2 := mul_len2 Dd Df r5 q5
  have C := lowest_c (!(s == t) && decide (0 < (dg (val a * val b)).length)) (val a * val b) (val d * val f) (Nat.mul_ne_zero (rok_d0 h) (rok_d0 k)) (by omega) (by omega)
  rw [sg_low] at C
  refine Go.run hte hn 100 ?_; simp only [go_sem, Nat.reduceBEq, Nat.reduceLT, Nat.reduceAdd, Nat.reduceMul, Nat.reduceLeDiff, ratP]
  refine Go.openK 17 [] hte hn hmx (by kernel_rfl) ?_
  simp only [go_sem, Nat.reduceBEq, Nat.reduceLT, Nat.reduceAdd, Nat.reduceMul, Nat.reduceLeDiff]
  refine ZC.call0 hP (btimes_c s t a b Da Db (by omega) (by omega)) rfl rfl rfl (by omega) (by simp [go_sem, tsI, slI, I, renL_ints, blk_ren, en_live, en_dead, ints_length, ints_nil, ints_one]) rfl (by first | trivial | (show _ < _; simp)) ?_
  refine Go.run hte hn 100 ?_; simp only [go_sem, Nat.reduceBEq, Nat.reduceLT, Nat.reduceAdd, Nat.reduceMul, Nat.reduceLeDiff]
  refine Go.call0 hP (timesF_c d f Dd Df (by omega) (by omega)) rfl rfl rfl (by omega) (by simp [go_sem, tsI, slI, I, renL_ints, blk_ren, en_live, en_dead, ints_length, ints_nil, ints_one]) ?_
  refine Go.run hte hn 100 ?_; simp only [go_sem, Nat.reduceBEq, Nat.reduceLT, Nat.reduceAdd, Nat.reduceMul, Nat.reduceLeDiff]
  refine Go.call0 hP (C) rfl rfl rfl (by omega) (by simp [go_sem, tsI, slI, I, renL_ints, blk_ren, en_live, en_dead, ints_length, ints_nil, ints_one]) ?_
  refine Go.run hte hn 100 ?_; simp only [go_sem, Nat.reduceBEq, Nat.reduceLT, Nat.reduceAdd, Nat.reduceMul, Nat.reduceLeDiff, ratP]
  refine Go.retG hte hE hf [] rfl (by simp [go_sem, tsI, slI, I, renL_ints, blk_ren, en_live, en_dead, ints_length, ints_nil, ints_one, ratP]) rfl (by rw [h0]; rfl) trivial
theorem by_r_c (s : Bool) (a d : List Int) (t : Bool) (b f : List Int) (h : rok s a d = true) (k : rok t b f = true) (hb : 0 < b.length) : AC Try.prog 93 [ratP s a d, ratP t b f] [] (ratP (!(s == t) && decide (0 < (dg (val a * val f / Nat.gcd (val a * val f) (val d * val b))).length)) (dg (val a * val f / Nat.gcd (val a * val f) (val d * val b))) (dg (val d * val b / Nat.gcd (val a * val f) (val d * val b)))) [] := by
  refine AC.intro (fn := Try.f93) (c := ?_) 38 Try.func93 (by rfl) (by kernel_rfl) (by kernel_rfl) (Nat.le_of_ble_eq_true rfl) fun e hP hf hn h0 hE => ?_
  have hte : TEok e.P te := hP ▸ teOk
  have hmx : e.P.follows .mixedOrders = true := hP ▸ mixedOk
  obtain ⟨r1, r2, r3, r4, r5, r6⟩ := rok_iff.mp h
  obtain ⟨q1, q2, q3, q4, q5, q6⟩ := rok_iff.mp k
  have Da := nok_Dig (bok_nok' r1)
  have Db := nok_Dig (bok_nok' q1)
  have Dd := nok_Dig r2
  have Df := nok_Dig q2
  have l1 := mul_len2 Da Df r4 q5
  have l2 := mul_len2 Dd Db r5 q4
  have C := lowest_c (!(s == t) && decide (0 < (dg (val a * val f)).length)) (val a * val f) (val d * val b) (Nat.mul_ne_zero (rok_d0 h) (nok_val (bok_nok' q1) hb)) (by omega) (by omega)
  rw [sg_low] at C
  refine Go.run hte hn 100 ?_; simp only [go_sem, Nat.reduceBEq, Nat.reduceLT, Nat.reduceAdd, Nat.reduceMul, Nat.reduceLeDiff, ratP]
  refine Go.openK 31 [] hte hn hmx (by kernel_rfl) ?_
  simp only [go_sem, Nat.reduceBEq, Nat.reduceLT, Nat.reduceAdd, Nat.reduceMul, Nat.reduceLeDiff]
  refine ZC.call0 hP (timesF_c a f Da Df (by omega) (by omega)) rfl rfl rfl (by omega) (by simp [go_sem, tsI, slI, I, renL_ints, blk_ren, en_live, en_dead, ints_length, ints_nil, ints_one]) rfl (by first | trivial | (show _ < _; simp)) ?_
  simp only [go_sem, Nat.reduceBEq, Nat.reduceLT, Nat.reduceAdd, Nat.reduceMul, Nat.reduceLeDiff]
  refine ZC.call0 hP (signed_c (!(s == t)) (dg (val a * val f))) rfl rfl rfl (by omega) (by simp [go_sem, tsI, slI, I, renL_ints, blk_ren, en_live, en_dead, ints_length, ints_nil, ints_one]) rfl (by first | trivial | (show _ < _; simp)) ?_
  simp only [go_sem, Nat.reduceBEq, Nat.reduceLT, Nat.reduceAdd, Nat.reduceMul, Nat.reduceLeDiff]
  refine Go.run hte hn 100 ?_; simp only [go_sem, Nat.reduceBEq, Nat.reduceLT, Nat.reduceAdd, Nat.reduceMul, Nat.reduceLeDiff]
  refine Go.call0 hP (timesF_c d b Dd Db (by omega) (by omega)) rfl rfl rfl (by omega) (by simp [go_sem, tsI, slI, I, renL_ints, blk_ren, en_live, en_dead, ints_length, ints_nil, ints_one]) ?_
  refine Go.run hte hn 100 ?_; simp only [go_sem, Nat.reduceBEq, Nat.reduceLT, Nat.reduceAdd, Nat.reduceMul, Nat.reduceLeDiff]
  refine Go.call0 hP (C) rfl rfl rfl (by omega) (by simp [go_sem, tsI, slI, I, renL_ints, blk_ren, en_live, en_dead, ints_length, ints_nil, ints_one]) ?_
  refine Go.run hte hn 100 ?_; simp only [go_sem, Nat.reduceBEq, Nat.reduceLT, Nat.reduceAdd, Nat.reduceMul, Nat.reduceLeDiff, ratP]
  refine Go.retG hte hE hf [] rfl (by simp [go_sem, tsI, slI, I, renL_ints, blk_ren, en_live, en_dead, ints_length, ints_nil, ints_one, ratP]) rfl (by rw [h0]; rfl) trivial
def muB (s : Bool) (a d : List Int) (t : Bool) (b f : List Int) : Bool := (rok s a d && rok t b f) && lwB (!(s == t)) (val a * val b) (val d * val f)
def muN (s : Bool) (a d : List Int) (t : Bool) (b f : List Int) : List Int := if (rok s a d && rok t b f) = true then lwN (val a * val b) (val d * val f) else []
def muD (s : Bool) (a d : List Int) (t : Bool) (b f : List Int) : List Int := if (rok s a d && rok t b f) = true then lwD (val a * val b) (val d * val f) else []
theorem muN_le (s : Bool) (a d : List Int) (t : Bool) (b f : List Int) : (muN s a d t b f).length ≤ 24 := by
  unfold muN
  split
  · exact lwN_le _ _
  · simp
theorem muD_le (s : Bool) (a d : List Int) (t : Bool) (b f : List Int) : (muD s a d t b f).length ≤ 24 := by
  unfold muD
  split
  · exact lwD_le _ _
  · simp
theorem l04Mul_c (s : Bool) (a d : List Int) (t : Bool) (b f : List Int) (h : rok s a d = true) (k : rok t b f = true) : AC Try.prog 49 [ratT s a d, ratT t b f] [] (ratO (lwB (!(s == t)) (val a * val b) (val d * val f)) 0 1 (lwN (val a * val b) (val d * val f)) (lwD (val a * val b) (val d * val f))) [.live ⟨3, ints (lwN (val a * val b) (val d * val f))⟩, .live ⟨3, ints (lwD (val a * val b) (val d * val f))⟩] := by
  refine AC.intro (fn := Try.f49) (c := ?_) 25 Try.func49 (by rfl) (by kernel_rfl) (by kernel_rfl) (Nat.le_of_ble_eq_true rfl) fun e hP hf hn h0 hE => ?_
  have hte : TEok e.P te := hP ▸ teOk
  have hmx : e.P.follows .mixedOrders = true := hP ▸ mixedOk
  obtain ⟨r1, r2, r3, r4, r5, r6⟩ := rok_iff.mp h
  obtain ⟨q1, q2, q3, q4, q5, q6⟩ := rok_iff.mp k
  have Da := nok_Dig (bok_nok' r1)
  have Db := nok_Dig (bok_nok' q1)
  have Dd := nok_Dig r2
  have Df := nok_Dig q2
  have l1 := mul_len2 Da Db r4 q4
  have l2 := mul_len2 Dd Df r5 q5
  refine Go.run hte hn 100 ?_; simp only [go_sem, Nat.reduceBEq, Nat.reduceLT, Nat.reduceAdd, Nat.reduceMul, Nat.reduceLeDiff]
  refine Go.freeze (nm := 0) rfl ?_; simp only [go_sem, Nat.reduceBEq, Nat.reduceLT, Nat.reduceAdd, Nat.reduceMul, Nat.reduceLeDiff]
  refine Go.freeze (nm := 1) rfl ?_; simp only [go_sem, Nat.reduceBEq, Nat.reduceLT, Nat.reduceAdd, Nat.reduceMul, Nat.reduceLeDiff]
  refine Go.openK 19 [] hte hn hmx (by kernel_rfl) ?_
  simp only [go_sem, Nat.reduceBEq, Nat.reduceLT, Nat.reduceAdd, Nat.reduceMul, Nat.reduceLeDiff]
  refine ZC.call0 hP (l02Mul_c a b Da Db (by omega) (by omega)) rfl rfl rfl (by omega) (by simp [go_sem, tsI, slI, I, renL_ints, blk_ren, en_live, en_dead, ints_length, ints_nil, ints_one]) rfl (by first | trivial | (show _ < _; simp)) ?_
  simp only [go_sem, Nat.reduceBEq, Nat.reduceLT, Nat.reduceAdd, Nat.reduceMul, Nat.reduceLeDiff]
  refine ZC.call0 hP (l02Mul_c d f Dd Df (by omega) (by omega)) rfl rfl rfl (by omega) (by simp [go_sem, tsI, slI, I, renL_ints, blk_ren, en_live, en_dead, ints_length, ints_nil, ints_one]) rfl (by first | trivial | (show _ < _; simp)) ?_
  refine Go.run hte hn 100 ?_; simp only [go_sem, Nat.reduceBEq, Nat.reduceLT, Nat.reduceAdd, Nat.reduceMul, Nat.reduceLeDiff]
  refine Go.call0 hP (l04Low_c (!(s == t)) (val a * val b) (val d * val f) (by omega) (by omega)) rfl rfl rfl (by omega) (by simp [go_sem, tsI, slI, I, renL_ints, blk_ren, en_live, en_dead, ints_length, ints_nil, ints_one]) ?_
  refine Go.run hte hn 100 ?_; simp only [go_sem, Nat.reduceBEq, Nat.reduceLT, Nat.reduceAdd, Nat.reduceMul, Nat.reduceLeDiff]
  refine Go.retG hte hE hf [3, 4] rfl (by simp [go_sem, tsI, slI, I, renL_ints, blk_ren, en_live, en_dead, ints_length, ints_nil, ints_one]) rfl (by rw [h0]; rfl) (by simp [go_sem, tsI, slI, I, renL_ints, blk_ren, en_live, en_dead, ints_length, ints_nil, ints_one])
theorem spec_RatMul_c (s : Bool) (a d : List Int) (t : Bool) (b f : List Int) (ha : a.length ≤ 1152921504606846976) (hd : d.length ≤ 1152921504606846976) (hb : b.length ≤ 1152921504606846976) (hf' : f.length ≤ 1152921504606846976) : AC Try.prog 13 [ratT s a d, ratT t b f] [] (ratO (muB s a d t b f) 0 1 (muN s a d t b f) (muD s a d t b f)) [.live ⟨3, ints (muN s a d t b f)⟩, .live ⟨3, ints (muD s a d t b f)⟩] := by
  refine AC.intro (fn := Try.f13) (c := ?_) 17 Try.func13 (by rfl) (by kernel_rfl) (by kernel_rfl) (Nat.le_of_ble_eq_true rfl) fun e hP hf hn h0 hE => ?_
  have hte : TEok e.P te := hP ▸ teOk
  have hmx : e.P.follows .mixedOrders = true := hP ▸ mixedOk
  unfold muB muN muD at hE
  have C1 := spec_RatOk_c s a d ha hd
  have C2 := spec_RatOk_c t b f hb hf'
  cases h : rok s a d
  · rw [h] at C1
    rw [h, Bool.false_and, Bool.false_and, if_neg (by simp), if_neg (by simp)] at hE
    refine Go.run hte hn 100 ?_; simp only [go_sem, Nat.reduceBEq, Nat.reduceLT, Nat.reduceAdd, Nat.reduceMul, Nat.reduceLeDiff]
    refine Go.call0 hP (C1) rfl rfl rfl (by omega) (by simp [go_sem, tsI, slI, I, renL_ints, blk_ren, en_live, en_dead, ints_length, ints_nil, ints_one]) ?_
    refine Go.run hte hn 100 ?_; simp only [go_sem, Nat.reduceBEq, Nat.reduceLT, Nat.reduceAdd, Nat.reduceMul, Nat.reduceLeDiff]
    refine Go.virt 3 ?_
    refine Go.nilcell 2 1 3 1 rfl rfl ?_
    refine Go.virt 3 ?_
    refine Go.nilcell 2 2 4 1 rfl rfl ?_
    simp only [go_sem, Nat.reduceBEq, Nat.reduceLT, Nat.reduceAdd, Nat.reduceMul, Nat.reduceLeDiff]
    refine Go.retG hte hE hf [3, 4] rfl (by simp [go_sem, tsI, slI, I, renL_ints, blk_ren, en_live, en_dead, ints_length, ints_nil, ints_one]) rfl (by rw [h0]; rfl) (by simp [go_sem, tsI, slI, I, renL_ints, blk_ren, en_live, en_dead, ints_length, ints_nil, ints_one])
  · rw [h] at C1
    cases k : rok t b f
    · rw [k] at C2
      rw [k, Bool.and_false, Bool.false_and, if_neg (by simp), if_neg (by simp)] at hE
      refine Go.run hte hn 100 ?_; simp only [go_sem, Nat.reduceBEq, Nat.reduceLT, Nat.reduceAdd, Nat.reduceMul, Nat.reduceLeDiff]
      refine Go.call0 hP (C1) rfl rfl rfl (by omega) (by simp [go_sem, tsI, slI, I, renL_ints, blk_ren, en_live, en_dead, ints_length, ints_nil, ints_one]) ?_
      refine Go.run hte hn 100 ?_; simp only [go_sem, Nat.reduceBEq, Nat.reduceLT, Nat.reduceAdd, Nat.reduceMul, Nat.reduceLeDiff]
      refine Go.call0 hP (C2) rfl rfl rfl (by omega) (by simp [go_sem, tsI, slI, I, renL_ints, blk_ren, en_live, en_dead, ints_length, ints_nil, ints_one]) ?_
      refine Go.run hte hn 100 ?_; simp only [go_sem, Nat.reduceBEq, Nat.reduceLT, Nat.reduceAdd, Nat.reduceMul, Nat.reduceLeDiff]
      refine Go.virt 3 ?_
      refine Go.nilcell 2 1 3 1 rfl rfl ?_
      refine Go.virt 3 ?_
      refine Go.nilcell 2 2 4 1 rfl rfl ?_
      simp only [go_sem, Nat.reduceBEq, Nat.reduceLT, Nat.reduceAdd, Nat.reduceMul, Nat.reduceLeDiff]
      refine Go.retG hte hE hf [3, 4] rfl (by simp [go_sem, tsI, slI, I, renL_ints, blk_ren, en_live, en_dead, ints_length, ints_nil, ints_one]) rfl (by rw [h0]; rfl) (by simp [go_sem, tsI, slI, I, renL_ints, blk_ren, en_live, en_dead, ints_length, ints_nil, ints_one])
    · rw [k] at C2
      rw [h, k, Bool.and_self, Bool.true_and, if_pos rfl, if_pos rfl] at hE
      obtain ⟨r1, r2, r3, r4, r5, r6⟩ := rok_iff.mp h
      obtain ⟨q1, q2, q3, q4, q5, q6⟩ := rok_iff.mp k
      have Da := nok_Dig (bok_nok' r1)
      have Db := nok_Dig (bok_nok' q1)
      have Dd := nok_Dig r2
      have Df := nok_Dig q2
      refine Go.run hte hn 100 ?_; simp only [go_sem, Nat.reduceBEq, Nat.reduceLT, Nat.reduceAdd, Nat.reduceMul, Nat.reduceLeDiff]
      refine Go.call0 hP (C1) rfl rfl rfl (by omega) (by simp [go_sem, tsI, slI, I, renL_ints, blk_ren, en_live, en_dead, ints_length, ints_nil, ints_one]) ?_
      refine Go.run hte hn 100 ?_; simp only [go_sem, Nat.reduceBEq, Nat.reduceLT, Nat.reduceAdd, Nat.reduceMul, Nat.reduceLeDiff]
      refine Go.call0 hP (C2) rfl rfl rfl (by omega) (by simp [go_sem, tsI, slI, I, renL_ints, blk_ren, en_live, en_dead, ints_length, ints_nil, ints_one]) ?_
      refine Go.run hte hn 100 ?_; simp only [go_sem, Nat.reduceBEq, Nat.reduceLT, Nat.reduceAdd, Nat.reduceMul, Nat.reduceLeDiff]
      refine Go.call0 hP (l04Mul_c s a d t b f h k) rfl rfl rfl (by omega) (by simp [go_sem, tsI, slI, I, renL_ints, blk_ren, en_live, en_dead, ints_length, ints_nil, ints_one]) ?_
      refine Go.run hte hn 100 ?_; simp only [go_sem, Nat.reduceBEq, Nat.reduceLT, Nat.reduceAdd, Nat.reduceMul, Nat.reduceLeDiff]
      refine Go.retG hte hE hf [3, 4] rfl (by simp [go_sem, tsI, slI, I, renL_ints, blk_ren, en_live, en_dead, ints_length, ints_nil, ints_one]) rfl (by rw [h0]; rfl) (by simp [go_sem, tsI, slI, I, renL_ints, blk_ren, en_live, en_dead, ints_length, ints_nil, ints_one])
theorem mul_ok_c (s : Bool) (a d : List Int) (t : Bool) (b f : List Int) (h : rok s a d = true) (k : rok t b f = true) (hok : lwOk (val a * val b) (val d * val f) = true) : AC Try.prog 52 [ratP s a d, ratP t b f] [] (ratP (lwB (!(s == t)) (val a * val b) (val d * val f)) (lwN (val a * val b) (val d * val f)) (lwD (val a * val b) (val d * val f))) [] := by
  refine AC.intro (fn := Try.f52) (c := ?_) 15 Try.func52 (by rfl) (by kernel_rfl) (by kernel_rfl) (Nat.le_of_ble_eq_true rfl) fun e hP hf hn h0 hE => ?_
  have hte : TEok e.P te := hP ▸ teOk
  have hmx : e.P.follows .mixedOrders = true := hP ▸ mixedOk
  refine Go.run hte hn 100 ?_; simp only [go_sem, Nat.reduceBEq, Nat.reduceLT, Nat.reduceAdd, Nat.reduceMul, Nat.reduceLeDiff, ratP]
  refine Go.call0 hP (by have := times_r_c s a d t b f h k; unfold ratP at this; exact this) rfl rfl rfl (by omega) (by simp [go_sem, tsI, slI, I, renL_ints, blk_ren, en_live, en_dead, ints_length, ints_nil, ints_one]) ?_
  refine Go.run hte hn 100 ?_; simp only [go_sem, Nat.reduceBEq, Nat.reduceLT, Nat.reduceAdd, Nat.reduceMul, Nat.reduceLeDiff]
  refine Go.call0 hP (by have := fitR_ok_c (!(s == t)) (val a * val b) (val d * val f) hok; unfold ratP at this; exact this) rfl rfl rfl (by omega) (by simp [go_sem, tsI, slI, I, renL_ints, blk_ren, en_live, en_dead, ints_length, ints_nil, ints_one]) ?_
  refine Go.run hte hn 100 ?_; simp only [go_sem, Nat.reduceBEq, Nat.reduceLT, Nat.reduceAdd, Nat.reduceMul, Nat.reduceLeDiff]
  refine Go.retG hte hE hf [] rfl (by simp [go_sem, tsI, slI, I, renL_ints, blk_ren, en_live, en_dead, ints_length, ints_nil, ints_one, ratP]) rfl (by rw [h0]; rfl) trivial
theorem mul_lno_c (s : Bool) (a d : List Int) (t : Bool) (b f : List Int) (h : rok s a d = true) (k : rok t b f = true) (hok : lwOk (val a * val b) (val d * val f) = false) : AC Try.prog 52 [ratP s a d, ratP t b f] [] (.v (.pointer none)) [] := by
  refine AC.intro (fn := Try.f52) (c := ?_) 15 Try.func52 (by rfl) (by kernel_rfl) (by kernel_rfl) (Nat.le_of_ble_eq_true rfl) fun e hP hf hn h0 hE => ?_
  have hte : TEok e.P te := hP ▸ teOk
  have hmx : e.P.follows .mixedOrders = true := hP ▸ mixedOk
  obtain ⟨r1, r2, r3, r4, r5, r6⟩ := rok_iff.mp h
  obtain ⟨q1, q2, q3, q4, q5, q6⟩ := rok_iff.mp k
  have l1 := mul_len2 (nok_Dig (bok_nok' r1)) (nok_Dig (bok_nok' q1)) r4 q4
  have l2 := mul_len2 (nok_Dig r2) (nok_Dig q2) r5 q5
  refine Go.run hte hn 100 ?_; simp only [go_sem, Nat.reduceBEq, Nat.reduceLT, Nat.reduceAdd, Nat.reduceMul, Nat.reduceLeDiff, ratP]
  refine Go.call0 hP (by have := times_r_c s a d t b f h k; unfold ratP at this; exact this) rfl rfl rfl (by omega) (by simp [go_sem, tsI, slI, I, renL_ints, blk_ren, en_live, en_dead, ints_length, ints_nil, ints_one]) ?_
  refine Go.run hte hn 100 ?_; simp only [go_sem, Nat.reduceBEq, Nat.reduceLT, Nat.reduceAdd, Nat.reduceMul, Nat.reduceLeDiff]
  refine Go.call0 hP (by have := fitR_no_c (!(s == t)) (val a * val b) (val d * val f) (Nat.mul_ne_zero (rok_d0 h) (rok_d0 k)) (by omega) (by omega) hok; unfold ratP at this; exact this) rfl rfl rfl (by omega) (by simp [go_sem, tsI, slI, I, renL_ints, blk_ren, en_live, en_dead, ints_length, ints_nil, ints_one]) ?_
  refine Go.run hte hn 100 ?_; simp only [go_sem, Nat.reduceBEq, Nat.reduceLT, Nat.reduceAdd, Nat.reduceMul, Nat.reduceLeDiff]
  refine Go.retG hte hE hf [] rfl (by simp [go_sem, tsI, slI, I, renL_ints, blk_ren, en_live, en_dead, ints_length, ints_nil, ints_one]) rfl (by rw [h0]; rfl) trivial
theorem mul_no1_c (y : AV) (hy : y = .v (.pointer none) ∨ ∃ t b f, y = ratP t b f) : AC Try.prog 52 [.v (.pointer none), y] [] (.v (.pointer none)) [] := by
  refine AC.intro (fn := Try.f52) (c := ?_) 15 Try.func52 (by rfl) (by kernel_rfl) (by kernel_rfl) (Nat.le_of_ble_eq_true rfl) fun e hP hf hn h0 hE => ?_
  have hte : TEok e.P te := hP ▸ teOk
  have hmx : e.P.follows .mixedOrders = true := hP ▸ mixedOk
  rcases hy with rfl | ⟨t, b, f, rfl⟩
  · refine Go.run hte hn 100 ?_; simp only [go_sem, Nat.reduceBEq, Nat.reduceLT, Nat.reduceAdd, Nat.reduceMul, Nat.reduceLeDiff]
    refine Go.retG hte hE hf [] rfl (by simp [go_sem, tsI, slI, I, renL_ints, blk_ren, en_live, en_dead, ints_length, ints_nil, ints_one]) rfl (by rw [h0]; rfl) trivial
  · refine Go.run hte hn 100 ?_; simp only [go_sem, Nat.reduceBEq, Nat.reduceLT, Nat.reduceAdd, Nat.reduceMul, Nat.reduceLeDiff, ratP]
    refine Go.retG hte hE hf [] rfl (by simp [go_sem, tsI, slI, I, renL_ints, blk_ren, en_live, en_dead, ints_length, ints_nil, ints_one]) rfl (by rw [h0]; rfl) trivial
theorem mul_no2_c (s : Bool) (a d : List Int) : AC Try.prog 52 [ratP s a d, .v (.pointer none)] [] (.v (.pointer none)) [] := by
  refine AC.intro (fn := Try.f52) (c := ?_) 15 Try.func52 (by rfl) (by kernel_rfl) (by kernel_rfl) (Nat.le_of_ble_eq_true rfl) fun e hP hf hn h0 hE => ?_
  have hte : TEok e.P te := hP ▸ teOk
  have hmx : e.P.follows .mixedOrders = true := hP ▸ mixedOk
  refine Go.run hte hn 100 ?_; simp only [go_sem, Nat.reduceBEq, Nat.reduceLT, Nat.reduceAdd, Nat.reduceMul, Nat.reduceLeDiff, ratP]
  refine Go.retG hte hE hf [] rfl (by simp [go_sem, tsI, slI, I, renL_ints, blk_ren, en_live, en_dead, ints_length, ints_nil, ints_one]) rfl (by rw [h0]; rfl) trivial
theorem impl_RatMul_c (s : Bool) (a d : List Int) (t : Bool) (b f : List Int) (ha : a.length ≤ 1152921504606846976) (hd : d.length ≤ 1152921504606846976) (hb : b.length ≤ 1152921504606846976) (hf' : f.length ≤ 1152921504606846976) : AC Try.prog 15 [ratT s a d, ratT t b f] [] (ratO (muB s a d t b f) 0 1 (muN s a d t b f) (muD s a d t b f)) [.live ⟨3, ints (muN s a d t b f)⟩, .live ⟨3, ints (muD s a d t b f)⟩] := by
  refine AC.intro (fn := Try.f15) (c := ?_) 11 Try.func15 (by rfl) (by kernel_rfl) (by kernel_rfl) (Nat.le_of_ble_eq_true rfl) fun e hP hf hn h0 hE => ?_
  have hte : TEok e.P te := hP ▸ teOk
  have hmx : e.P.follows .mixedOrders = true := hP ▸ mixedOk
  unfold muB muN muD at hE
  refine Go.run hte hn 100 ?_; simp only [go_sem, Nat.reduceBEq, Nat.reduceLT, Nat.reduceAdd, Nat.reduceMul, Nat.reduceLeDiff]
  refine Go.freeze (nm := 0) rfl ?_; simp only [go_sem, Nat.reduceBEq, Nat.reduceLT, Nat.reduceAdd, Nat.reduceMul, Nat.reduceLeDiff]
  refine Go.freeze (nm := 1) rfl ?_; simp only [go_sem, Nat.reduceBEq, Nat.reduceLT, Nat.reduceAdd, Nat.reduceMul, Nat.reduceLeDiff]
  refine Go.openK 3 [] hte hn hmx (by kernel_rfl) ?_
  simp only [go_sem, Nat.reduceBEq, Nat.reduceLT, Nat.reduceAdd, Nat.reduceMul, Nat.reduceLeDiff]
  cases h : rok s a d
  · rw [h, Bool.false_and, Bool.false_and, if_neg (by simp), if_neg (by simp)] at hE
    refine ZC.call0 hP (load_no_c s a d ha hd h) rfl rfl rfl (by omega) (by simp [go_sem, tsI, slI, I, renL_ints, blk_ren, en_live, en_dead, ints_length, ints_nil, ints_one]) rfl (by first | trivial | (show _ < _; simp)) ?_
    refine Go.run hte hn 100 ?_; simp only [go_sem, Nat.reduceBEq, Nat.reduceLT, Nat.reduceAdd, Nat.reduceMul, Nat.reduceLeDiff]
    cases k : rok t b f
    · refine Go.call0 hP (load_no_c t b f hb hf' k) rfl rfl rfl (by omega) (by simp [go_sem, tsI, slI, I, renL_ints, blk_ren, en_live, en_dead, ints_length, ints_nil, ints_one]) ?_
      refine Go.run hte hn 100 ?_; simp only [go_sem, Nat.reduceBEq, Nat.reduceLT, Nat.reduceAdd, Nat.reduceMul, Nat.reduceLeDiff]
      refine Go.call0 hP (mul_no1_c _ (.inl rfl)) rfl rfl rfl (by omega) (by simp [go_sem, tsI, slI, I, renL_ints, blk_ren, en_live, en_dead, ints_length, ints_nil, ints_one]) ?_
      refine Go.run hte hn 100 ?_; simp only [go_sem, Nat.reduceBEq, Nat.reduceLT, Nat.reduceAdd, Nat.reduceMul, Nat.reduceLeDiff]
      refine Go.call0 hP (store_no_c) rfl rfl rfl (by omega) (by simp [go_sem, tsI, slI, I, renL_ints, blk_ren, en_live, en_dead, ints_length, ints_nil, ints_one]) ?_
      refine Go.run hte hn 100 ?_; simp only [go_sem, Nat.reduceBEq, Nat.reduceLT, Nat.reduceAdd, Nat.reduceMul, Nat.reduceLeDiff]
      refine Go.retG hte hE hf [3, 4] rfl (by simp [go_sem, tsI, slI, I, renL_ints, blk_ren, en_live, en_dead, ints_length, ints_nil, ints_one]) rfl (by rw [h0]; rfl) (by simp [go_sem, tsI, slI, I, renL_ints, blk_ren, en_live, en_dead, ints_length, ints_nil, ints_one])
    · refine Go.call0 hP (load_ok_c t b f hb hf' k) rfl rfl rfl (by omega) (by simp [go_sem, tsI, slI, I, renL_ints, blk_ren, en_live, en_dead, ints_length, ints_nil, ints_one]) ?_
      refine Go.run hte hn 100 ?_; simp only [go_sem, Nat.reduceBEq, Nat.reduceLT, Nat.reduceAdd, Nat.reduceMul, Nat.reduceLeDiff]
      refine Go.call0 hP (mul_no1_c (ratP t b f) (.inr ⟨t, b, f, rfl⟩)) rfl rfl rfl (by omega) (by simp [go_sem, tsI, slI, I, renL_ints, blk_ren, en_live, en_dead, ints_length, ints_nil, ints_one]) ?_
      refine Go.run hte hn 100 ?_; simp only [go_sem, Nat.reduceBEq, Nat.reduceLT, Nat.reduceAdd, Nat.reduceMul, Nat.reduceLeDiff]
      refine Go.call0 hP (store_no_c) rfl rfl rfl (by omega) (by simp [go_sem, tsI, slI, I, renL_ints, blk_ren, en_live, en_dead, ints_length, ints_nil, ints_one]) ?_
      refine Go.run hte hn 100 ?_; simp only [go_sem, Nat.reduceBEq, Nat.reduceLT, Nat.reduceAdd, Nat.reduceMul, Nat.reduceLeDiff]
      refine Go.retG hte hE hf [3, 4] rfl (by simp [go_sem, tsI, slI, I, renL_ints, blk_ren, en_live, en_dead, ints_length, ints_nil, ints_one]) rfl (by rw [h0]; rfl) (by simp [go_sem, tsI, slI, I, renL_ints, blk_ren, en_live, en_dead, ints_length, ints_nil, ints_one])
  · refine ZC.call0 hP (load_ok_c s a d ha hd h) rfl rfl rfl (by omega) (by simp [go_sem, tsI, slI, I, renL_ints, blk_ren, en_live, en_dead, ints_length, ints_nil, ints_one]) rfl (by first | trivial | (show _ < _; simp)) ?_
    refine Go.run hte hn 100 ?_; simp only [go_sem, Nat.reduceBEq, Nat.reduceLT, Nat.reduceAdd, Nat.reduceMul, Nat.reduceLeDiff]
    cases k : rok t b f
    · rw [k, Bool.and_false, Bool.false_and, if_neg (by simp), if_neg (by simp)] at hE
      refine Go.call0 hP (load_no_c t b f hb hf' k) rfl rfl rfl (by omega) (by simp [go_sem, tsI, slI, I, renL_ints, blk_ren, en_live, en_dead, ints_length, ints_nil, ints_one]) ?_
      refine Go.run hte hn 100 ?_; simp only [go_sem, Nat.reduceBEq, Nat.reduceLT, Nat.reduceAdd, Nat.reduceMul, Nat.reduceLeDiff]
      refine Go.call0 hP (mul_no2_c s a d) rfl rfl rfl (by omega) (by simp [go_sem, tsI, slI, I, renL_ints, blk_ren, en_live, en_dead, ints_length, ints_nil, ints_one]) ?_
      refine Go.run hte hn 100 ?_; simp only [go_sem, Nat.reduceBEq, Nat.reduceLT, Nat.reduceAdd, Nat.reduceMul, Nat.reduceLeDiff]
      refine Go.call0 hP (store_no_c) rfl rfl rfl (by omega) (by simp [go_sem, tsI, slI, I, renL_ints, blk_ren, en_live, en_dead, ints_length, ints_nil, ints_one]) ?_
      refine Go.run hte hn 100 ?_; simp only [go_sem, Nat.reduceBEq, Nat.reduceLT, Nat.reduceAdd, Nat.reduceMul, Nat.reduceLeDiff]
      refine Go.retG hte hE hf [3, 4] rfl (by simp [go_sem, tsI, slI, I, renL_ints, blk_ren, en_live, en_dead, ints_length, ints_nil, ints_one]) rfl (by rw [h0]; rfl) (by simp [go_sem, tsI, slI, I, renL_ints, blk_ren, en_live, en_dead, ints_length, ints_nil, ints_one])
    · rw [h, k, Bool.and_self, Bool.true_and, if_pos rfl, if_pos rfl] at hE
      refine Go.call0 hP (load_ok_c t b f hb hf' k) rfl rfl rfl (by omega) (by simp [go_sem, tsI, slI, I, renL_ints, blk_ren, en_live, en_dead, ints_length, ints_nil, ints_one]) ?_
      refine Go.run hte hn 100 ?_; simp only [go_sem, Nat.reduceBEq, Nat.reduceLT, Nat.reduceAdd, Nat.reduceMul, Nat.reduceLeDiff]
      cases hok : lwOk (val a * val b) (val d * val f)
      · unfold lwB lwN lwD at hE
        rw [hok, Bool.false_and, if_neg (by simp), if_neg (by simp)] at hE
        refine Go.call0 hP (mul_lno_c s a d t b f h k hok) rfl rfl rfl (by omega) (by simp [go_sem, tsI, slI, I, renL_ints, blk_ren, en_live, en_dead, ints_length, ints_nil, ints_one]) ?_
        refine Go.run hte hn 100 ?_; simp only [go_sem, Nat.reduceBEq, Nat.reduceLT, Nat.reduceAdd, Nat.reduceMul, Nat.reduceLeDiff]
        refine Go.call0 hP (store_no_c) rfl rfl rfl (by omega) (by simp [go_sem, tsI, slI, I, renL_ints, blk_ren, en_live, en_dead, ints_length, ints_nil, ints_one]) ?_
        refine Go.run hte hn 100 ?_; simp only [go_sem, Nat.reduceBEq, Nat.reduceLT, Nat.reduceAdd, Nat.reduceMul, Nat.reduceLeDiff]
        refine Go.retG hte hE hf [3, 4] rfl (by simp [go_sem, tsI, slI, I, renL_ints, blk_ren, en_live, en_dead, ints_length, ints_nil, ints_one]) rfl (by rw [h0]; rfl) (by simp [go_sem, tsI, slI, I, renL_ints, blk_ren, en_live, en_dead, ints_length, ints_nil, ints_one])
      · refine Go.call0 hP (mul_ok_c s a d t b f h k hok) rfl rfl rfl (by omega) (by simp [go_sem, tsI, slI, I, renL_ints, blk_ren, en_live, en_dead, ints_length, ints_nil, ints_one]) ?_
        refine Go.run hte hn 100 ?_; simp only [go_sem, Nat.reduceBEq, Nat.reduceLT, Nat.reduceAdd, Nat.reduceMul, Nat.reduceLeDiff]
        refine Go.call0 hP (store_ok_c (lwB (!(s == t)) (val a * val b) (val d * val f)) (lwN (val a * val b) (val d * val f)) (lwD (val a * val b) (val d * val f)) (lwN_le _ _) (lwD_le _ _)) rfl rfl rfl (by omega) (by simp [go_sem, tsI, slI, I, renL_ints, blk_ren, en_live, en_dead, ints_length, ints_nil, ints_one]) ?_
        refine Go.run hte hn 100 ?_; simp only [go_sem, Nat.reduceBEq, Nat.reduceLT, Nat.reduceAdd, Nat.reduceMul, Nat.reduceLeDiff]
        refine Go.retG hte hE hf [3, 4] rfl (by simp [go_sem, tsI, slI, I, renL_ints, blk_ren, en_live, en_dead, ints_length, ints_nil, ints_one]) rfl (by rw [h0]; rfl) (by simp [go_sem, tsI, slI, I, renL_ints, blk_ren, en_live, en_dead, ints_length, ints_nil, ints_one])
def dvB (s : Bool) (a d : List Int) (t : Bool) (b f : List Int) : Bool := (rok s a d && rok t b f) && lwB (!(s == t)) (val a * val f) (val d * val b)
def dvN (s : Bool) (a d : List Int) (t : Bool) (b f : List Int) : List Int := if (rok s a d && rok t b f) = true then lwN (val a * val f) (val d * val b) else []
def dvD (s : Bool) (a d : List Int) (t : Bool) (b f : List Int) : List Int := if (rok s a d && rok t b f) = true then lwD (val a * val f) (val d * val b) else []
theorem dvN_le (s : Bool) (a d : List Int) (t : Bool) (b f : List Int) : (dvN s a d t b f).length ≤ 24 := by
  unfold dvN
  split
  · exact lwN_le _ _
  · simp
theorem dvD_le (s : Bool) (a d : List Int) (t : Bool) (b f : List Int) : (dvD s a d t b f).length ≤ 24 := by
  unfold dvD
  split
  · exact lwD_le _ _
  · simp
theorem spec_RatDiv_c (s : Bool) (a d : List Int) (t : Bool) (b f : List Int) (ha : a.length ≤ 1152921504606846976) (hd : d.length ≤ 1152921504606846976) (hb : b.length ≤ 1152921504606846976) (hf' : f.length ≤ 1152921504606846976) : AC Try.prog 19 [ratT s a d, ratT t b f] [] (ratO (dvB s a d t b f) 0 1 (dvN s a d t b f) (dvD s a d t b f)) [.live ⟨3, ints (dvN s a d t b f)⟩, .live ⟨3, ints (dvD s a d t b f)⟩] := by
  refine AC.intro (fn := Try.f19) (c := ?_) 34 Try.func19 (by rfl) (by kernel_rfl) (by kernel_rfl) (Nat.le_of_ble_eq_true rfl) fun e hP hf hn h0 hE => ?_
  have hte : TEok e.P te := hP ▸ teOk
  have hmx : e.P.follows .mixedOrders = true := hP ▸ mixedOk
  unfold dvB dvN dvD at hE
  have C1 := spec_RatOk_c s a d ha hd
  have C2 := spec_RatOk_c t b f hb hf'
  cases h : rok s a d
  · rw [h] at C1
    rw [h, Bool.false_and, Bool.false_and, if_neg (by simp), if_neg (by simp)] at hE
    refine Go.run hte hn 100 ?_; simp only [go_sem, Nat.reduceBEq, Nat.reduceLT, Nat.reduceAdd, Nat.reduceMul, Nat.reduceLeDiff]
    refine Go.call0 hP (C1) rfl rfl rfl (by omega) (by simp [go_sem, tsI, slI, I, renL_ints, blk_ren, en_live, en_dead, ints_length, ints_nil, ints_one]) ?_
    refine Go.run hte hn 100 ?_; simp only [go_sem, Nat.reduceBEq, Nat.reduceLT, Nat.reduceAdd, Nat.reduceMul, Nat.reduceLeDiff]
    refine Go.virt 3 ?_
    refine Go.nilcell 2 1 3 1 rfl rfl ?_
    refine Go.virt 3 ?_
    refine Go.nilcell 2 2 4 1 rfl rfl ?_
    simp only [go_sem, Nat.reduceBEq, Nat.reduceLT, Nat.reduceAdd, Nat.reduceMul, Nat.reduceLeDiff]
    refine Go.retG hte hE hf [3, 4] rfl (by simp [go_sem, tsI, slI, I, renL_ints, blk_ren, en_live, en_dead, ints_length, ints_nil, ints_one]) rfl (by rw [h0]; rfl) (by simp [go_sem, tsI, slI, I, renL_ints, blk_ren, en_live, en_dead, ints_length, ints_nil, ints_one])
  · rw [h] at C1
    cases k : rok t b f
    · rw [k] at C2
      rw [k, Bool.and_false, Bool.false_and, if_neg (by simp), if_neg (by simp)] at hE
      refine Go.run hte hn 100 ?_; simp only [go_sem, Nat.reduceBEq, Nat.reduceLT, Nat.reduceAdd, Nat.reduceMul, Nat.reduceLeDiff]
      refine Go.call0 hP (C1) rfl rfl rfl (by omega) (by simp [go_sem, tsI, slI, I, renL_ints, blk_ren, en_live, en_dead, ints_length, ints_nil, ints_one]) ?_
      refine Go.run hte hn 100 ?_; simp only [go_sem, Nat.reduceBEq, Nat.reduceLT, Nat.reduceAdd, Nat.reduceMul, Nat.reduceLeDiff]
      refine Go.call0 hP (C2) rfl rfl rfl (by omega) (by simp [go_sem, tsI, slI, I, renL_ints, blk_ren, en_live, en_dead, ints_length, ints_nil, ints_one]) ?_
      refine Go.run hte hn 100 ?_; simp only [go_sem, Nat.reduceBEq, Nat.reduceLT, Nat.reduceAdd, Nat.reduceMul, Nat.reduceLeDiff]
      refine Go.virt 3 ?_
      refine Go.nilcell 2 1 3 1 rfl rfl ?_
      refine Go.virt 3 ?_
      refine Go.nilcell 2 2 4 1 rfl rfl ?_
      simp only [go_sem, Nat.reduceBEq, Nat.reduceLT, Nat.reduceAdd, Nat.reduceMul, Nat.reduceLeDiff]
      refine Go.retG hte hE hf [3, 4] rfl (by simp [go_sem, tsI, slI, I, renL_ints, blk_ren, en_live, en_dead, ints_length, ints_nil, ints_one]) rfl (by rw [h0]; rfl) (by simp [go_sem, tsI, slI, I, renL_ints, blk_ren, en_live, en_dead, ints_length, ints_nil, ints_one])
    · rw [k] at C2
      rw [h, k, Bool.and_self, Bool.true_and, if_pos rfl, if_pos rfl] at hE
      obtain ⟨r1, r2, r3, r4, r5, r6⟩ := rok_iff.mp h
      obtain ⟨q1, q2, q3, q4, q5, q6⟩ := rok_iff.mp k
      have Da := nok_Dig (bok_nok' r1)
      have Db := nok_Dig (bok_nok' q1)
      have Dd := nok_Dig r2
      have Df := nok_Dig q2
      refine Go.run hte hn 100 ?_; simp only [go_sem, Nat.reduceBEq, Nat.reduceLT, Nat.reduceAdd, Nat.reduceMul, Nat.reduceLeDiff]
      refine Go.call0 hP (C1) rfl rfl rfl (by omega) (by simp [go_sem, tsI, slI, I, renL_ints, blk_ren, en_live, en_dead, ints_length, ints_nil, ints_one]) ?_
      refine Go.run hte hn 100 ?_; simp only [go_sem, Nat.reduceBEq, Nat.reduceLT, Nat.reduceAdd, Nat.reduceMul, Nat.reduceLeDiff]
      refine Go.call0 hP (C2) rfl rfl rfl (by omega) (by simp [go_sem, tsI, slI, I, renL_ints, blk_ren, en_live, en_dead, ints_length, ints_nil, ints_one]) ?_
      refine Go.run hte hn 100 ?_; simp only [go_sem, Nat.reduceBEq, Nat.reduceLT, Nat.reduceAdd, Nat.reduceMul, Nat.reduceLeDiff]
      have l1 := mul_len2 Da Df r4 q5
      have l2 := mul_len2 Dd Db r5 q4
      refine Go.freeze (nm := 0) rfl ?_; simp only [go_sem, Nat.reduceBEq, Nat.reduceLT, Nat.reduceAdd, Nat.reduceMul, Nat.reduceLeDiff]
      refine Go.freeze (nm := 1) rfl ?_; simp only [go_sem, Nat.reduceBEq, Nat.reduceLT, Nat.reduceAdd, Nat.reduceMul, Nat.reduceLeDiff]
      refine Go.openK 19 [] hte hn hmx (by kernel_rfl) ?_
      simp only [go_sem, Nat.reduceBEq, Nat.reduceLT, Nat.reduceAdd, Nat.reduceMul, Nat.reduceLeDiff]
      refine ZC.call0 hP (l02Mul_c a f Da Df (by omega) (by omega)) rfl rfl rfl (by omega) (by simp [go_sem, tsI, slI, I, renL_ints, blk_ren, en_live, en_dead, ints_length, ints_nil, ints_one]) rfl (by first | trivial | (show _ < _; simp)) ?_
      simp only [go_sem, Nat.reduceBEq, Nat.reduceLT, Nat.reduceAdd, Nat.reduceMul, Nat.reduceLeDiff]
      refine ZC.call0 hP (l02Mul_c d b Dd Db (by omega) (by omega)) rfl rfl rfl (by omega) (by simp [go_sem, tsI, slI, I, renL_ints, blk_ren, en_live, en_dead, ints_length, ints_nil, ints_one]) rfl (by first | trivial | (show _ < _; simp)) ?_
      refine Go.run hte hn 100 ?_; simp only [go_sem, Nat.reduceBEq, Nat.reduceLT, Nat.reduceAdd, Nat.reduceMul, Nat.reduceLeDiff]
      refine Go.call0 hP (l04Low_c (!(s == t)) (val a * val f) (val d * val b) (by omega) (by omega)) rfl rfl rfl (by omega) (by simp [go_sem, tsI, slI, I, renL_ints, blk_ren, en_live, en_dead, ints_length, ints_nil, ints_one]) ?_
      refine Go.run hte hn 100 ?_; simp only [go_sem, Nat.reduceBEq, Nat.reduceLT, Nat.reduceAdd, Nat.reduceMul, Nat.reduceLeDiff]
      refine Go.retG hte hE hf [3, 4] rfl (by simp [go_sem, tsI, slI, I, renL_ints, blk_ren, en_live, en_dead, ints_length, ints_nil, ints_one]) rfl (by rw [h0]; rfl) (by simp [go_sem, tsI, slI, I, renL_ints, blk_ren, en_live, en_dead, ints_length, ints_nil, ints_one])
theorem div_ok_c (s : Bool) (a d : List Int) (t : Bool) (b f : List Int) (h : rok s a d = true) (k : rok t b f = true) (hok : lwOk (val a * val f) (val d * val b) = true) : AC Try.prog 60 [ratP s a d, ratP t b f] [] (ratP (lwB (!(s == t)) (val a * val f) (val d * val b)) (lwN (val a * val f) (val d * val b)) (lwD (val a * val f) (val d * val b))) [] := by
  refine AC.intro (fn := Try.f60) (c := ?_) 20 Try.func60 (by rfl) (by kernel_rfl) (by kernel_rfl) (Nat.le_of_ble_eq_true rfl) fun e hP hf hn h0 hE => ?_
  have hte : TEok e.P te := hP ▸ teOk
  have hmx : e.P.follows .mixedOrders = true := hP ▸ mixedOk
  have hb : 0 < b.length := by
    rcases Nat.eq_zero_or_pos b.length with h0' | h0'
    · exfalso
      unfold lwOk at hok
      rw [List.length_eq_zero_iff.mp h0'] at hok
      simp [val] at hok
    · exact h0'
  have C := Sign_c t b f
  have dS : decide ((if b.length = 0 then (0 : Int) else if t = true then -1 else 1) = 0) = false := decide_eq_false (by rw [if_neg (by omega)]; split <;> decide)
  refine Go.run hte hn 100 ?_; simp only [go_sem, Nat.reduceBEq, Nat.reduceLT, Nat.reduceAdd, Nat.reduceMul, Nat.reduceLeDiff, ratP]
  refine Go.call0 hP (by have := Sign_c t b f; unfold ratP at this; exact this) rfl rfl rfl (by omega) (by simp [go_sem, tsI, slI, I, renL_ints, blk_ren, en_live, en_dead, ints_length, ints_nil, ints_one]) ?_
  refine Go.run hte hn 100 ?_; simp only [go_sem, Nat.reduceBEq, Nat.reduceLT, Nat.reduceAdd, Nat.reduceMul, Nat.reduceLeDiff, dS]
  refine Go.call0 hP (by have := by_r_c s a d t b f h k hb; unfold ratP at this; exact this) rfl rfl rfl (by omega) (by simp [go_sem, tsI, slI, I, renL_ints, blk_ren, en_live, en_dead, ints_length, ints_nil, ints_one]) ?_
  refine Go.run hte hn 100 ?_; simp only [go_sem, Nat.reduceBEq, Nat.reduceLT, Nat.reduceAdd, Nat.reduceMul, Nat.reduceLeDiff]
  refine Go.call0 hP (by have := fitR_ok_c (!(s == t)) (val a * val f) (val d * val b) hok; unfold ratP at this; exact this) rfl rfl rfl (by omega) (by simp [go_sem, tsI, slI, I, renL_ints, blk_ren, en_live, en_dead, ints_length, ints_nil, ints_one]) ?_
  refine Go.run hte hn 100 ?_; simp only [go_sem, Nat.reduceBEq, Nat.reduceLT, Nat.reduceAdd, Nat.reduceMul, Nat.reduceLeDiff]
  refine Go.retG hte hE hf [] rfl (by simp [go_sem, tsI, slI, I, renL_ints, blk_ren, en_live, en_dead, ints_length, ints_nil, ints_one, ratP]) rfl (by rw [h0]; rfl) trivial
theorem div_lno_c (s : Bool) (a d : List Int) (t : Bool) (b f : List Int) (h : rok s a d = true) (k : rok t b f = true) (hok : lwOk (val a * val f) (val d * val b) = false) : AC Try.prog 60 [ratP s a d, ratP t b f] [] (.v (.pointer none)) [] := by
  refine AC.intro (fn := Try.f60) (c := ?_) 20 Try.func60 (by rfl) (by kernel_rfl) (by kernel_rfl) (Nat.le_of_ble_eq_true rfl) fun e hP hf hn h0 hE => ?_
  have hte : TEok e.P te := hP ▸ teOk
  have hmx : e.P.follows .mixedOrders = true := hP ▸ mixedOk
  obtain ⟨r1, r2, r3, r4, r5, r6⟩ := rok_iff.mp h
  obtain ⟨q1, q2, q3, q4, q5, q6⟩ := rok_iff.mp k
  have l1 := mul_len2 (nok_Dig (bok_nok' r1)) (nok_Dig q2) r4 q5
  have l2 := mul_len2 (nok_Dig r2) (nok_Dig (bok_nok' q1)) r5 q4
  by_cases hb : 0 < b.length
  · have dS : decide ((if b.length = 0 then (0 : Int) else if t = true then -1 else 1) = 0) = false := decide_eq_false (by rw [if_neg (by omega)]; split <;> decide)
    refine Go.run hte hn 100 ?_; simp only [go_sem, Nat.reduceBEq, Nat.reduceLT, Nat.reduceAdd, Nat.reduceMul, Nat.reduceLeDiff, ratP]
    refine Go.call0 hP (by have := Sign_c t b f; unfold ratP at this; exact this) rfl rfl rfl (by omega) (by simp [go_sem, tsI, slI, I, renL_ints, blk_ren, en_live, en_dead, ints_length, ints_nil, ints_one]) ?_
    refine Go.run hte hn 100 ?_; simp only [go_sem, Nat.reduceBEq, Nat.reduceLT, Nat.reduceAdd, Nat.reduceMul, Nat.reduceLeDiff, dS]
    refine Go.call0 hP (by have := by_r_c s a d t b f h k hb; unfold ratP at this; exact this) rfl rfl rfl (by omega) (by simp [go_sem, tsI, slI, I, renL_ints, blk_ren, en_live, en_dead, ints_length, ints_nil, ints_one]) ?_
    refine Go.run hte hn 100 ?_; simp only [go_sem, Nat.reduceBEq, Nat.reduceLT, Nat.reduceAdd, Nat.reduceMul, Nat.reduceLeDiff]
    refine Go.call0 hP (by have := fitR_no_c (!(s == t)) (val a * val f) (val d * val b) (Nat.mul_ne_zero (rok_d0 h) (nok_val (bok_nok' q1) hb)) (by omega) (by omega) hok; unfold ratP at this; exact this) rfl rfl rfl (by omega) (by simp [go_sem, tsI, slI, I, renL_ints, blk_ren, en_live, en_dead, ints_length, ints_nil, ints_one]) ?_
    refine Go.run hte hn 100 ?_; simp only [go_sem, Nat.reduceBEq, Nat.reduceLT, Nat.reduceAdd, Nat.reduceMul, Nat.reduceLeDiff]
    refine Go.retG hte hE hf [] rfl (by simp [go_sem, tsI, slI, I, renL_ints, blk_ren, en_live, en_dead, ints_length, ints_nil, ints_one]) rfl (by rw [h0]; rfl) trivial
  · have dS : decide ((if b.length = 0 then (0 : Int) else if t = true then -1 else 1) = 0) = true := decide_eq_true (by rw [if_pos (by omega)])
    refine Go.run hte hn 100 ?_; simp only [go_sem, Nat.reduceBEq, Nat.reduceLT, Nat.reduceAdd, Nat.reduceMul, Nat.reduceLeDiff, ratP]
    refine Go.call0 hP (by have := Sign_c t b f; unfold ratP at this; exact this) rfl rfl rfl (by omega) (by simp [go_sem, tsI, slI, I, renL_ints, blk_ren, en_live, en_dead, ints_length, ints_nil, ints_one]) ?_
    refine Go.run hte hn 100 ?_; simp only [go_sem, Nat.reduceBEq, Nat.reduceLT, Nat.reduceAdd, Nat.reduceMul, Nat.reduceLeDiff, dS]
    refine Go.retG hte hE hf [] rfl (by simp [go_sem, tsI, slI, I, renL_ints, blk_ren, en_live, en_dead, ints_length, ints_nil, ints_one]) rfl (by rw [h0]; rfl) trivial
theorem div_no1_c (y : AV) (hy : y = .v (.pointer none) ∨ ∃ t b f, y = ratP t b f) : AC Try.prog 60 [.v (.pointer none), y] [] (.v (.pointer none)) [] := by
  refine AC.intro (fn := Try.f60) (c := ?_) 20 Try.func60 (by rfl) (by kernel_rfl) (by kernel_rfl) (Nat.le_of_ble_eq_true rfl) fun e hP hf hn h0 hE => ?_
  have hte : TEok e.P te := hP ▸ teOk
  have hmx : e.P.follows .mixedOrders = true := hP ▸ mixedOk
  rcases hy with rfl | ⟨t, b, f, rfl⟩
  · refine Go.run hte hn 100 ?_; simp only [go_sem, Nat.reduceBEq, Nat.reduceLT, Nat.reduceAdd, Nat.reduceMul, Nat.reduceLeDiff]
    refine Go.retG hte hE hf [] rfl (by simp [go_sem, tsI, slI, I, renL_ints, blk_ren, en_live, en_dead, ints_length, ints_nil, ints_one]) rfl (by rw [h0]; rfl) trivial
  · refine Go.run hte hn 100 ?_; simp only [go_sem, Nat.reduceBEq, Nat.reduceLT, Nat.reduceAdd, Nat.reduceMul, Nat.reduceLeDiff, ratP]
    refine Go.retG hte hE hf [] rfl (by simp [go_sem, tsI, slI, I, renL_ints, blk_ren, en_live, en_dead, ints_length, ints_nil, ints_one]) rfl (by rw [h0]; rfl) trivial
theorem div_no2_c (s : Bool) (a d : List Int) : AC Try.prog 60 [ratP s a d, .v (.pointer none)] [] (.v (.pointer none)) [] := by
  refine AC.intro (fn := Try.f60) (c := ?_) 20 Try.func60 (by rfl) (by kernel_rfl) (by kernel_rfl) (Nat.le_of_ble_eq_true rfl) fun e hP hf hn h0 hE => ?_
  have hte : TEok e.P te := hP ▸ teOk
  have hmx : e.P.follows .mixedOrders = true := hP ▸ mixedOk
  refine Go.run hte hn 100 ?_; simp only [go_sem, Nat.reduceBEq, Nat.reduceLT, Nat.reduceAdd, Nat.reduceMul, Nat.reduceLeDiff, ratP]
  refine Go.retG hte hE hf [] rfl (by simp [go_sem, tsI, slI, I, renL_ints, blk_ren, en_live, en_dead, ints_length, ints_nil, ints_one]) rfl (by rw [h0]; rfl) trivial
theorem impl_RatDiv_c (s : Bool) (a d : List Int) (t : Bool) (b f : List Int) (ha : a.length ≤ 1152921504606846976) (hd : d.length ≤ 1152921504606846976) (hb : b.length ≤ 1152921504606846976) (hf' : f.length ≤ 1152921504606846976) : AC Try.prog 20 [ratT s a d, ratT t b f] [] (ratO (dvB s a d t b f) 0 1 (dvN s a d t b f) (dvD s a d t b f)) [.live ⟨3, ints (dvN s a d t b f)⟩, .live ⟨3, ints (dvD s a d t b f)⟩] := by
  refine AC.intro (fn := Try.f20) (c := ?_) 11 Try.func20 (by rfl) (by kernel_rfl) (by kernel_rfl) (Nat.le_of_ble_eq_true rfl) fun e hP hf hn h0 hE => ?_
  have hte : TEok e.P te := hP ▸ teOk
  have hmx : e.P.follows .mixedOrders = true := hP ▸ mixedOk
  unfold dvB dvN dvD at hE
  refine Go.run hte hn 100 ?_; simp only [go_sem, Nat.reduceBEq, Nat.reduceLT, Nat.reduceAdd, Nat.reduceMul, Nat.reduceLeDiff]
  refine Go.freeze (nm := 0) rfl ?_; simp only [go_sem, Nat.reduceBEq, Nat.reduceLT, Nat.reduceAdd, Nat.reduceMul, Nat.reduceLeDiff]
  refine Go.freeze (nm := 1) rfl ?_; simp only [go_sem, Nat.reduceBEq, Nat.reduceLT, Nat.reduceAdd, Nat.reduceMul, Nat.reduceLeDiff]
  refine Go.openK 3 [] hte hn hmx (by kernel_rfl) ?_
  simp only [go_sem, Nat.reduceBEq, Nat.reduceLT, Nat.reduceAdd, Nat.reduceMul, Nat.reduceLeDiff]
  cases h : rok s a d
  · rw [h, Bool.false_and, Bool.false_and, if_neg (by simp), if_neg (by simp)] at hE
    refine ZC.call0 hP (load_no_c s a d ha hd h) rfl rfl rfl (by omega) (by simp [go_sem, tsI, slI, I, renL_ints, blk_ren, en_live, en_dead, ints_length, ints_nil, ints_one]) rfl (by first | trivial | (show _ < _; simp)) ?_
    refine Go.run hte hn 100 ?_; simp only [go_sem, Nat.reduceBEq, Nat.reduceLT, Nat.reduceAdd, Nat.reduceMul, Nat.reduceLeDiff]
    cases k : rok t b f
    · refine Go.call0 hP (load_no_c t b f hb hf' k) rfl rfl rfl (by omega) (by simp [go_sem, tsI, slI, I, renL_ints, blk_ren, en_live, en_dead, ints_length, ints_nil, ints_one]) ?_
      refine Go.run hte hn 100 ?_; simp only [go_sem, Nat.reduceBEq, Nat.reduceLT, Nat.reduceAdd, Nat.reduceMul, Nat.reduceLeDiff]
      refine Go.call0 hP (div_no1_c _ (.inl rfl)) rfl rfl rfl (by omega) (by simp [go_sem, tsI, slI, I, renL_ints, blk_ren, en_live, en_dead, ints_length, ints_nil, ints_one]) ?_
      refine Go.run hte hn 100 ?_; simp only [go_sem, Nat.reduceBEq, Nat.reduceLT, Nat.reduceAdd, Nat.reduceMul, Nat.reduceLeDiff]
      refine Go.call0 hP (store_no_c) rfl rfl rfl (by omega) (by simp [go_sem, tsI, slI, I, renL_ints, blk_ren, en_live, en_dead, ints_length, ints_nil, ints_one]) ?_
      refine Go.run hte hn 100 ?_; simp only [go_sem, Nat.reduceBEq, Nat.reduceLT, Nat.reduceAdd, Nat.reduceMul, Nat.reduceLeDiff]
      refine Go.retG hte hE hf [3, 4] rfl (by simp [go_sem, tsI, slI, I, renL_ints, blk_ren, en_live, en_dead, ints_length, ints_nil, ints_one]) rfl (by rw [h0]; rfl) (by simp [go_sem, tsI, slI, I, renL_ints, blk_ren, en_live, en_dead, ints_length, ints_nil, ints_one])
    · refine Go.call0 hP (load_ok_c t b f hb hf' k) rfl rfl rfl (by omega) (by simp [go_sem, tsI, slI, I, renL_ints, blk_ren, en_live, en_dead, ints_length, ints_nil, ints_one]) ?_
      refine Go.run hte hn 100 ?_; simp only [go_sem, Nat.reduceBEq, Nat.reduceLT, Nat.reduceAdd, Nat.reduceMul, Nat.reduceLeDiff]
      refine Go.call0 hP (div_no1_c (ratP t b f) (.inr ⟨t, b, f, rfl⟩)) rfl rfl rfl (by omega) (by simp [go_sem, tsI, slI, I, renL_ints, blk_ren, en_live, en_dead, ints_length, ints_nil, ints_one]) ?_
      refine Go.run hte hn 100 ?_; simp only [go_sem, Nat.reduceBEq, Nat.reduceLT, Nat.reduceAdd, Nat.reduceMul, Nat.reduceLeDiff]
      refine Go.call0 hP (store_no_c) rfl rfl rfl (by omega) (by simp [go_sem, tsI, slI, I, renL_ints, blk_ren, en_live, en_dead, ints_length, ints_nil, ints_one]) ?_
      refine Go.run hte hn 100 ?_; simp only [go_sem, Nat.reduceBEq, Nat.reduceLT, Nat.reduceAdd, Nat.reduceMul, Nat.reduceLeDiff]
      refine Go.retG hte hE hf [3, 4] rfl (by simp [go_sem, tsI, slI, I, renL_ints, blk_ren, en_live, en_dead, ints_length, ints_nil, ints_one]) rfl (by rw [h0]; rfl) (by simp [go_sem, tsI, slI, I, renL_ints, blk_ren, en_live, en_dead, ints_length, ints_nil, ints_one])
  · refine ZC.call0 hP (load_ok_c s a d ha hd h) rfl rfl rfl (by omega) (by simp [go_sem, tsI, slI, I, renL_ints, blk_ren, en_live, en_dead, ints_length, ints_nil, ints_one]) rfl (by first | trivial | (show _ < _; simp)) ?_
    refine Go.run hte hn 100 ?_; simp only [go_sem, Nat.reduceBEq, Nat.reduceLT, Nat.reduceAdd, Nat.reduceMul, Nat.reduceLeDiff]
    cases k : rok t b f
    · rw [k, Bool.and_false, Bool.false_and, if_neg (by simp), if_neg (by simp)] at hE
      refine Go.call0 hP (load_no_c t b f hb hf' k) rfl rfl rfl (by omega) (by simp [go_sem, tsI, slI, I, renL_ints, blk_ren, en_live, en_dead, ints_length, ints_nil, ints_one]) ?_
      refine Go.run hte hn 100 ?_; simp only [go_sem, Nat.reduceBEq, Nat.reduceLT, Nat.reduceAdd, Nat.reduceMul, Nat.reduceLeDiff]
      refine Go.call0 hP (div_no2_c s a d) rfl rfl rfl (by omega) (by simp [go_sem, tsI, slI, I, renL_ints, blk_ren, en_live, en_dead, ints_length, ints_nil, ints_one]) ?_
      refine Go.run hte hn 100 ?_; simp only [go_sem, Nat.reduceBEq, Nat.reduceLT, Nat.reduceAdd, Nat.reduceMul, Nat.reduceLeDiff]
      refine Go.call0 hP (store_no_c) rfl rfl rfl (by omega) (by simp [go_sem, tsI, slI, I, renL_ints, blk_ren, en_live, en_dead, ints_length, ints_nil, ints_one]) ?_
      refine Go.run hte hn 100 ?_; simp only [go_sem, Nat.reduceBEq, Nat.reduceLT, Nat.reduceAdd, Nat.reduceMul, Nat.reduceLeDiff]
      refine Go.retG hte hE hf [3, 4] rfl (by simp [go_sem, tsI, slI, I, renL_ints, blk_ren, en_live, en_dead, ints_length, ints_nil, ints_one]) rfl (by rw [h0]; rfl) (by simp [go_sem, tsI, slI, I, renL_ints, blk_ren, en_live, en_dead, ints_length, ints_nil, ints_one])
    · rw [h, k, Bool.and_self, Bool.true_and, if_pos rfl, if_pos rfl] at hE
      refine Go.call0 hP (load_ok_c t b f hb hf' k) rfl rfl rfl (by omega) (by simp [go_sem, tsI, slI, I, renL_ints, blk_ren, en_live, en_dead, ints_length, ints_nil, ints_one]) ?_
      refine Go.run hte hn 100 ?_; simp only [go_sem, Nat.reduceBEq, Nat.reduceLT, Nat.reduceAdd, Nat.reduceMul, Nat.reduceLeDiff]
      cases hok : lwOk (val a * val f) (val d * val b)
      · unfold lwB lwN lwD at hE
        rw [hok, Bool.false_and, if_neg (by simp), if_neg (by simp)] at hE
        refine Go.call0 hP (div_lno_c s a d t b f h k hok) rfl rfl rfl (by omega) (by simp [go_sem, tsI, slI, I, renL_ints, blk_ren, en_live, en_dead, ints_length, ints_nil, ints_one]) ?_
        refine Go.run hte hn 100 ?_; simp only [go_sem, Nat.reduceBEq, Nat.reduceLT, Nat.reduceAdd, Nat.reduceMul, Nat.reduceLeDiff]
        refine Go.call0 hP (store_no_c) rfl rfl rfl (by omega) (by simp [go_sem, tsI, slI, I, renL_ints, blk_ren, en_live, en_dead, ints_length, ints_nil, ints_one]) ?_
        refine Go.run hte hn 100 ?_; simp only [go_sem, Nat.reduceBEq, Nat.reduceLT, Nat.reduceAdd, Nat.reduceMul, Nat.reduceLeDiff]
        refine Go.retG hte hE hf [3, 4] rfl (by simp [go_sem, tsI, slI, I, renL_ints, blk_ren, en_live, en_dead, ints_length, ints_nil, ints_one]) rfl (by rw [h0]; rfl) (by simp [go_sem, tsI, slI, I, renL_ints, blk_ren, en_live, en_dead, ints_length, ints_nil, ints_one])
      · refine Go.call0 hP (div_ok_c s a d t b f h k hok) rfl rfl rfl (by omega) (by simp [go_sem, tsI, slI, I, renL_ints, blk_ren, en_live, en_dead, ints_length, ints_nil, ints_one]) ?_
        refine Go.run hte hn 100 ?_; simp only [go_sem, Nat.reduceBEq, Nat.reduceLT, Nat.reduceAdd, Nat.reduceMul, Nat.reduceLeDiff]
        refine Go.call0 hP (store_ok_c (lwB (!(s == t)) (val a * val f) (val d * val b)) (lwN (val a * val f) (val d * val b)) (lwD (val a * val f) (val d * val b)) (lwN_le _ _) (lwD_le _ _)) rfl rfl rfl (by omega) (by simp [go_sem, tsI, slI, I, renL_ints, blk_ren, en_live, en_dead, ints_length, ints_nil, ints_one]) ?_
        refine Go.run hte hn 100 ?_; simp only [go_sem, Nat.reduceBEq, Nat.reduceLT, Nat.reduceAdd, Nat.reduceMul, Nat.reduceLeDiff]
        refine Go.retG hte hE hf [3, 4] rfl (by simp [go_sem, tsI, slI, I, renL_ints, blk_ren, en_live, en_dead, ints_length, ints_nil, ints_one]) rfl (by rw [h0]; rfl) (by simp [go_sem, tsI, slI, I, renL_ints, blk_ren, en_live, en_dead, ints_length, ints_nil, ints_one])

end Go.Proofs.Ytbblhgldfcodfaa.Ab
