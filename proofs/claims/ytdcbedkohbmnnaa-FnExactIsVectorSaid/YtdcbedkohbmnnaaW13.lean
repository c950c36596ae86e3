/- Contracts of the given program's functions and of the reference's (walks). -/
import Derived.Test.YtdcbedkohbmnnaaAbT
import Derived.Test.YtdcbedkohbmnnaaAbP
import Derived.Test.YtdcbedkohbmnnaaAbN
import Derived.Test.YtdcbedkohbmnnaaW1
import Derived.Test.YtdcbedkohbmnnaaW2
import Derived.Test.YtdcbedkohbmnnaaW3
import Derived.Test.YtdcbedkohbmnnaaW4
import Derived.Test.YtdcbedkohbmnnaaT1
set_option linter.unusedVariables false
set_option linter.unusedSimpArgs false
set_option maxRecDepth 10000
namespace Go.Proofs.Ytdcbedkohbmnnaa.Ab
open Go Go.RowKit
attribute [local go_sem] q_run q_seq q_skip q_block q_exit q_cond q_region q_nil q_op q_blk q_loop q_ret q_open q_inv q_fin q_go q_h0 q_h1 q_gskip q_stepC q_brt q_brf q_stepX q_sskip q_sskip0 q_val q_need q_new q_newc q_sv q_sto q_c1 q_c2 q_c3 q_c4 q_c5 q_c6 q_c7 q_c8 q_c9 q_c10 q_c11 q_c12 q_c13 q_c14 q_c15 q_c16 q_c17 q_c18 q_c19 q_c20 q_c21 q_c22 q_g0 q_g1 q_gC q_gD q_gE q_gB1 q_gB2 q_gB3 q_gB4 q_ev1 q_ev2 q_ev3 q_evo0 q_evo1 q_rv q_rva q_o1 q_o2 q_pk1 q_pk2 q_ld1p q_ld1e q_ld1t q_ldnp q_ldne q_ldnt q_sub0 q_sub1 q_subc q_stS q_stT q_box q_bldr q_bld q_fill0 q_fill1 q_fillB q_bsr q_bsl q_fap q_fat q_iasl q_iats q_lnsl q_lnts q_lnv q_lnS q_exA q_mkB q_lo0 q_lo1 q_hi0 q_hi1 q_slcA q_slcU1 q_slcU2 q_slcT1 q_slcT2 q_slsA q_slsU q_slsT q_apA q_apC q_srcE1 q_srcE2 q_srcE3 q_srcA1 q_srcB q_srcA2 q_srcA3 q_fnA q_nc1 q_nc2 q_bin q_bin2 q_bin3 q_bin4 q_bin5 q_bin6 q_bin7 q_bin8 q_bin9 q_bin10 q_i1 q_i2 q_i3 q_i4 q_i5 q_i6 q_i7 q_i8 q_i9 q_i10 q_i11 q_s1 q_s2 q_s3 q_u1 q_u2 q_min q_max q_ce1 q_ce2 q_ce3 q_ce4 q_ce5 q_ce6 q_ce7 q_ce8 q_ce9 q_ce10 q_ce11 q_on2 q_on3 q_on4 q_on5 q_on6 q_on7 q_on8 q_on9 q_on10 q_on11 q_enr1 q_gEt q_zr0 q_zr1 q_zgs q_zgg q_zk1 q_zk2 q_zd q_zv1 q_zv2 q_zv3 q_zp1 q_zp2 q_zf q_zs1 q_zs2 q_za q_za1 q_fi0 q_fi1 q_ln0 q_ln1 q_h01 q_h02 q_h03 q_h04 q_h05 q_h06 q_h07 q_h08 q_h09 q_h10 q_h11 q_h12 q_h13 q_h14 q_h15 q_h16 q_h17 q_h18 q_h19 q_h20 q_h21 q_h22 q_h23 q_h24 q_al q_b0 q_rs1 q_rs2 q_rs3 q_rs4 q_rs5 q_rs6 q_rs7 q_rs8 q_ro1 q_ro2 q_ro3 q_ro4 q_ro5 q_ro6 q_ro7 q_ro8 cond_true cond_false decide_true decide_false List.length_cons List.length_nil List.nil_append List.cons_append true_and and_true List.toList_toArray Option.map_some Nat.zero_add Nat.add_zero Bool.and_self Bool.and_true Bool.true_and Bool.and_false Bool.false_and Bool.not_true Bool.not_false FitF FitL LendL wb keys nodupB firstOk tupA op_move op_assign op_pick op_un op_box op_nc op_mf op_ex op_min op_max get put del nth evs evp sets setN ones popTo args0 AV.ren AV.renL rho List.take_succ_cons List.take_zero List.drop_succ_cons List.drop_zero Option.isNone_none Option.isNone_some o_al35 o_al37 o_ap22 o_bi22 o_bi3 o_bi4 o_bi69 o_bi88 o_bs22_0 o_bs22_1 o_bs22_3 o_bu35 o_bu37 o_bu95 o_cn3 o_cn88 o_cv3_88 o_cv88_3 o_fa30_0 o_fa30_1 o_fa32_0 o_fa32_1 o_fa35_0 o_fa35_1 o_fa37_0 o_fa37_1 o_fa95_0 o_fa95_1 o_ia22 o_ia58 o_ia61 o_ia78 o_ib4 o_ip69 o_ld22 o_ld3 o_ld30 o_ld32 o_ld35 o_ld37 o_ld4 o_ld69 o_ln22 o_ln58 o_ln61 o_mk22 o_mk61 o_mk78 o_sl22 o_st22 o_st3 o_st35 o_st37 o_st4 o_st69 o_zb22 o_zb58 o_zb61 o_zb78 I tsI slI renL_ints blk_ren en_live en_dead List.set_cons_zero List.set_cons_succ List.map_cons List.map_nil List.append_nil frzF frzS AV.frz AV.frzL frzL_ints ints_all ints_all' ints_take1 ints_mk ints_mk1 mk_length res_ints resOk_ints plain_ints plainA plainL plainE plainS List.all_cons List.all_nil bigO bigT ratO ratT
/-! ### A sum -/
/-- The first n limbs. -/
def dgp : Nat → Nat → List Int
  | 0, _ => []
  | n + 1, v => ((v % 1000000000 : Nat) : Int) :: dgp n (v / 1000000000)
theorem dgp_length : ∀ n v, (dgp n v).length = n
  | 0, _ => rfl
  | n + 1, v => by rw [dgp, List.length_cons, dgp_length n]
theorem dgp_val : ∀ (p : List Int), Dig p → dgp p.length (val p) = p
  | [], _ => rfl
  | x :: xs, h => by
    rw [Dig_cons] at h
    have ih := dgp_val xs h.2
    simp only [List.length_cons, dgp, val]
    rw [show (x.toNat + 1000000000 * val xs) % 1000000000 = x.toNat by omega, show (x.toNat + 1000000000 * val xs) / 1000000000 = val xs by omega, ih]
    congr 1
    omega
theorem dgp_Dig : ∀ n v, Dig (dgp n v)
  | 0, _ => Dig_nil
  | n + 1, v => by rw [dgp, Dig_cons]; exact ⟨by omega, dgp_Dig n _⟩
theorem val_dgp : ∀ n v, v < 1000000000 ^ n → val (dgp n v) = v
  | 0, v, h => by simp at h; subst h; rfl
  | n + 1, v, h => by
    rw [dgp, val, val_dgp n _ (Nat.div_lt_of_lt_mul (by rw [Nat.pow_succ] at h; omega))]
    simp
    omega
def addN (a b : List Int) : Nat := if val a + val b < 1000000000 ^ max a.length b.length then max a.length b.length else max a.length b.length + 1
/-- The sum as the reference leaves it. -/
def addL (a b : List Int) : List Int := dgp (addN a b) (val a + val b)
theorem addL_len (a b : List Int) : (addL a b).length ≤ max a.length b.length + 1 := by
  unfold addL addN
  rw [dgp_length]
  split <;> omega
theorem add_lt {a b : List Int} (ha : Dig a) (hb : Dig b) : val a + val b < 1000000000 ^ addN a b := by
  have h1 := val_lt ha
  have h2 := val_lt hb
  have h3 : 1000000000 ^ a.length ≤ 1000000000 ^ max a.length b.length := Nat.pow_le_pow_right (by decide) (by omega)
  have h4 : 1000000000 ^ b.length ≤ 1000000000 ^ max a.length b.length := Nat.pow_le_pow_right (by decide) (by omega)
  unfold addN
  split
  · assumption
  · rw [Nat.pow_succ]; omega
theorem addL_trim {a b : List Int} (ha : Dig a) (hb : Dig b) : trim (addL a b) = dg (val a + val b) := by
  unfold addL
  rw [trim_dg_val (dgp_Dig _ _), val_dgp _ _ (add_lt ha hb)]
theorem l02Add_c (a b : List Int) (ha : Dig a) (hb : Dig b) (hal : a.length ≤ 1000) (hbl : b.length ≤ 1000) : AC Try.prog 69 [tsI a, tsI b] [] (slI 0 (addL a b)) [.live ⟨3, ints (addL a b)⟩] := by
  refine AC.intro (fn := Try.f69) (c := ?_) 55 Try.func69 (by rfl) (by kernel_rfl) (by kernel_rfl) (Nat.le_of_ble_eq_true rfl) fun e hP hf hn h0 hE => ?_
  have hte : TEok e.P te := hP ▸ teOk
  have hmx : e.P.follows .mixedOrders = true := hP ▸ mixedOk
  refine Go.run hte hn 100 ?_; simp only [go_sem, Nat.reduceBEq, Nat.reduceLT, Nat.reduceAdd, Nat.reduceMul, Nat.reduceLeDiff]
  refine Go.enter (fun x : Nat × List Int × Nat => x.2.1.length = x.1 ∧ x.2.2 ≤ 1 ∧ Dig x.2.1 ∧ val x.2.1 + x.2.2 * 1000000000 ^ x.1 = val (a.take x.1) + val (b.take x.1) ∧ (x.1 ≤ max a.length b.length ∨ x.1 = max a.length b.length + 1 ∧ x.2.2 = 0 ∧ 1000000000 ^ max a.length b.length ≤ val a + val b)) (fun x => 1002 - x.1) (fun x => [(0, tsI a), (1, tsI b), (5, slI 0 x.2.1), (6, I x.2.2), (7, I x.1)]) (fun x => [.live ⟨3, ints x.2.1⟩]) (0, [], 0) [0] ⟨rfl, by decide, Dig_nil, by simp [val], .inl (Nat.zero_le _)⟩ rfl rfl (by rw [h0]; rfl) (by simp [go_sem, tsI, slI, I, renL_ints, blk_ren, en_live, en_dead, ints_length, ints_nil, ints_one]) (by simp [go_sem, tsI, slI, I, renL_ints, blk_ren, en_live, en_dead, ints_length, ints_nil, ints_one]) ?_
  rintro ⟨i, p, c⟩ ⟨hp, hc, hD, hv, hw⟩
  simp only at hp hc hD hv hw
  have e1 : i ≤ 1001 → IntKind.i64.wrap ((i : Int) + 1) = ((i + 1 : Nat) : Int) := fun h => by rw [W64] <;> omega
  have c0 : (0 ≤ (i : Int)) = True := eq_true (by omega)
  obtain ⟨x, hx⟩ : ∃ x : Nat, (x : Int) = if i < a.length then rd a (i : Int) else 0 := ⟨(if i < a.length then rd a (i : Int) else 0).toNat, by have := Dig_rd ha i; split <;> omega⟩
  obtain ⟨y, hy⟩ : ∃ y : Nat, (y : Int) = if i < b.length then rd b (i : Int) else 0 := ⟨(if i < b.length then rd b (i : Int) else 0).toNat, by have := Dig_rd hb i; split <;> omega⟩
  obtain ⟨hx9, hy9, g0, g1, g2⟩ := add_step a b ha hb i p hp hD c hc hv x y hx hy
  obtain ⟨t, ht⟩ : ∃ t, t = x + y + c := ⟨_, rfl⟩
  rw [← ht] at g0 g1 g2
  have w5 : IntKind.i64.wrap ((t / 1000000000 : Nat) : Int) = ((t / 1000000000 : Nat) : Int) := by rw [W64] <;> omega
  by_cases ha1 : i < a.length
  · by_cases hb1 : i < b.length
    · have hxa : rd a (i : Int) = (x : Int) := by rw [if_pos ha1] at hx; exact hx.symm
      have cA : ((i : Int) < (a.length : Int)) = True := eq_true (by omega)
      have cA2 : (0 < (ints a).length) = True := eq_true (by rw [ints_length]; omega)
      have hyb : rd b (i : Int) = (y : Int) := by rw [if_pos hb1] at hy; exact hy.symm
      have cB : ((i : Int) < (b.length : Int)) = True := eq_true (by omega)
      have cB2 : (0 < (ints b).length) = True := eq_true (by rw [ints_length]; omega)
      have dA : decide ((i : Int) < (a.length : Int)) = true := decide_eq_true (by omega)
      have dB : decide ((i : Int) < (b.length : Int)) = true := decide_eq_true (by omega)
      have wA : IntKind.i64.wrap ((c : Int) + (x : Int)) = ((x + c : Nat) : Int) := by rw [W64] <;> omega
      have wB : IntKind.i64.wrap (((x + c : Nat) : Int) + (y : Int)) = (t : Int) := by rw [W64] <;> omega
      have hil : i ≤ 999 := by omega
      refine Go.run hte hn 100 ?_; simp only [go_sem, Nat.reduceBEq, Nat.reduceLT, Nat.reduceAdd, Nat.reduceMul, Nat.reduceLeDiff, dA, dB, c0, wA, hxa, cA, cA2, nth_ints ha1, wB, hyb, cB, cB2, nth_ints hb1, Int.toNat_natCast, Nat.mul_one]
      refine ⟨by omega, snoc_ok (by omega), by omega, ?_⟩
      simp only [tmod_nat, tdiv_nat, w5, e1 (by omega), ints_snoc]
      refine Go.round (i + 1, p ++ [((t % 1000000000 : Nat) : Int)], t / 1000000000) [2] ⟨by simp [hp], g0, g1, g2, .inl (by simp only; omega)⟩ (by simp only; omega) rfl rfl (by rw [h0]; rfl) (by simp [go_sem, tsI, slI, I, renL_ints, blk_ren, en_live, en_dead, ints_length, ints_nil, ints_one]) (by simp [go_sem, tsI, slI, I, renL_ints, blk_ren, en_live, en_dead, ints_length, ints_nil, ints_one])
    · have hxa : rd a (i : Int) = (x : Int) := by rw [if_pos ha1] at hx; exact hx.symm
      have cA : ((i : Int) < (a.length : Int)) = True := eq_true (by omega)
      have cA2 : (0 < (ints a).length) = True := eq_true (by rw [ints_length]; omega)
      have hy0 : y = 0 := by rw [if_neg hb1] at hy; omega
      have dA : decide ((i : Int) < (a.length : Int)) = true := decide_eq_true (by omega)
      have dB : decide ((i : Int) < (b.length : Int)) = false := decide_eq_false (by omega)
      have wA : IntKind.i64.wrap ((c : Int) + (x : Int)) = (t : Int) := by rw [W64] <;> omega
      have hil : i ≤ 999 := by omega
      refine Go.run hte hn 100 ?_; simp only [go_sem, Nat.reduceBEq, Nat.reduceLT, Nat.reduceAdd, Nat.reduceMul, Nat.reduceLeDiff, dA, dB, c0, wA, hxa, cA, cA2, nth_ints ha1, Int.toNat_natCast, Nat.mul_one]
      refine ⟨by omega, snoc_ok (by omega), by omega, ?_⟩
      simp only [tmod_nat, tdiv_nat, w5, e1 (by omega), ints_snoc]
      refine Go.round (i + 1, p ++ [((t % 1000000000 : Nat) : Int)], t / 1000000000) [2] ⟨by simp [hp], g0, g1, g2, .inl (by simp only; omega)⟩ (by simp only; omega) rfl rfl (by rw [h0]; rfl) (by simp [go_sem, tsI, slI, I, renL_ints, blk_ren, en_live, en_dead, ints_length, ints_nil, ints_one]) (by simp [go_sem, tsI, slI, I, renL_ints, blk_ren, en_live, en_dead, ints_length, ints_nil, ints_one])
  · by_cases hb1 : i < b.length
    · have hx0 : x = 0 := by rw [if_neg ha1] at hx; omega
      have hyb : rd b (i : Int) = (y : Int) := by rw [if_pos hb1] at hy; exact hy.symm
      have cB : ((i : Int) < (b.length : Int)) = True := eq_true (by omega)
      have cB2 : (0 < (ints b).length) = True := eq_true (by rw [ints_length]; omega)
      have dA : decide ((i : Int) < (a.length : Int)) = false := decide_eq_false (by omega)
      have dB : decide ((i : Int) < (b.length : Int)) = true := decide_eq_true (by omega)
      have wB : IntKind.i64.wrap ((c : Int) + (y : Int)) = (t : Int) := by rw [W64] <;> omega
      have hil : i ≤ 999 := by omega
      refine Go.run hte hn 100 ?_; simp only [go_sem, Nat.reduceBEq, Nat.reduceLT, Nat.reduceAdd, Nat.reduceMul, Nat.reduceLeDiff, dA, dB, c0, wB, hyb, cB, cB2, nth_ints hb1, Int.toNat_natCast, Nat.mul_one]
      refine ⟨by omega, snoc_ok (by omega), by omega, ?_⟩
      simp only [tmod_nat, tdiv_nat, w5, e1 (by omega), ints_snoc]
      refine Go.round (i + 1, p ++ [((t % 1000000000 : Nat) : Int)], t / 1000000000) [2] ⟨by simp [hp], g0, g1, g2, .inl (by simp only; omega)⟩ (by simp only; omega) rfl rfl (by rw [h0]; rfl) (by simp [go_sem, tsI, slI, I, renL_ints, blk_ren, en_live, en_dead, ints_length, ints_nil, ints_one]) (by simp [go_sem, tsI, slI, I, renL_ints, blk_ren, en_live, en_dead, ints_length, ints_nil, ints_one])
    · have hx0 : x = 0 := by rw [if_neg ha1] at hx; omega
      have hy0 : y = 0 := by rw [if_neg hb1] at hy; omega
      have dA : decide ((i : Int) < (a.length : Int)) = false := decide_eq_false (by omega)
      have dB : decide ((i : Int) < (b.length : Int)) = false := decide_eq_false (by omega)
      have wc : c = t := by omega
      rw [List.take_of_length_le (show a.length ≤ i by omega), List.take_of_length_le (show b.length ≤ i by omega)] at hv
      by_cases hc0 : c = 0
      · subst hc0
        have dC : decide ((0 : Int) < ((0 : Nat) : Int)) = false := by decide
        have e : addL a b = p := by
          unfold addL
          rw [← dgp_val p hD, hp]
          have hv' : val p = val a + val b := by omega
          rw [hv']
          congr 1
          unfold addN
          have hlt := val_lt hD
          rw [hp, hv'] at hlt
          rcases hw with hw | ⟨hw, _, hw2⟩
          · have : i = max a.length b.length := by omega
            rw [← this, if_pos hlt]
          · rw [if_neg (by omega), hw]
        rw [e] at hE
        refine Go.run hte hn 100 ?_; simp only [go_sem, Nat.reduceBEq, Nat.reduceLT, Nat.reduceAdd, Nat.reduceMul, Nat.reduceLeDiff, dA, dB, dC]
        refine Go.retG hte hE hf [0] rfl (by simp [go_sem, tsI, slI, I, renL_ints, blk_ren, en_live, en_dead, ints_length, ints_nil, ints_one]) rfl (by rw [h0]; rfl) (by simp [go_sem, tsI, slI, I, renL_ints, blk_ren, en_live, en_dead, ints_length, ints_nil, ints_one])
      · have hc1 : c = 1 := by omega
        have hi : i = max a.length b.length := by rcases hw with hw | ⟨hw, hw1, _⟩ <;> omega
        have dC : decide ((0 : Int) < (t : Int)) = true := decide_eq_true (by omega)
        rw [← wc] at dC
        refine Go.run hte hn 100 ?_; simp only [go_sem, Nat.reduceBEq, Nat.reduceLT, Nat.reduceAdd, Nat.reduceMul, Nat.reduceLeDiff, dA, dB, dC]
        refine ⟨by omega, snoc_ok' (by omega), by omega, ?_⟩
        simp only [tmod_nat, tdiv_nat, wc, w5, e1 (by omega), ints_snoc]
        refine Go.round (i + 1, p ++ [((t % 1000000000 : Nat) : Int)], t / 1000000000) [2] ⟨by simp [hp], g0, g1, g2, .inr ⟨by simp only; omega, by simp only; omega, by rw [← hv, ← hi, hc1]; omega⟩⟩ (by simp only; omega) rfl rfl (by rw [h0]; rfl) (by simp [go_sem, tsI, slI, I, renL_ints, blk_ren, en_live, en_dead, ints_length, ints_nil, ints_one]) (by simp [go_sem, tsI, slI, I, renL_ints, blk_ren, en_live, en_dead, ints_length, ints_nil, ints_one])

end Go.Proofs.Ytdcbedkohbmnnaa.Ab
