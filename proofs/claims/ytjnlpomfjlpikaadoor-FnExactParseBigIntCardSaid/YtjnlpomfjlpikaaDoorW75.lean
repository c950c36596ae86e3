/- Contracts of the given program's functions and of the reference's (walks). -/
import Derived.Test.YtjnlpomfjlpikaaDoorAbT
import Derived.Test.YtjnlpomfjlpikaaDoorAbP
import Derived.Test.YtjnlpomfjlpikaaDoorAbQ
import Derived.Test.YtjnlpomfjlpikaaDoorAbS
import Derived.Test.YtjnlpomfjlpikaaDoorAbI
import Derived.Test.YtjnlpomfjlpikaaDoorW54
import Derived.Test.YtjnlpomfjlpikaaDoorW64
import Derived.Test.YtjnlpomfjlpikaaDoorW66
import Derived.Test.YtjnlpomfjlpikaaDoorW72
import Derived.Test.YtjnlpomfjlpikaaDoorW73
set_option linter.unusedVariables false
set_option linter.unusedSimpArgs false
set_option maxRecDepth 10000
namespace Go.Proofs.YtjnlpomfjlpikaaDoor.Ab
open Go Go.RowKit
attribute [local go_sem] q_run q_seq q_skip q_block q_exit q_cond q_region q_nil q_op q_blk q_loop q_ret q_open q_inv q_fin q_go q_h0 q_h1 q_gskip q_stepC q_brt q_brf q_stepX q_sskip q_sskip0 q_val q_need q_new q_newc q_sv q_sto q_c1 q_c2 q_c3 q_c4 q_c5 q_c6 q_c7 q_c8 q_c9 q_c10 q_c11 q_c12 q_c13 q_c14 q_c15 q_c16 q_c17 q_c18 q_c19 q_c20 q_c21 q_c22 q_g0 q_g1 q_gC q_gD q_gE q_gB1 q_gB2 q_gB3 q_gB4 q_ev1 q_ev2 q_ev3 q_evo0 q_evo1 q_rv q_rva q_o1 q_o2 q_pk1 q_pk2 q_ld1p q_ld1e q_ld1t q_ldnp q_ldne q_ldnt q_sub0 q_sub1 q_subc q_stS q_stT q_box q_bldr q_bld q_fill0 q_fill1 q_fillB q_bsr q_bsl q_fap q_fat q_iasl q_iats q_lnsl q_lnts q_lnv q_lnS q_exA q_mkB q_lo0 q_lo1 q_hi0 q_hi1 q_slcA q_slcU1 q_slcU2 q_slcT1 q_slcT2 q_slsA q_slsU q_slsT q_apA q_apC q_srcE1 q_srcE2 q_srcE3 q_srcA1 q_srcB q_srcA2 q_srcA3 q_fnA q_nc1 q_nc2 q_bin q_bin2 q_bin3 q_bin4 q_bin5 q_bin6 q_bin7 q_bin8 q_bin9 q_bin10 q_i1 q_i2 q_i3 q_i4 q_i5 q_i6 q_i7 q_i8 q_i9 q_i10 q_i11 q_s1 q_s2 q_s3 q_u1 q_u2 q_min q_max q_ce1 q_ce2 q_ce3 q_ce4 q_ce5 q_ce6 q_ce7 q_ce8 q_ce9 q_ce10 q_ce11 q_on2 q_on3 q_on4 q_on5 q_on6 q_on7 q_on8 q_on9 q_on10 q_on11 q_enr1 q_gEt q_zr0 q_zr1 q_zgs q_zgg q_zk1 q_zk2 q_zd q_zv1 q_zv2 q_zv3 q_zp1 q_zp2 q_zf q_zs1 q_zs2 q_za q_za1 q_fi0 q_fi1 q_ln0 q_ln1 q_h01 q_h02 q_h03 q_h04 q_h05 q_h06 q_h07 q_h08 q_h09 q_h10 q_h11 q_h12 q_h13 q_h14 q_h15 q_h16 q_h17 q_h18 q_h19 q_h20 q_h21 q_h22 q_h23 q_h24 q_al q_b0 q_rs1 q_rs2 q_rs3 q_rs4 q_rs5 q_rs6 q_rs7 q_rs8 q_ro1 q_ro2 q_ro3 q_ro4 q_ro5 q_ro6 q_ro7 q_ro8 q_ixS q_cvS1 q_cvN q_u8s0 q_u8s1 q_u8s2 q_strS q_h25 q_shr q_i12 q_i13 q_bn q_bn0 q_bn1 q_zbn q_zn cond_true cond_false decide_true decide_false List.length_cons List.length_nil List.nil_append List.cons_append true_and and_true List.toList_toArray Option.map_some Nat.zero_add Nat.add_zero Bool.and_self Bool.and_true Bool.true_and Bool.and_false Bool.false_and Bool.not_true Bool.not_false FitF FitL LendL wb keys nodupB firstOk tupA op_move op_assign op_pick op_un op_box op_nc op_mf op_ex op_min op_max get put del nth evs evp sets setN ones popTo args0 AV.ren AV.renL rho List.take_succ_cons List.take_zero List.drop_succ_cons List.drop_zero Option.isNone_none Option.isNone_some o_al134 o_al29 o_al75 o_ap22 o_ap34 o_ap41 o_bi121 o_bi2 o_bi21 o_bi3 o_bi4 o_bi5 o_bi73 o_bi79 o_bi9 o_bi96 o_bs22_0 o_bs22_1 o_bs34_1 o_bs41_0 o_bs41_1 o_bs41_5 o_bu120 o_bu134 o_bu29 o_bu78 o_cn121 o_cn2 o_cn21 o_cn3 o_cn5 o_cn79 o_cn96 o_cv121_5 o_cv121_79 o_cv121_96 o_cv2_96 o_cv34_9 o_cv3_5 o_cv3_79 o_cv3_96 o_cv5_121 o_cv5_21 o_cv5_3 o_cv5_96 o_cv79_121 o_cv79_3 o_cv96_121 o_cv96_2 o_cv96_5 o_fa134_0 o_fa134_1 o_fa29_0 o_fa29_1 o_fa51_0 o_fa51_1 o_fa75_0 o_fa75_1 o_fa78_0 o_fa78_1 o_fa78_2 o_ia22 o_ia34 o_ia41 o_ib4 o_ip73 o_ip90 o_ix9 o_ld134 o_ld22 o_ld29 o_ld3 o_ld34 o_ld4 o_ld5 o_ld51 o_ld73 o_ld9 o_ld96 o_ln22 o_ln34 o_ln41 o_ln9 o_mk22 o_mk34 o_mk41 o_sl22 o_sl34 o_sl41 o_sl9 o_st134 o_st22 o_st29 o_st3 o_st34 o_st4 o_st5 o_st73 o_st9 o_zb22 o_zb34 o_zb41 I tsI slI renL_ints blk_ren en_live en_dead List.set_cons_zero List.set_cons_succ List.map_cons List.map_nil List.append_nil frzF frzS AV.frz AV.frzL frzL_ints ints_all ints_all' ints_take1 ints_mk ints_mk1 mk_length res_ints resOk_ints plain_ints plainA plainL plainE plainS List.all_cons List.all_nil strT slS renL_strs frzL_strs res_strs resOk_strs plain_strs strs_all strs_all' strs_length
/-! ### Texts and limbs, plainly -/
theorem valF_zeros (k : Nat) (l : List UInt8) : valF 0 (List.replicate k 48 ++ l) = valF 0 l := by
  induction k with
  | zero => rfl
  | succ k ih =>
    rw [List.replicate_succ, List.cons_append, valF_cons]
    exact ih
theorem pzr_list (s : ByteArray) (k : Nat) : (pzr s k).data.toList = List.replicate k 48 ++ s.data.toList := by
  induction k with
  | zero => rfl
  | succ k ih =>
    rw [pzr, ByteArray.data_append, Array.toList_append, ih, List.replicate_succ]
    rfl
theorem pad9_list (r : Nat) (hr : r < 1000000000) : pad9 (r : Int) = List.replicate (9 - (Lib.decDigits r).length) 48 ++ Lib.decDigits r ∧ (Lib.decDigits r).length ≤ 9 := by
  have h9 : (Lib.decDigits r).length ≤ 9 := by
    rw [Lib.decDigits_length]
    exact nd_le 8 r (by omega)
  refine ⟨?_, h9⟩
  unfold pad9
  rw [itoa_n]
  have hs : (⟨(Lib.decDigits r).toArray⟩ : ByteArray).size = (Lib.decDigits r).length := List.size_toArray
  have hd : (⟨(Lib.decDigits r).toArray⟩ : ByteArray).data.toList = Lib.decDigits r := by simp
  unfold pz
  rw [if_neg (by decide), pzr_list, hd, hs, show ((9 : Int) - ((Lib.decDigits r).length : Int)).toNat = 9 - (Lib.decDigits r).length by omega]
theorem pad9_facts (r : Nat) (hr : r < 1000000000) : (pad9 (r : Int)).length = 9 ∧ (∀ c ∈ pad9 (r : Int), dgt c) ∧ valF 0 (pad9 (r : Int)) = r := by
  obtain ⟨h1, h2⟩ := pad9_list r hr
  rw [h1]
  refine ⟨by rw [List.length_append, List.length_replicate]; omega, fun c hc => ?_, by rw [valF_zeros, dd_val]⟩
  rw [List.mem_append] at hc
  rcases hc with hc | hc
  · obtain ⟨_, rfl⟩ := List.mem_replicate.1 hc
    decide
  · exact dd_dgt r c hc
theorem dd_split (q r : Nat) (hq : 1 ≤ q) (hr : r < 1000000000) : Lib.decDigits (q * 1000000000 + r) = Lib.decDigits q ++ pad9 (r : Int) := by
  obtain ⟨h1, h2, h3⟩ := pad9_facts r hr
  have hv : valF 0 (Lib.decDigits q ++ pad9 (r : Int)) = q * 1000000000 + r := by
    rw [valF_append, dd_val, valF_eq, h1, h3]
  rw [← hv]
  refine dd_of_val _ _ rfl (fun c hc => ?_) (fun c t e => ?_) (fun h => dd_ne q (List.append_eq_nil_iff.1 h).1)
  · rw [List.mem_append] at hc
    rcases hc with hc | hc
    · exact dd_dgt q c hc
    · exact h2 c hc
  · obtain ⟨y, u, hy⟩ := List.exists_cons_of_ne_nil (dd_ne q)
    rw [hy, List.cons_append] at e
    injection e with e1 e2
    subst e1
    exact dd_head hq hy
theorem ntA_dg (n : Nat) (hn : 1 ≤ n) : ntA (dg n) = Lib.decDigits n := by
  induction n using Nat.strongRecOn with
  | _ n ih =>
    rw [dg_pos (by omega), ntA]
    by_cases h : n / 1000000000 = 0
    · rw [h, dg_zero, if_pos rfl, itoa_n, show n % 1000000000 = n by omega]
    · have h1 : dg (n / 1000000000) ≠ [] := fun e => h (dg_nil e)
      rw [if_neg h1, ih (n / 1000000000) (by omega) (by omega), ← dd_split (n / 1000000000) (n % 1000000000) (by omega) (by omega)]
      congr 1
      omega
theorem ntL_dg (n : Nat) : ntL (dg n) = Lib.decDigits n := by
  by_cases h : n = 0
  · subst h
    rw [dg_zero, dd_zero]
    rfl
  · unfold ntL
    rw [if_neg (fun e => h (dg_nil e)), ntA_dg n (by omega)]
/-- The limbs that a text of digits spells, nine digits each, from its end. -/
def cw (l : List UInt8) (e : Nat) : List Int :=
  if h : e = 0 then [] else ((valF 0 ((l.take e).drop (e - 9)) : Nat) : Int) :: cw l (e - 9)
termination_by e
decreasing_by omega
theorem cw_zero (l : List UInt8) : cw l 0 = [] := by rw [cw]; simp
theorem cw_pos (l : List UInt8) {e : Nat} (h : e ≠ 0) : cw l e = ((valF 0 ((l.take e).drop (e - 9)) : Nat) : Int) :: cw l (e - 9) := by rw [cw, dif_neg h]
theorem chunk_len (l : List UInt8) (e : Nat) (h : e ≤ l.length) : ((l.take e).drop (e - 9)).length ≤ 9 := by
  rw [List.length_drop, List.length_take]
  omega
theorem chunk_dgt {l : List UInt8} (hd : ∀ c ∈ l, dgt c) (e : Nat) : ∀ c ∈ (l.take e).drop (e - 9), dgt c := fun c hc => hd c (List.mem_of_mem_take (List.mem_of_mem_drop hc))
theorem chunk_lt {l : List UInt8} (hd : ∀ c ∈ l, dgt c) (e : Nat) (h : e ≤ l.length) : valF 0 ((l.take e).drop (e - 9)) < 1000000000 := by
  have h1 := valF_lt _ (chunk_dgt hd e)
  have h2 : 10 ^ ((l.take e).drop (e - 9)).length ≤ 10 ^ 9 := Nat.pow_le_pow_right (by decide) (chunk_len l e h)
  omega
theorem cw_facts {l : List UInt8} (hd : ∀ c ∈ l, dgt c) (e : Nat) (h : e ≤ l.length) : Dig (cw l e) ∧ val (cw l e) = valF 0 (l.take e) ∧ 9 * (cw l e).length ≤ e + 8 := by
  induction e using Nat.strongRecOn with
  | _ e ih =>
    by_cases h0 : e = 0
    · subst h0
      rw [cw_zero]
      exact ⟨Dig_nil, rfl, by simp⟩
    · obtain ⟨a, b, c⟩ := ih (e - 9) (by omega) (by omega)
      have hlt := chunk_lt hd e h
      rw [cw_pos l h0]
      refine ⟨Dig_cons.2 ⟨⟨by omega, by omega⟩, a⟩, ?_, ?_⟩
      · rw [val, b, Int.toNat_natCast]
        have h1 : l.take e = l.take (e - 9) ++ (l.take e).drop (e - 9) := by
          have := (List.take_append_drop (e - 9) (l.take e)).symm
          rwa [List.take_take, Nat.min_eq_left (by omega)] at this
        have h2 : valF 0 (l.take e) = valF 0 (l.take (e - 9)) * 10 ^ ((l.take e).drop (e - 9)).length + valF 0 ((l.take e).drop (e - 9)) := by
          rw [← valF_eq, ← valF_append, ← h1]
        rw [h2]
        by_cases h9 : e < 9
        · rw [show e - 9 = 0 by omega]
          simp [valF]
        · have h3 : ((l.take e).drop (e - 9)).length = 9 := by rw [List.length_drop, List.length_take]; omega
          rw [h3]
          omega
      · rw [List.length_cons]
        omega
/-- What both answer. -/
def pnB (s : ByteArray) : Bool := isDig s && decide (s.size ≤ 540) && !(decide (1 < s.size) && decide (byteAt s 0 = 48))
def pnL (s : ByteArray) : List Int := if pnB s = true then dg (valF 0 s.data.toList) else []
theorem dd_same {s : ByteArray} (h : isDig s = true) : (Lib.decDigits (valF 0 s.data.toList) = s.data.toList) ↔ ¬ (1 < s.size ∧ byteAt s 0 = 48) := by
  obtain ⟨hd, hne⟩ := (isDig_iff s).1 h
  have hsz := size_eq s
  unfold byteAt
  generalize s.data.toList = l at *
  obtain ⟨c, r, rfl⟩ := List.exists_cons_of_ne_nil hne
  have h0 : (c :: r).getD 0 0 = c := rfl
  rw [h0, hsz, List.length_cons]
  have hc := hd c (List.mem_cons_self ..)
  unfold dgt at hc
  constructor
  · rintro he ⟨h1, h2⟩
    by_cases hv : valF 0 (c :: r) = 0
    · rw [hv, dd_zero] at he
      injection he with e1 e2
      subst e2
      simp at h1
    · have := dd_head (u := valF 0 (c :: r)) (by omega) he
      exact this (UInt8.toNat_inj.1 (by show c.toNat = 48; omega))
  · intro hn
    by_cases h48 : c = 48
    · subst h48
      have hr : r = [] := by
        cases r with
        | nil => rfl
        | cons x t =>
          refine absurd ⟨?_, rfl⟩ hn
          simp
      subst hr
      show Lib.decDigits 0 = [48]
      exact dd_zero
    · exact dd_of_val _ _ rfl hd (fun x t e => by injection e with e1 e2; exact e1 ▸ h48) (by simp)

end Go.Proofs.YtjnlpomfjlpikaaDoor.Ab
