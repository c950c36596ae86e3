/- Contracts of the given program's functions and of the reference's (walks). -/
import Derived.Test.YtjnlpomfjlpikaaDoorAbT
import Derived.Test.YtjnlpomfjlpikaaDoorAbP
import Derived.Test.YtjnlpomfjlpikaaDoorAbQ
import Derived.Test.YtjnlpomfjlpikaaDoorAbS
import Derived.Test.YtjnlpomfjlpikaaDoorAbI
import Derived.Test.YtjnlpomfjlpikaaDoorW1
import Derived.Test.YtjnlpomfjlpikaaDoorW2
import Derived.Test.YtjnlpomfjlpikaaDoorW8
import Derived.Test.YtjnlpomfjlpikaaDoorW9
import Derived.Test.YtjnlpomfjlpikaaDoorW54
import Derived.Test.YtjnlpomfjlpikaaDoorW60
import Derived.Test.YtjnlpomfjlpikaaDoorW61
import Derived.Test.YtjnlpomfjlpikaaDoorW62
import Derived.Test.YtjnlpomfjlpikaaDoorW72
import Derived.Lib.ItoaLen
set_option linter.unusedVariables false
set_option linter.unusedSimpArgs false
set_option maxRecDepth 10000
namespace Go.Proofs.YtjnlpomfjlpikaaDoor.Ab
open Go Go.RowKit
attribute [local go_sem] q_run q_seq q_skip q_block q_exit q_cond q_region q_nil q_op q_blk q_loop q_ret q_open q_inv q_fin q_go q_h0 q_h1 q_gskip q_stepC q_brt q_brf q_stepX q_sskip q_sskip0 q_val q_need q_new q_newc q_sv q_sto q_c1 q_c2 q_c3 q_c4 q_c5 q_c6 q_c7 q_c8 q_c9 q_c10 q_c11 q_c12 q_c13 q_c14 q_c15 q_c16 q_c17 q_c18 q_c19 q_c20 q_c21 q_c22 q_g0 q_g1 q_gC q_gD q_gE q_gB1 q_gB2 q_gB3 q_gB4 q_ev1 q_ev2 q_ev3 q_evo0 q_evo1 q_rv q_rva q_o1 q_o2 q_pk1 q_pk2 q_ld1p q_ld1e q_ld1t q_ldnp q_ldne q_ldnt q_sub0 q_sub1 q_subc q_stS q_stT q_box q_bldr q_bld q_fill0 q_fill1 q_fillB q_bsr q_bsl q_fap q_fat q_iasl q_iats q_lnsl q_lnts q_lnv q_lnS q_exA q_mkB q_lo0 q_lo1 q_hi0 q_hi1 q_slcA q_slcU1 q_slcU2 q_slcT1 q_slcT2 q_slsA q_slsU q_slsT q_apA q_apC q_srcE1 q_srcE2 q_srcE3 q_srcA1 q_srcB q_srcA2 q_srcA3 q_fnA q_nc1 q_nc2 q_bin q_bin2 q_bin3 q_bin4 q_bin5 q_bin6 q_bin7 q_bin8 q_bin9 q_bin10 q_i1 q_i2 q_i3 q_i4 q_i5 q_i6 q_i7 q_i8 q_i9 q_i10 q_i11 q_s1 q_s2 q_s3 q_u1 q_u2 q_min q_max q_ce1 q_ce2 q_ce3 q_ce4 q_ce5 q_ce6 q_ce7 q_ce8 q_ce9 q_ce10 q_ce11 q_on2 q_on3 q_on4 q_on5 q_on6 q_on7 q_on8 q_on9 q_on10 q_on11 q_enr1 q_gEt q_zr0 q_zr1 q_zgs q_zgg q_zk1 q_zk2 q_zd q_zv1 q_zv2 q_zv3 q_zp1 q_zp2 q_zf q_zs1 q_zs2 q_za q_za1 q_fi0 q_fi1 q_ln0 q_ln1 q_h01 q_h02 q_h03 q_h04 q_h05 q_h06 q_h07 q_h08 q_h09 q_h10 q_h11 q_h12 q_h13 q_h14 q_h15 q_h16 q_h17 q_h18 q_h19 q_h20 q_h21 q_h22 q_h23 q_h24 q_al q_b0 q_rs1 q_rs2 q_rs3 q_rs4 q_rs5 q_rs6 q_rs7 q_rs8 q_ro1 q_ro2 q_ro3 q_ro4 q_ro5 q_ro6 q_ro7 q_ro8 q_ixS q_cvS1 q_cvN q_u8s0 q_u8s1 q_u8s2 q_strS q_h25 q_shr q_i12 q_i13 q_bn q_bn0 q_bn1 q_zbn q_zn cond_true cond_false decide_true decide_false List.length_cons List.length_nil List.nil_append List.cons_append true_and and_true List.toList_toArray Option.map_some Nat.zero_add Nat.add_zero Bool.and_self Bool.and_true Bool.true_and Bool.and_false Bool.false_and Bool.not_true Bool.not_false FitF FitL LendL wb keys nodupB firstOk tupA op_move op_assign op_pick op_un op_box op_nc op_mf op_ex op_min op_max get put del nth evs evp sets setN ones popTo args0 AV.ren AV.renL rho List.take_succ_cons List.take_zero List.drop_succ_cons List.drop_zero Option.isNone_none Option.isNone_some o_al134 o_al29 o_al75 o_ap22 o_ap34 o_ap41 o_bi121 o_bi2 o_bi21 o_bi3 o_bi4 o_bi5 o_bi73 o_bi79 o_bi9 o_bi96 o_bs22_0 o_bs22_1 o_bs34_1 o_bs41_0 o_bs41_1 o_bs41_5 o_bu120 o_bu134 o_bu29 o_bu78 o_cn121 o_cn2 o_cn21 o_cn3 o_cn5 o_cn79 o_cn96 o_cv121_5 o_cv121_79 o_cv121_96 o_cv2_96 o_cv34_9 o_cv3_5 o_cv3_79 o_cv3_96 o_cv5_121 o_cv5_21 o_cv5_3 o_cv5_96 o_cv79_121 o_cv79_3 o_cv96_121 o_cv96_2 o_cv96_5 o_fa134_0 o_fa134_1 o_fa29_0 o_fa29_1 o_fa51_0 o_fa51_1 o_fa75_0 o_fa75_1 o_fa78_0 o_fa78_1 o_fa78_2 o_ia22 o_ia34 o_ia41 o_ib4 o_ip73 o_ip90 o_ix9 o_ld134 o_ld22 o_ld29 o_ld3 o_ld34 o_ld4 o_ld5 o_ld51 o_ld73 o_ld9 o_ld96 o_ln22 o_ln34 o_ln41 o_ln9 o_mk22 o_mk34 o_mk41 o_sl22 o_sl34 o_sl41 o_sl9 o_st134 o_st22 o_st29 o_st3 o_st34 o_st4 o_st5 o_st73 o_st9 o_zb22 o_zb34 o_zb41 I tsI slI renL_ints blk_ren en_live en_dead List.set_cons_zero List.set_cons_succ List.map_cons List.map_nil List.append_nil frzF frzS AV.frz AV.frzL frzL_ints ints_all ints_all' ints_take1 ints_mk ints_mk1 mk_length res_ints resOk_ints plain_ints plainA plainL plainE plainS List.all_cons List.all_nil bigO bigT ratO ratT strT slS renL_strs frzL_strs res_strs resOk_strs plain_strs strs_all strs_all' strs_length
/-! ### FormatNat -/
open Go.RowKit
theorem inB_bd {z : Int} (h : inB z = true) : 0 ≤ z ∧ z ≤ 999999999 := by
  unfold inB at h
  rw [Bool.and_eq_true] at h
  exact ⟨by simpa using h.1, by simpa using h.2⟩
theorem pz_size (s : ByteArray) : (pz s 9).size = max 9 s.size := by
  unfold pz
  rw [if_neg (by decide), pzr_size]
  omega
theorem itoa_sz (z : Int) (h0 : -9223372036854775808 ≤ z) (h1 : z ≤ 9223372036854775807) : (⟨(Lib.itoa z).toArray⟩ : ByteArray).size ≤ 21 := by
  have := Lib.itoa_length_le z h0 h1
  show (Lib.itoa z).toArray.size ≤ _
  rw [List.size_toArray]
  omega
theorem pad9_len (z : Int) (h0 : -9223372036854775808 ≤ z) (h1 : z ≤ 9223372036854775807) : (pad9 z).length ≤ 21 := by
  unfold pad9
  rw [Array.length_toList]
  have h2 := pz_size ⟨(Lib.itoa z).toArray⟩
  have h3 := itoa_sz z h0 h1
  have h4 : (pz ⟨(Lib.itoa z).toArray⟩ 9).data.size = (pz ⟨(Lib.itoa z).toArray⟩ 9).size := rfl
  omega
theorem ntA_len : ∀ zs : List Int, (∀ z ∈ zs, -9223372036854775808 ≤ z ∧ z ≤ 9223372036854775807) → (ntA zs).length ≤ 21 * zs.length
  | [], _ => by simp [ntA]
  | z :: r, h => by
    obtain ⟨h0, h1⟩ := h z (List.mem_cons_self ..)
    have h2 := Lib.itoa_length_le z h0 h1
    have h3 := pad9_len z h0 h1
    have h4 := ntA_len r (fun x hx => h x (List.mem_cons_of_mem _ hx))
    rw [ntA, List.length_cons]
    split
    · omega
    · rw [List.length_append]; omega
theorem ntA_dlen (zs : List Int) (h : ∀ z ∈ zs, -9223372036854775808 ≤ z ∧ z ≤ 9223372036854775807) (k : Nat) : (ntA (zs.drop k)).length ≤ 21 * zs.length := by
  have h1 := ntA_len (zs.drop k) (fun z hz => h z (List.mem_of_mem_drop hz))
  rw [List.length_drop] at h1
  omega
set_option maxHeartbeats 1000000 in
theorem natText_nil (A : Option Addr) (cap : Nat) (w : World) : Calls Tryd.prog 47 #[.slice A 0 cap] w fun e w' => e = .returned (.string ⟨#[48]⟩) ∧ w' = w := by
  go_enter Tryd.func47, Tryd.ntmps47
  go_wp2
  go_ret
  exact ⟨rfl, rfl⟩
theorem impl_natText_cw (zs : List Int) (h : ∀ z ∈ zs, -9223372036854775808 ≤ z ∧ z ≤ 9223372036854775807) (hl : zs.length ≤ 1048576) : ACw Tab10 Tryd.prog 47 [tsI zs] (.v (.string ⟨(ntL zs).toArray⟩)) := by
  refine ⟨⟨_, Tryd.func47, by kernel_rfl, by kernel_rfl⟩, fun ι S w us hΦ hs ha => ?_⟩
  have fin : Calls Tryd.prog 47 us.toArray w fun e w' => e = .returned (.string ⟨(ntL zs).toArray⟩) ∧ Below w.heap.size w w' := by
    simp only [VRe, tsI, VR] at ha
    obtain ⟨u, r, rfl, ⟨A, cap, rfl, hcap, hA⟩, rfl⟩ := ha
    cases zs with
    | nil =>
      refine (natText_nil A cap w).mono ?_
      rintro o w' ⟨rfl, rfl⟩
      exact ⟨rfl, Below.refl _ _⟩
    | cons x l =>
      rcases hA with hA | ⟨g, o, c, ty, fz, rfl, h1, h2, h3⟩
      · cases hA
      · refine natText_calls (some ⟨g, o, none⟩) cap (x :: l) w (by simp) g o rfl (hs.imm g h1) (fun j y hj => ?_) h hcap hl (fun k => by have := ntA_dlen (x :: l) h k; omega) hΦ
        rw [cell_at h2]
        obtain ⟨u, h4, h5⟩ := h3.get (i := j) (x := I y) (by unfold ints; rw [List.getElem?_map, hj]; rfl)
        simp only [I, VR] at h5
        subst h5
        rw [List.getElem?_drop] at h4
        simpa using h4
  refine fin.mono ?_
  rintro o w' ⟨rfl, B⟩
  refine ⟨_, ι, S, rfl, by simp only [VR], ⟨fun n b hn => by simp at hn, fun n m b b' g hn => by simp at hn, fun n b g hn => by simp at hn, fun k hk => Nat.lt_of_lt_of_le (hs.imm k hk) B.size, fun n hn => hs.top n hn⟩, ⟨B.os, B.tape, B.output, B.size, fun k hk _ => B.block k hk, fun k c ty fz h => ?_, fun _ h => h, fun k hk => .inr hk, fun _ h => .inl h, Nat.le_refl _, fun n hn => by simp at hn⟩⟩
  have hk : k < w.heap.size := (Array.getElem?_eq_some_iff.1 h).1
  exact ⟨c, by rw [B.block k hk, h], rfl⟩
theorem nok_bd {a : List Int} (h : nok a = true) : (∀ z ∈ a, 0 ≤ z ∧ z ≤ 999999999) ∧ a.length ≤ 60 := by
  rw [nok_eq, Bool.and_eq_true] at h
  obtain ⟨h1, h2⟩ := h
  refine ⟨fun z hz => inB_bd (List.all_eq_true.1 h2 z hz), ?_⟩
  unfold ends0 at h1
  rw [Bool.and_eq_true] at h1
  simpa using h1.1
/-- What both answer. -/
def fmN (a : List Int) : ByteArray := if nok a = true then ⟨(ntL a).toArray⟩ else ⟨#[]⟩
theorem impl_FormatNat_cw (a : List Int) (ha : a.length ≤ 1048576) : ACw Tab10 Tryd.prog 36 [tsI a] (.v (.string (fmN a))) := by
  refine ACw.intro (fn := Tryd.f36) (c := ?_) 8 Tryd.func36 (by rfl) (by kernel_rfl) (by kernel_rfl) (Nat.le_of_ble_eq_true rfl) fun e hP hf hn h0 hw0 hE => ?_
  have hte : TEok e.P te := hP ▸ teOk
  have hmx : e.P.follows .mixedOrders = true := hP ▸ mixedOk
  refine Go.run hte hn 100 ?_; simp only [go_sem, Nat.reduceBEq, Nat.reduceLT, Nat.reduceAdd, Nat.reduceMul, Nat.reduceLeDiff]
  refine Go.call0 hP (impl_NatOk_c a (by omega)) rfl rfl rfl (by omega) (by simp [go_sem, tsI, slI, I, renL_ints, blk_ren, en_live, en_dead, ints_length, ints_nil, ints_one]) ?_
  unfold fmN at hE
  cases hk : nok a
  · rw [hk, if_neg (by decide)] at hE
    refine Go.run hte hn 100 ?_; simp only [go_sem, Nat.reduceBEq, Nat.reduceLT, Nat.reduceAdd, Nat.reduceMul, Nat.reduceLeDiff]
    refine Go.retG hte hE hf [] rfl (by simp [go_sem, tsI, slI, I, renL_ints, blk_ren, en_live, en_dead, ints_length, ints_nil, ints_one]) rfl (by rw [h0]; rfl) trivial
  · rw [hk, if_pos rfl] at hE
    obtain ⟨hb, _⟩ := nok_bd hk
    refine Go.run hte hn 100 ?_; simp only [go_sem, Nat.reduceBEq, Nat.reduceLT, Nat.reduceAdd, Nat.reduceMul, Nat.reduceLeDiff]
    refine Go.call0w hP h0 (stays_tab10) hw0 (impl_natText_cw a (fun z hz => by have := hb z hz; omega) ha) rfl rfl rfl (by omega) (by simp [go_sem, tsI, slI, I, renL_ints, blk_ren, en_live, en_dead, ints_length, ints_nil, ints_one]) ?_
    refine Go.run hte hn 100 ?_; simp only [go_sem, Nat.reduceBEq, Nat.reduceLT, Nat.reduceAdd, Nat.reduceMul, Nat.reduceLeDiff]
    refine Go.retG hte hE hf [] rfl (by simp [go_sem, tsI, slI, I, renL_ints, blk_ren, en_live, en_dead, ints_length, ints_nil, ints_one]) rfl (by rw [h0]; rfl) trivial
theorem ntA_rd (zs : List Int) (k : Nat) (h : k < zs.length) : ntA (zs.drop k) = if k + 1 = zs.length then Lib.itoa (rd zs (k : Int)) else ntA (zs.drop (k + 1)) ++ pad9 (rd zs (k : Int)) := by
  rw [ntA_drop zs k h, rd_nat, List.getD_eq_getElem?_getD, List.getElem?_eq_getElem h, Option.getD_some]
theorem rd_mem' (zs : List Int) (k : Nat) (h : k < zs.length) : rd zs (k : Int) ∈ zs := by
  rw [rd_nat, List.getD_eq_getElem?_getD, List.getElem?_eq_getElem h, Option.getD_some]
  exact List.getElem_mem h
theorem str_app' (a : List UInt8) (s : ByteArray) : (⟨a.toArray⟩ ++ s : ByteArray) = ⟨(a ++ s.data.toList).toArray⟩ := by
  apply ByteArray.ext
  rw [ByteArray.data_append]
  simp
theorem spec_FormatNat_c (a : List Int) (ha : a.length ≤ 1048576) : AC Tryd.prog 34 [tsI a] [] (.v (.string (fmN a))) [] := by
  refine AC.intro (fn := Tryd.f34) (c := ?_) 34 Tryd.func34 (by rfl) (by kernel_rfl) (by kernel_rfl) (Nat.le_of_ble_eq_true rfl) fun e hP hf hn h0 hE => ?_
  have hte : TEok e.P te := hP ▸ teOk
  have hmx : e.P.follows .mixedOrders = true := hP ▸ mixedOk
  refine Go.run hte hn 100 ?_; simp only [go_sem, Nat.reduceBEq, Nat.reduceLT, Nat.reduceAdd, Nat.reduceMul, Nat.reduceLeDiff]
  refine Go.call0 hP (spec_NatOk_c a (by omega)) rfl rfl rfl (by omega) (by simp [go_sem, tsI, slI, I, renL_ints, blk_ren, en_live, en_dead, ints_length, ints_nil, ints_one]) ?_
  unfold fmN at hE
  cases hk : nok a
  · rw [hk, if_neg (by decide)] at hE
    refine Go.run hte hn 100 ?_; simp only [go_sem, Nat.reduceBEq, Nat.reduceLT, Nat.reduceAdd, Nat.reduceMul, Nat.reduceLeDiff]
    refine Go.retG hte hE hf [] rfl (by simp [go_sem, tsI, slI, I, renL_ints, blk_ren, en_live, en_dead, ints_length, ints_nil, ints_one]) rfl (by rw [h0]; rfl) trivial
  · rw [hk, if_pos rfl] at hE
    obtain ⟨hb, h60⟩ := nok_bd hk
    by_cases hnil : a = []
    · subst hnil
      have e0 : ntL [] = [48] := rfl
      rw [e0] at hE
      refine Go.run hte hn 100 ?_; simp only [go_sem, Nat.reduceBEq, Nat.reduceLT, Nat.reduceAdd, Nat.reduceMul, Nat.reduceLeDiff]
      refine Go.retG hte hE hf [] rfl (by simp [go_sem, tsI, slI, I, renL_ints, blk_ren, en_live, en_dead, ints_length, ints_nil, ints_one]) rfl (by rw [h0]; rfl) trivial
    · have h1 : 1 ≤ a.length := List.length_pos_iff.2 hnil
      have d1 : decide ((a.length : Int) = 0) = false := decide_eq_false (by omega)
      unfold ntL at hE
      rw [if_neg hnil] at hE
      obtain ⟨m, hm⟩ : ∃ m, a.length = m + 1 := ⟨a.length - 1, by omega⟩
      have w1 : IntKind.i64.wrap ((a.length : Int) - 1) = (m : Int) := by rw [W64] <;> omega
      have w2 : IntKind.i64.wrap ((a.length : Int) - 2) = (m : Int) - 1 := by rw [W64] <;> omega
      have hnth := nth_ints (l := a) (n := m) (by omega)
      have hz := hb _ (rd_mem' a m (by omega))
      have hst := ntA_rd a m (by omega)
      rw [if_pos hm.symm] at hst
      have hln := ntA_dlen a (fun z hz => by have := hb z hz; omega)
      refine Go.run hte hn 100 ?_; simp only [go_sem, Nat.reduceBEq, Nat.reduceLT, Nat.reduceAdd, Nat.reduceMul, Nat.reduceLeDiff, d1, w1, Int.toNat_natCast, Nat.mul_one, hnth]
      refine ⟨⟨by omega, by omega, by rw [ints_length]; omega⟩, ?_⟩
      have CF := spec_FormatInt_c ((rd a (m : Int)).natAbs + 1) (rd a (m : Int)) (by omega) (by omega) (by omega)
      rw [← hst] at CF
      refine Go.call0 hP (CF) rfl rfl rfl (by omega) (by simp [go_sem, tsI, slI, I, renL_ints, blk_ren, en_live, en_dead, ints_length, ints_nil, ints_one]) ?_
      refine Go.run hte hn 100 ?_; simp only [go_sem, Nat.reduceBEq, Nat.reduceLT, Nat.reduceAdd, Nat.reduceMul, Nat.reduceLeDiff, w2]
      clear hnth hz hst CF w1 w2 d1
      refine Go.enter (fun j : Nat => j ≤ m) (fun j => j) (fun j => [(0, tsI a), (3, .v (.string ⟨(ntA (a.drop j)).toArray⟩)), (4, I ((j : Int) - 1))]) (fun j => []) m [] (Nat.le_refl _) rfl rfl (by rw [h0]; rfl) (by simp [go_sem, tsI, slI, I, renL_ints, blk_ren, en_live, en_dead, ints_length, ints_nil, ints_one]) trivial ?_
      intro j hj
      by_cases h0j : j = 0
      · subst h0j
        have dA : decide ((0 : Int) ≤ ((0 : Nat) : Int) - 1) = false := by decide
        refine Go.run hte hn 100 ?_; simp only [go_sem, Nat.reduceBEq, Nat.reduceLT, Nat.reduceAdd, Nat.reduceMul, Nat.reduceLeDiff, dA, List.drop_zero]
        refine Go.retG hte hE hf [] rfl (by simp [go_sem, tsI, slI, I, renL_ints, blk_ren, en_live, en_dead, ints_length, ints_nil, ints_one]) rfl (by rw [h0]; rfl) trivial
      · obtain ⟨i, rfl⟩ : ∃ i, j = i + 1 := ⟨j - 1, by omega⟩
        have ei : (((i + 1 : Nat) : Int) - 1) = (i : Int) := by omega
        have dA : decide ((0 : Int) ≤ (i : Int)) = true := decide_eq_true (by omega)
        have hnth := nth_ints (l := a) (n := i) (by omega)
        have hz := hb _ (rd_mem' a i (by omega))
        have hst := ntA_rd a i (by omega)
        rw [if_neg (by omega)] at hst
        have hl2 := hln i
        rw [hst, List.length_append] at hl2
        have w3 : IntKind.i64.wrap ((i : Int) - 1) = (i : Int) - 1 := by rw [W64] <;> omega
        have CF := spec_FormatInt_c ((rd a (i : Int)).natAbs + 1) (rd a (i : Int)) (by omega) (by omega) (by omega)
        have hsz := itoa_sz (rd a (i : Int)) (by omega) (by omega)
        have CP := spec_PadZeros_c ⟨(Lib.itoa (rd a (i : Int))).toArray⟩ 9 (by omega) (by omega)
        have hps : (pz ⟨(Lib.itoa (rd a (i : Int))).toArray⟩ 9).data.toList = pad9 (rd a (i : Int)) := rfl
        generalize pz ⟨(Lib.itoa (rd a (i : Int))).toArray⟩ 9 = ps at CP hps
        have hpl : ps.size = (pad9 (rd a (i : Int))).length := by rw [← hps, Array.length_toList]; rfl
        have hap : (⟨(ntA (a.drop (i + 1))).toArray⟩ ++ ps : ByteArray) = ⟨(ntA (a.drop i)).toArray⟩ := by rw [str_app', hps, hst]
        have hsl : (ntA (a.drop (i + 1))).toArray.size = (ntA (a.drop (i + 1))).length := List.size_toArray
        refine Go.run hte hn 100 ?_; simp only [go_sem, Nat.reduceBEq, Nat.reduceLT, Nat.reduceAdd, Nat.reduceMul, Nat.reduceLeDiff, ei, dA, Int.toNat_natCast, Nat.mul_one, hnth]
        refine ⟨⟨by omega, by omega, by rw [ints_length]; omega⟩, ?_⟩
        refine Go.call0 hP (CF) rfl rfl rfl (by omega) (by simp [go_sem, tsI, slI, I, renL_ints, blk_ren, en_live, en_dead, ints_length, ints_nil, ints_one]) ?_
        refine Go.run hte hn 100 ?_; simp only [go_sem, Nat.reduceBEq, Nat.reduceLT, Nat.reduceAdd, Nat.reduceMul, Nat.reduceLeDiff]
        refine Go.call0 hP (CP) rfl rfl rfl (by omega) (by simp [go_sem, tsI, slI, I, renL_ints, blk_ren, en_live, en_dead, ints_length, ints_nil, ints_one]) ?_
        refine Go.run hte hn 100 ?_; simp only [go_sem, Nat.reduceBEq, Nat.reduceLT, Nat.reduceAdd, Nat.reduceMul, Nat.reduceLeDiff, hap, w3]
        refine ⟨by omega, ?_⟩
        refine Go.round i [] (by omega) (by omega) rfl rfl (by rw [h0]; rfl) (by simp [go_sem, tsI, slI, I, renL_ints, blk_ren, en_live, en_dead, ints_length, ints_nil, ints_one]) trivial

end Go.Proofs.YtjnlpomfjlpikaaDoor.Ab
