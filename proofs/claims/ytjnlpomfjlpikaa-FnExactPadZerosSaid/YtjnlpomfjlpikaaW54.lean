/- Contracts of the given program's functions and of the reference's (walks). -/
import Derived.Test.YtjnlpomfjlpikaaAbT
import Derived.Test.YtjnlpomfjlpikaaAbP
import Derived.Test.YtjnlpomfjlpikaaAbS
import Derived.Shelf.Strings.Repeat
set_option linter.unusedVariables false
set_option linter.unusedSimpArgs false
set_option maxRecDepth 10000
namespace Go.Proofs.Ytjnlpomfjlpikaa.Ab
open Go Go.RowKit
attribute [local go_sem] q_run q_seq q_skip q_block q_exit q_cond q_region q_nil q_op q_blk q_loop q_ret q_open q_inv q_fin q_go q_h0 q_h1 q_gskip q_stepC q_brt q_brf q_stepX q_sskip q_sskip0 q_val q_need q_new q_newc q_sv q_sto q_c1 q_c2 q_c3 q_c4 q_c5 q_c6 q_c7 q_c8 q_c9 q_c10 q_c11 q_c12 q_c13 q_c14 q_c15 q_c16 q_c17 q_c18 q_c19 q_c20 q_c21 q_c22 q_g0 q_g1 q_gC q_gD q_gE q_gB1 q_gB2 q_gB3 q_gB4 q_ev1 q_ev2 q_ev3 q_evo0 q_evo1 q_rv q_rva q_o1 q_o2 q_pk1 q_pk2 q_ld1p q_ld1e q_ld1t q_ldnp q_ldne q_ldnt q_sub0 q_sub1 q_subc q_stS q_stT q_box q_bldr q_bld q_fill0 q_fill1 q_fillB q_bsr q_bsl q_fap q_fat q_iasl q_iats q_lnsl q_lnts q_lnv q_lnS q_exA q_mkB q_lo0 q_lo1 q_hi0 q_hi1 q_slcA q_slcU1 q_slcU2 q_slcT1 q_slcT2 q_slsA q_slsU q_slsT q_apA q_apC q_srcE1 q_srcE2 q_srcE3 q_srcA1 q_srcB q_srcA2 q_srcA3 q_fnA q_nc1 q_nc2 q_bin q_bin2 q_bin3 q_bin4 q_bin5 q_bin6 q_bin7 q_bin8 q_bin9 q_bin10 q_i1 q_i2 q_i3 q_i4 q_i5 q_i6 q_i7 q_i8 q_i9 q_i10 q_i11 q_s1 q_s2 q_s3 q_u1 q_u2 q_min q_max q_ce1 q_ce2 q_ce3 q_ce4 q_ce5 q_ce6 q_ce7 q_ce8 q_ce9 q_ce10 q_ce11 q_on2 q_on3 q_on4 q_on5 q_on6 q_on7 q_on8 q_on9 q_on10 q_on11 q_enr1 q_gEt q_zr0 q_zr1 q_zgs q_zgg q_zk1 q_zk2 q_zd q_zv1 q_zv2 q_zv3 q_zp1 q_zp2 q_zf q_zs1 q_zs2 q_za q_za1 q_fi0 q_fi1 q_ln0 q_ln1 q_h01 q_h02 q_h03 q_h04 q_h05 q_h06 q_h07 q_h08 q_h09 q_h10 q_h11 q_h12 q_h13 q_h14 q_h15 q_h16 q_h17 q_h18 q_h19 q_h20 q_h21 q_h22 q_h23 q_h24 q_al q_b0 q_rs1 q_rs2 q_rs3 q_rs4 q_rs5 q_rs6 q_rs7 q_rs8 q_ro1 q_ro2 q_ro3 q_ro4 q_ro5 q_ro6 q_ro7 q_ro8 q_ixS q_cvS1 q_cvN q_u8s0 q_u8s1 q_u8s2 q_strS q_h25 q_shr q_i12 q_i13 q_bn q_bn0 q_bn1 q_zbn q_zn cond_true cond_false decide_true decide_false List.length_cons List.length_nil List.nil_append List.cons_append true_and and_true List.toList_toArray Option.map_some Nat.zero_add Nat.add_zero Bool.and_self Bool.and_true Bool.true_and Bool.and_false Bool.false_and Bool.not_true Bool.not_false FitF FitL LendL wb keys nodupB firstOk tupA op_move op_assign op_pick op_un op_box op_nc op_mf op_ex op_min op_max get put del nth evs evp sets setN ones popTo args0 AV.ren AV.renL rho List.take_succ_cons List.take_zero List.drop_succ_cons List.drop_zero Option.isNone_none Option.isNone_some o_al31 o_bi24 o_bi28 o_bi3 o_bi42 o_bi5 o_bi9 o_cn24 o_cn3 o_cn39 o_cn42 o_cn5 o_cv24_3 o_cv24_39 o_cv39_24 o_cv39_42 o_cv3_24 o_cv42_39 o_fa31_0 o_fa31_1 o_ip28 o_ip45 o_ix9 o_ld28 o_ld29 o_ln29 o_ln9 o_sl29 o_sl9 o_st28 o_st29 o_zb29 I tsI slI renL_ints blk_ren en_live en_dead List.set_cons_zero List.set_cons_succ List.map_cons List.map_nil List.append_nil frzF frzS AV.frz AV.frzL frzL_ints ints_all ints_all' ints_take1 ints_mk ints_mk1 mk_length res_ints resOk_ints plain_ints plainA plainL plainE plainS List.all_cons List.all_nil strT slS renL_strs frzL_strs res_strs resOk_strs plain_strs strs_all strs_all' strs_length
/-! ### Noughts ahead of a text -/
theorem AC.ofBelow {P : Program} {f : FuncId} {xs : List AV} {v : Value} (hc : Callable P f) (h : ∀ ι S w us, SR ι S [] w → VRe ι S w xs us → Calls P f us.toArray w fun o w' => o = .returned v ∧ Below w.heap.size w w') : AC P f xs [] (.v v) [] := by
  refine ⟨hc, fun ι S w us hs ha => (h ι S w us hs ha).mono ?_⟩
  rintro o w' ⟨rfl, B⟩
  refine ⟨v, ι, S, rfl, by simp only [VR], ⟨fun n b hn => by simp at hn, fun n m b b' g hn => by simp at hn, fun n b g hn => by simp at hn, fun k hk => Nat.lt_of_lt_of_le (hs.imm k hk) B.size, fun n hn => hs.top n hn⟩, ⟨B.os, B.tape, B.output, B.size, fun k hk _ => B.block k hk, fun k c ty fz h => ?_, fun _ h => h, fun k hk => .inr hk, fun _ h => .inl h, Nat.le_refl _, fun n hn => by simp at hn⟩⟩
  have hk : k < w.heap.size := (Array.getElem?_eq_some_iff.1 h).1
  exact ⟨c, by rw [B.block k hk, h], rfl⟩
open Go.Shelf
def laysRepeat_ren : Go.Shelf.Ren := ⟨fun | 105 => 6 | 212 => 7 | 99 => 8 | 165 => 9 | 166 => 10 | 170 => 11 | 169 => 12 | 263 => 13 | 264 => 14 | 206 => 15 | 240 => 16 | 241 => 17 | 276 => 18 | 277 => 19 | n => n, fun | 9 => 9 | 3 => 3 | 4 => 4 | 20 => 20 | 0 => 0 | 46 => 24 | 109 => 25 | 5 => 5 | 72 => 31 | 76 => 35 | 51 => 39 | 146 => 40 | 53 => 42 | 148 => 43 | 70 => 28 | 37 => 29 | 75 => 34 | 127 => 45 | 164 => 46 | 80 => 38 | n => n, fun | n => n⟩
theorem laysRepeat : Go.Proofs.Lays.n105 Try.prog laysRepeat_ren := {
  mixed := by kernel_rfl
  f99 := Try.func8.trans (congrArg some (by kernel_rfl))
  f105 := Try.func6.trans (congrArg some (by kernel_rfl))
  f165 := Try.func9.trans (congrArg some (by kernel_rfl))
  f166 := Try.func10.trans (congrArg some (by kernel_rfl))
  f169 := Try.func12.trans (congrArg some (by kernel_rfl))
  f170 := Try.func11.trans (congrArg some (by kernel_rfl))
  f206 := Try.func15.trans (congrArg some (by kernel_rfl))
  f212 := Try.func7.trans (congrArg some (by kernel_rfl))
  f240 := Try.func16.trans (congrArg some (by kernel_rfl))
  f241 := Try.func17.trans (congrArg some (by kernel_rfl))
  f263 := Try.func13.trans (congrArg some (by kernel_rfl))
  f264 := Try.func14.trans (congrArg some (by kernel_rfl))
  f276 := Try.func18.trans (congrArg some (by kernel_rfl))
  f277 := Try.func19.trans (congrArg some (by kernel_rfl))
  t0 := Try.underlying0
  a0 := Try.isAgg0
  z0 := Try.sizeOf0
  v0 := Try.zeroValue0
  t3 := Try.underlying3
  a3 := Try.isAgg3
  z3 := Try.sizeOf3
  v3 := Try.zeroValue3
  t4 := Try.underlying4
  a4 := Try.isAgg4
  z4 := Try.sizeOf4
  v4 := Try.zeroValue4
  t5 := Try.underlying5
  a5 := Try.isAgg5
  z5 := Try.sizeOf5
  v5 := Try.zeroValue5
  t9 := Try.underlying9
  a9 := Try.isAgg9
  z9 := Try.sizeOf9
  v9 := Try.zeroValue9
  t20 := Try.underlying20
  a20 := Try.isAgg20
  z20 := Try.sizeOf20
  v20 := Try.zeroValue20
  t37 := Try.underlying29
  a37 := Try.isAgg29
  z37 := Try.sizeOf29
  v37 := Try.zeroValue29
  t46 := Try.underlying24
  a46 := Try.isAgg24
  z46 := Try.sizeOf24
  v46 := Try.zeroValue24
  t51 := Try.underlying39
  a51 := Try.isAgg39
  z51 := Try.sizeOf39
  v51 := Try.zeroValue39
  t53 := Try.underlying42
  a53 := Try.isAgg42
  z53 := Try.sizeOf42
  v53 := Try.zeroValue42
  t70 := Try.underlying28
  a70 := Try.isAgg28
  z70 := Try.sizeOf28
  v70 := Try.zeroValue28
  t72 := Try.underlying31
  a72 := Try.isAgg31
  z72 := Try.sizeOf31
  v72 := Try.zeroValue31
  t75 := Try.underlying34
  a75 := Try.isAgg34
  z75 := Try.sizeOf34
  v75 := Try.zeroValue34
  t76 := Try.underlying35
  a76 := Try.isAgg35
  z76 := Try.sizeOf35
  v76 := Try.zeroValue35
  t109 := Try.underlying25
  a109 := Try.isAgg25
  z109 := Try.sizeOf25
  v109 := Try.zeroValue25
  t127 := Try.underlying45
  a127 := Try.isAgg45
  z127 := Try.sizeOf45
  v127 := Try.zeroValue45
  t146 := Try.underlying40
  a146 := Try.isAgg40
  z146 := Try.sizeOf40
  v146 := Try.zeroValue40
  t148 := Try.underlying43
  a148 := Try.isAgg43
  z148 := Try.sizeOf43
  v148 := Try.zeroValue43
  t164 := Try.underlying46
  a164 := Try.isAgg46
  z164 := Try.sizeOf46
  v164 := Try.zeroValue46 }
theorem laysRepeat_extra : Builder.Extra Try.prog laysRepeat_ren := {
  sizeBuilder := by kernel_rfl
  liesBuilder := by kernel_rfl
  t5 := by kernel_rfl
  a5 := fun w => ok_isAgg (teOk 5 t5 rfl) w
  z5 := fun w => ok_sizeOf (teOk 5 t5 rfl) w
  v5 := fun w => ok_zero (teOk 5 t5 rfl) w
  infoByte := by kernel_rfl
  cellsByte := by kernel_rfl
  sizeByte := by kernel_rfl
  neB5 := by decide }
theorem strings_Repeat_c (s : ByteArray) (c : Nat) (hc : c ≤ 9223372036854775807) (hlen : s.size * c ≤ 140737488355328) : AC Try.prog 6 [.v (.string s), I (c : Int)] [] (.v (.string ⟨(Lib.repeatL s.data.toList c).toArray⟩)) [] := by
  refine AC.ofBelow ⟨_, Try.func6, by kernel_rfl, by kernel_rfl⟩ fun ι S w us hs ha => ?_
  simp only [VRe, VR, I] at ha
  obtain ⟨u, r, rfl, rfl, v, r', rfl, rfl, rfl⟩ := ha
  exact Any.strings_Repeat laysRepeat laysRepeat_extra s c w hc hlen
def pzr (s : ByteArray) : Nat → ByteArray
  | 0 => s
  | j + 1 => ⟨#[48]⟩ ++ pzr s j
theorem pzr_size (s : ByteArray) (j : Nat) : (pzr s j).size = j + s.size := by
  induction j with
  | zero => rw [pzr, Nat.zero_add]
  | succ j ih =>
    rw [pzr, ByteArray.size_append, ih]
    have : (⟨#[48]⟩ : ByteArray).size = 1 := rfl
    omega
theorem pzr_rep (s : ByteArray) (j : Nat) : (⟨(Lib.repeatL [48] j).toArray⟩ : ByteArray) ++ s = pzr s j := by
  induction j with
  | zero =>
    show ByteArray.empty ++ s = s
    exact ByteArray.empty_append
  | succ j ih =>
    rw [pzr, ← ih, ← ByteArray.append_assoc]
    congr 1
def pz (s : ByteArray) (n : Int) : ByteArray := if n > 2000 then s else pzr s (n - s.size).toNat
theorem spec_PadZeros_c (s : ByteArray) (n : Int) (hs : s.size ≤ 1048576) (h1 : -9223372036854775808 ≤ n) : AC Try.prog 4 [.v (.string s), I n] [] (.v (.string (pz s n))) [] := by
  refine AC.intro (fn := Try.f4) (c := ?_) 15 Try.func4 (by rfl) (by kernel_rfl) (by kernel_rfl) (Nat.le_of_ble_eq_true rfl) fun e hP hf hn h0 hE => ?_
  have hte : TEok e.P te := hP ▸ teOk
  have hmx : e.P.follows .mixedOrders = true := hP ▸ mixedOk
  by_cases hn2 : n > 2000
  · have d1 : decide (2000 < n) = true := decide_eq_true (by omega)
    have e : pz s n = s := by unfold pz; rw [if_pos hn2]
    rw [e] at hE
    refine Go.run hte hn 100 ?_; simp only [go_sem, Nat.reduceBEq, Nat.reduceLT, Nat.reduceAdd, Nat.reduceMul, Nat.reduceLeDiff, d1]
    refine Go.retG hte hE hf [] rfl (by simp [go_sem, tsI, slI, I, renL_ints, blk_ren, en_live, en_dead, ints_length, ints_nil, ints_one]) rfl (by rw [h0]; rfl) trivial
  · have d1 : decide (2000 < n) = false := decide_eq_false (by omega)
    have e : pz s n = pzr s (n - s.size).toNat := by unfold pz; rw [if_neg hn2]
    rw [e] at hE
    refine Go.run hte hn 100 ?_; simp only [go_sem, Nat.reduceBEq, Nat.reduceLT, Nat.reduceAdd, Nat.reduceMul, Nat.reduceLeDiff, d1]
    refine Go.enter (fun j : Nat => j ≤ (n - s.size).toNat) (fun j => (n - s.size).toNat - j) (fun j => [(0, .v (.string (pzr s j))), (1, I n)]) (fun j => []) 0 [] (Nat.zero_le _) rfl rfl (by rw [h0]; rfl) (by simp [go_sem, tsI, slI, I, renL_ints, blk_ren, en_live, en_dead, ints_length, ints_nil, ints_one, pzr]) trivial ?_
    intro j hj
    have hsz := pzr_size s j
    by_cases hlt : j < (n - s.size).toNat
    · have dA : decide (((pzr s j).size : Int) < n) = true := decide_eq_true (by omega)
      refine Go.run hte hn 100 ?_; simp only [go_sem, Nat.reduceBEq, Nat.reduceLT, Nat.reduceAdd, Nat.reduceMul, Nat.reduceLeDiff, dA]
      refine ⟨by have h9 : (#[48] : Array UInt8).size = 1 := rfl; have h8 : (⟨#[48]⟩ : ByteArray).size = 1 := rfl; omega, ?_⟩
      refine Go.round (j + 1) [] hlt (by omega) rfl rfl (by rw [h0]; rfl) (by simp [go_sem, tsI, slI, I, renL_ints, blk_ren, en_live, en_dead, ints_length, ints_nil, ints_one, pzr]) trivial
    · have dA : decide (((pzr s j).size : Int) < n) = false := decide_eq_false (by omega)
      have hjn : j = (n - s.size).toNat := by omega
      subst hjn
      refine Go.run hte hn 100 ?_; simp only [go_sem, Nat.reduceBEq, Nat.reduceLT, Nat.reduceAdd, Nat.reduceMul, Nat.reduceLeDiff, dA]
      refine Go.retG hte hE hf [] rfl (by simp [go_sem, tsI, slI, I, renL_ints, blk_ren, en_live, en_dead, ints_length, ints_nil, ints_one]) rfl (by rw [h0]; rfl) trivial
theorem impl_PadZeros_c (s : ByteArray) (n : Int) (hs : s.size ≤ 1048576) (h1 : -9223372036854775808 ≤ n) : AC Try.prog 5 [.v (.string s), I n] [] (.v (.string (pz s n))) [] := by
  refine AC.intro (fn := Try.f5) (c := ?_) 21 Try.func5 (by rfl) (by kernel_rfl) (by kernel_rfl) (Nat.le_of_ble_eq_true rfl) fun e hP hf hn h0 hE => ?_
  have hte : TEok e.P te := hP ▸ teOk
  have hmx : e.P.follows .mixedOrders = true := hP ▸ mixedOk
  by_cases hn1 : n ≤ (s.size : Int)
  · have d1 : decide (n ≤ (s.size : Int)) = true := decide_eq_true hn1
    have e : pz s n = s := by unfold pz; split; rfl; rw [show (n - s.size).toNat = 0 by omega]; rfl
    rw [e] at hE
    refine Go.run hte hn 100 ?_; simp only [go_sem, Nat.reduceBEq, Nat.reduceLT, Nat.reduceAdd, Nat.reduceMul, Nat.reduceLeDiff, d1]
    refine Go.retG hte hE hf [] rfl (by simp [go_sem, tsI, slI, I, renL_ints, blk_ren, en_live, en_dead, ints_length, ints_nil, ints_one]) rfl (by rw [h0]; rfl) trivial
  · have d1 : decide (n ≤ (s.size : Int)) = false := decide_eq_false hn1
    by_cases hn2 : n > 2000
    · have d2 : decide (2000 < n) = true := decide_eq_true (by omega)
      have e : pz s n = s := by unfold pz; rw [if_pos hn2]
      rw [e] at hE
      refine Go.run hte hn 100 ?_; simp only [go_sem, Nat.reduceBEq, Nat.reduceLT, Nat.reduceAdd, Nat.reduceMul, Nat.reduceLeDiff, d1, d2]
      refine Go.retG hte hE hf [] rfl (by simp [go_sem, tsI, slI, I, renL_ints, blk_ren, en_live, en_dead, ints_length, ints_nil, ints_one]) rfl (by rw [h0]; rfl) trivial
    · have d2 : decide (2000 < n) = false := decide_eq_false (by omega)
      obtain ⟨j, hj⟩ : ∃ j : Nat, n = s.size + j := ⟨(n - s.size).toNat, by omega⟩
      have e : pz s n = pzr s j := by unfold pz; rw [if_neg hn2, show (n - s.size).toNat = j by omega]
      rw [e] at hE
      have w1 : IntKind.i64.wrap (n - (s.size : Int)) = (j : Int) := by rw [W64] <;> omega
      have hsz := pzr_size s j
      have CR := strings_Repeat_c ⟨#[48]⟩ j (by omega) (by rw [show (⟨#[48]⟩ : ByteArray).size = 1 from rfl]; omega)
      have hl : (⟨(Lib.repeatL [48] j).toArray⟩ : ByteArray).size = j := by
        show (Lib.repeatL [48] j).toArray.size = j
        rw [List.size_toArray, Lib.repeatL_length]
        simp
      have hp := pzr_rep s j
      refine Go.run hte hn 100 ?_; simp only [go_sem, Nat.reduceBEq, Nat.reduceLT, Nat.reduceAdd, Nat.reduceMul, Nat.reduceLeDiff, d1, d2, w1]
      refine Go.call0 hP (CR) rfl rfl rfl (by omega) (by simp [go_sem, tsI, slI, I, renL_ints, blk_ren, en_live, en_dead, ints_length, ints_nil, ints_one]) ?_
      refine Go.run hte hn 100 ?_; simp only [go_sem, Nat.reduceBEq, Nat.reduceLT, Nat.reduceAdd, Nat.reduceMul, Nat.reduceLeDiff, hp]
      refine ⟨by have h9 : (Lib.repeatL [48] j).toArray.size = j := hl; omega, ?_⟩
      refine Go.retG hte hE hf [] rfl (by simp [go_sem, tsI, slI, I, renL_ints, blk_ren, en_live, en_dead, ints_length, ints_nil, ints_one]) rfl (by rw [h0]; rfl) trivial

end Go.Proofs.Ytjnlpomfjlpikaa.Ab
