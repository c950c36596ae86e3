/- Contracts of the given program's functions and of the reference's (walks). -/
import Derived.Test.YtfkkoccjgembaaaAbT
import Derived.Test.YtfkkoccjgembaaaAbP
import Derived.Test.YtfkkoccjgembaaaAbS
import Derived.Test.YtfkkoccjgembaaaAbO
import Derived.Test.YtfkkoccjgembaaaW50
import Derived.Test.YtfkkoccjgembaaaW52
set_option linter.unusedVariables false
set_option linter.unusedSimpArgs false
set_option maxRecDepth 10000
namespace Go.Proofs.Ytfkkoccjgembaaa.Ab
open Go Go.RowKit
attribute [local go_sem] q_run q_seq q_skip q_block q_exit q_cond q_region q_nil q_op q_blk q_loop q_ret q_open q_inv q_fin q_go q_h0 q_h1 q_gskip q_stepC q_brt q_brf q_stepX q_sskip q_sskip0 q_val q_need q_new q_newc q_sv q_sto q_c1 q_c2 q_c3 q_c4 q_c5 q_c6 q_c7 q_c8 q_c9 q_c10 q_c11 q_c12 q_c13 q_c14 q_c15 q_c16 q_c17 q_c18 q_c19 q_c20 q_c21 q_c22 q_g0 q_g1 q_gC q_gD q_gE q_gB1 q_gB2 q_gB3 q_gB4 q_ev1 q_ev2 q_ev3 q_evo0 q_evo1 q_rv q_rva q_o1 q_o2 q_pk1 q_pk2 q_ld1p q_ld1e q_ld1t q_ldnp q_ldne q_ldnt q_sub0 q_sub1 q_subc q_stS q_stT q_box q_bldr q_bld q_fill0 q_fill1 q_fillB q_bsr q_bsl q_fap q_fat q_iasl q_iats q_lnsl q_lnts q_lnv q_lnS q_exA q_mkB q_lo0 q_lo1 q_hi0 q_hi1 q_slcA q_slcU1 q_slcU2 q_slcT1 q_slcT2 q_slsA q_slsU q_slsT q_apA q_apC q_srcE1 q_srcE2 q_srcE3 q_srcA1 q_srcB q_srcA2 q_srcA3 q_fnA q_nc1 q_nc2 q_bin q_bin2 q_bin3 q_bin4 q_bin5 q_bin6 q_bin7 q_bin8 q_bin9 q_bin10 q_i1 q_i2 q_i3 q_i4 q_i5 q_i6 q_i7 q_i8 q_i9 q_i10 q_i11 q_s1 q_s2 q_s3 q_u1 q_u2 q_min q_max q_ce1 q_ce2 q_ce3 q_ce4 q_ce5 q_ce6 q_ce7 q_ce8 q_ce9 q_ce10 q_ce11 q_on2 q_on3 q_on4 q_on5 q_on6 q_on7 q_on8 q_on9 q_on10 q_on11 q_enr1 q_gEt q_zr0 q_zr1 q_zgs q_zgg q_zk1 q_zk2 q_zd q_zv1 q_zv2 q_zv3 q_zp1 q_zp2 q_zf q_zs1 q_zs2 q_za q_za1 q_fi0 q_fi1 q_ln0 q_ln1 q_h01 q_h02 q_h03 q_h04 q_h05 q_h06 q_h07 q_h08 q_h09 q_h10 q_h11 q_h12 q_h13 q_h14 q_h15 q_h16 q_h17 q_h18 q_h19 q_h20 q_h21 q_h22 q_h23 q_h24 q_al q_b0 q_rs1 q_rs2 q_rs3 q_rs4 q_rs5 q_rs6 q_rs7 q_rs8 q_ro1 q_ro2 q_ro3 q_ro4 q_ro5 q_ro6 q_ro7 q_ro8 q_ixS q_cvS1 q_cvN q_u8s0 q_u8s1 q_u8s2 q_strS q_h25 cond_true cond_false decide_true decide_false List.length_cons List.length_nil List.nil_append List.cons_append true_and and_true List.toList_toArray Option.map_some Nat.zero_add Nat.add_zero Bool.and_self Bool.and_true Bool.true_and Bool.and_false Bool.false_and Bool.not_true Bool.not_false FitF FitL LendL wb keys nodupB firstOk tupA op_move op_assign op_pick op_un op_box op_nc op_mf op_ex op_min op_max get put del nth evs evp sets setN ones popTo args0 AV.ren AV.renL rho List.take_succ_cons List.take_zero List.drop_succ_cons List.drop_zero Option.isNone_none Option.isNone_some o_al40 o_al52 o_al72 o_ap24 o_ap31 o_bi3 o_bi4 o_bi5 o_bi64 o_bi70 o_bi9 o_bs24_0 o_bs24_1 o_bs24_3 o_bs31_0 o_bs31_1 o_bs69_1 o_bu40 o_cn3 o_cn5 o_cn64 o_cv3_5 o_cv3_64 o_cv64_3 o_cv69_9 o_fa37_0 o_fa37_1 o_fa40_0 o_fa40_1 o_fa48_0 o_fa48_1 o_fa52_0 o_fa52_1 o_fa72_0 o_fa72_1 o_ia24 o_ia31 o_ib4 o_ip70 o_ip79 o_ix9 o_ld24 o_ld3 o_ld37 o_ld4 o_ld40 o_ld48 o_ld52 o_ld69 o_ld70 o_ld9 o_ln24 o_ln31 o_ln69 o_ln9 o_mk24 o_mk31 o_sl24 o_sl31 o_sl69 o_sl9 o_st24 o_st3 o_st4 o_st40 o_st52 o_st69 o_st70 o_st9 o_zb24 o_zb31 o_zb69 I tsI slI renL_ints blk_ren en_live en_dead List.set_cons_zero List.set_cons_succ List.map_cons List.map_nil List.append_nil frzF frzS AV.frz AV.frzL frzL_ints ints_all ints_all' ints_take1 ints_mk ints_mk1 mk_length res_ints resOk_ints plain_ints plainA plainL plainE plainS List.all_cons List.all_nil strT slS renL_strs frzL_strs res_strs resOk_strs plain_strs strs_all strs_all' strs_length FitI FitZ keys get put del blksO_length mkR_length mixR_length segO_id segO_id0 segO_length List.append_nil List.nil_append
/-! ### Lists of strings: sizes, copies, joined -/
def szq (left : Int) (n : Nat) : Int := if left - n < 0 then -1 else left - n
def tsz : List ByteArray → Nat
  | [] => 0
  | x :: l => x.size + tsz l
theorem sdrop {l : List ByteArray} {i : Nat} (h : i < l.length) : l.drop i = sat l i :: l.drop (i + 1) := by
  rw [List.drop_eq_getElem_cons h]
  unfold sat
  rw [List.getD_eq_getElem?_getD, List.getElem?_eq_getElem h]
  rfl
theorem stake {l : List ByteArray} {i : Nat} (h : i < l.length) : l.take (i + 1) = l.take i ++ [sat l i] := by
  unfold sat
  rw [List.take_succ_eq_append_getElem h, List.getD_eq_getElem?_getD, List.getElem?_eq_getElem h]
  rfl
theorem szStringS_c (l : List ByteArray) (left : Int) (hl0 : 0 ≤ left) (hl1 : left ≤ 1048576) (hl : l.length ≤ 9223372036854775807) (hd : ∀ i, i < l.length → (sat l i).size ≤ 9223372036854775807) : AC Try.prog 48 [strT l, I left] [] (I (szq left (l.length + tsz l))) [] := by
  refine AC.intro (fn := Try.f48) (c := ?_) 28 Try.func48 (by rfl) (by kernel_rfl) (by kernel_rfl) (Nat.le_of_ble_eq_true rfl) fun e hP hf hn h0 hE => ?_
  have hte : TEok e.P te := hP ▸ teOk
  have hmx : e.P.follows .mixedOrders = true := hP ▸ mixedOk
  have e1 : IntKind.i64.wrap (left - (l.length : Int)) = left - (l.length : Int) := by rw [W64] <;> omega
  by_cases hz : left - (l.length : Int) < 0
  · have dz : decide (left - (l.length : Int) < 0) = true := decide_eq_true hz
    have e : szq left (l.length + tsz l) = -1 := by unfold szq; rw [if_pos (by omega)]
    rw [e] at hE
    refine Go.run hte hn 100 ?_; simp only [go_sem, Nat.reduceBEq, Nat.reduceLT, Nat.reduceAdd, Nat.reduceMul, Nat.reduceLeDiff, e1, dz]
    refine Go.retG hte hE hf [] rfl (by simp [go_sem, tsI, slI, I, renL_ints, blk_ren, en_live, en_dead, ints_length, ints_nil, ints_one]) rfl (by rw [h0]; rfl) trivial
  · have dz : decide (left - (l.length : Int) < 0) = false := decide_eq_false hz
    refine Go.run hte hn 100 ?_; simp only [go_sem, Nat.reduceBEq, Nat.reduceLT, Nat.reduceAdd, Nat.reduceMul, Nat.reduceLeDiff, e1, dz]
    clear e1
    refine Go.enter (fun x : Nat × Int => x.1 ≤ l.length ∧ 0 ≤ x.2 ∧ x.2 ≤ 1048576 ∧ x.2 - (tsz (l.drop x.1) : Int) = left - l.length - (tsz l : Int)) (fun x => l.length - x.1) (fun x => [(0, strT l), (1, I x.2), (5, I x.1)]) (fun x => []) (0, left - l.length) [] ⟨Nat.zero_le _, by omega, by simp only; omega, rfl⟩ rfl rfl (by rw [h0]; rfl) (by simp [go_sem, tsI, slI, I, renL_ints, blk_ren, en_live, en_dead, ints_length, ints_nil, ints_one]) trivial ?_
    rintro ⟨i, m⟩ ⟨hi, hm0, hm1, hv⟩
    simp only at hi hm0 hm1 hv
    by_cases hlt : i < l.length
    · have dA : decide ((i : Int) < (l.length : Int)) = true := decide_eq_true (by omega)
      have b1 := hd i hlt
      have e2 : IntKind.i64.wrap ((i : Int) + 1) = ((i + 1 : Nat) : Int) := by rw [W64] <;> omega
      have e3 : IntKind.i64.wrap (m - ((sat l i).size : Int)) = m - ((sat l i).size : Int) := by clear e2; rw [W64] <;> omega
      have c0 : (0 ≤ (i : Int)) = True := eq_true (by omega)
      have c1 : ((i : Int) < (l.length : Int)) = True := eq_true (by omega)
      have c2 : (0 < (strs l).length) = True := eq_true (by rw [strs_length]; omega)
      rw [sdrop hlt, tsz] at hv
      by_cases hy : m - ((sat l i).size : Int) < 0
      · have dy : decide (m - ((sat l i).size : Int) < 0) = true := decide_eq_true hy
        have e : szq left (l.length + tsz l) = -1 := by unfold szq; rw [if_pos (by omega)]
        rw [e] at hE
        refine Go.run hte hn 100 ?_; simp only [go_sem, Nat.reduceBEq, Nat.reduceLT, Nat.reduceAdd, Nat.reduceMul, Nat.reduceLeDiff, dA, c0, c1, c2, Int.toNat_natCast, Nat.mul_one, nth_strs hlt, e3, dy]
        refine ⟨by omega, ?_⟩
        refine Go.retG hte hE hf [] rfl (by simp [go_sem, tsI, slI, I, renL_ints, blk_ren, en_live, en_dead, ints_length, ints_nil, ints_one]) rfl (by rw [h0]; rfl) trivial
      · have dy : decide (m - ((sat l i).size : Int) < 0) = false := decide_eq_false hy
        refine Go.run hte hn 100 ?_; simp only [go_sem, Nat.reduceBEq, Nat.reduceLT, Nat.reduceAdd, Nat.reduceMul, Nat.reduceLeDiff, dA, c0, c1, c2, Int.toNat_natCast, Nat.mul_one, nth_strs hlt, e3, dy, e2]
        refine ⟨by omega, ?_⟩
        refine Go.round (i + 1, m - ((sat l i).size : Int)) [] ⟨hlt, by simp only; omega, by simp only; omega, by simp only; omega⟩ (by simp only; omega) rfl rfl (by rw [h0]; rfl) (by simp [go_sem, tsI, slI, I, renL_ints, blk_ren, en_live, en_dead, ints_length, ints_nil, ints_one]) trivial
    · have dA : decide ((i : Int) < (l.length : Int)) = false := decide_eq_false (by omega)
      have hil : i = l.length := by omega
      rw [hil, List.drop_length, tsz] at hv
      have e : szq left (l.length + tsz l) = m := by unfold szq; rw [if_neg (by omega)]; omega
      rw [e] at hE
      refine Go.run hte hn 100 ?_; simp only [go_sem, Nat.reduceBEq, Nat.reduceLT, Nat.reduceAdd, Nat.reduceMul, Nat.reduceLeDiff, dA]
      refine Go.retG hte hE hf [] rfl (by simp [go_sem, tsI, slI, I, renL_ints, blk_ren, en_live, en_dead, ints_length, ints_nil, ints_one]) rfl (by rw [h0]; rfl) trivial
theorem toStringSO_c (l : List ByteArray) (hl : l.length ≤ 1048576) : AC Try.prog 50 [strT l] [] (slS 0 l) [.live ⟨9, strs l⟩] := by
  refine AC.intro (fn := Try.f50) (c := ?_) 22 Try.func50 (by rfl) (by kernel_rfl) (by kernel_rfl) (Nat.le_of_ble_eq_true rfl) fun e hP hf hn h0 hE => ?_
  have hte : TEok e.P te := hP ▸ teOk
  have hmx : e.P.follows .mixedOrders = true := hP ▸ mixedOk
  refine Go.run hte hn 100 ?_; simp only [go_sem, Nat.reduceBEq, Nat.reduceLT, Nat.reduceAdd, Nat.reduceMul, Nat.reduceLeDiff]
  refine ⟨⟨by omega, by omega, by omega⟩, ?_⟩
  have e0 : repA l.length [AV.v (.string ⟨#[]⟩)] = strs (l.take 0 ++ List.replicate l.length ⟨#[]⟩) := by
    simp [repA, strs, St]
  simp only [Int.toNat_natCast, e0]
  refine Go.enter (fun i : Nat => i ≤ l.length) (fun i => l.length - i) (fun i => [(0, strT l), (3, slS 0 l), (4, I i)]) (fun i => [.live ⟨9, strs (l.take i ++ List.replicate (l.length - i) ⟨#[]⟩)⟩]) 0 [0] (Nat.zero_le _) rfl rfl (by rw [h0]; rfl) (by simp [go_sem, tsI, slI, I, renL_ints, blk_ren, en_live, en_dead, ints_length, ints_nil, ints_one]) (by simp [go_sem, tsI, slI, I, renL_ints, blk_ren, en_live, en_dead, ints_length, ints_nil, ints_one]) ?_
  intro i hi
  by_cases hlt : i < l.length
  · have dA : decide ((i : Int) < (l.length : Int)) = true := decide_eq_true (by omega)
    have e1 : IntKind.i64.wrap ((i : Int) + 1) = ((i + 1 : Nat) : Int) := by rw [W64] <;> omega
    have c0 : (0 ≤ (i : Int)) = True := eq_true (by omega)
    have c1 : ((i : Int) < (l.length : Int)) = True := eq_true (by omega)
    have c2 : (0 < (strs l).length) = True := eq_true (by rw [strs_length]; omega)
    have hlen : (l.take i ++ List.replicate (l.length - i) (⟨#[]⟩ : ByteArray)).length = l.length := by rw [List.length_append, List.length_take, List.length_replicate]; omega
    have hst : (l.take i ++ List.replicate (l.length - i) (⟨#[]⟩ : ByteArray)).set i (sat l i) = l.take (i + 1) ++ List.replicate (l.length - (i + 1)) ⟨#[]⟩ := by
      obtain ⟨d, hd⟩ : ∃ d, l.length - i = d + 1 := ⟨l.length - i - 1, by omega⟩
      have ht : (l.take i).length = i := by rw [List.length_take]; omega
      rw [hd, show l.length - (i + 1) = d by omega, stake hlt, List.set_append_right _ _ (by omega), ht, Nat.sub_self, List.replicate_succ, List.set_cons_zero, List.append_assoc]
      rfl
    refine Go.run hte hn 100 ?_; simp only [go_sem, Nat.reduceBEq, Nat.reduceLT, Nat.reduceAdd, Nat.reduceMul, Nat.reduceLeDiff, dA, c0, c1, c2, Int.toNat_natCast, Nat.mul_one, nth_strs hlt]
    refine ⟨by omega, by rw [hlen]; omega, ?_⟩
    rw [strs_set, hst]
    refine Go.run hte hn 100 ?_; simp only [go_sem, Nat.reduceBEq, Nat.reduceLT, Nat.reduceAdd, Nat.reduceMul, Nat.reduceLeDiff, e1]
    refine Go.round (i + 1) [0] hlt (by omega) rfl rfl (by rw [h0]; rfl) (by simp [go_sem, tsI, slI, I, renL_ints, blk_ren, en_live, en_dead, ints_length, ints_nil, ints_one]) (by simp [go_sem, tsI, slI, I, renL_ints, blk_ren, en_live, en_dead, ints_length, ints_nil, ints_one])
  · have dA : decide ((i : Int) < (l.length : Int)) = false := decide_eq_false (by omega)
    have hil : i = l.length := by omega
    subst hil
    refine Go.run hte hn 100 ?_; simp only [go_sem, Nat.reduceBEq, Nat.reduceLT, Nat.reduceAdd, Nat.reduceMul, Nat.reduceLeDiff, dA]
    rw [List.take_length, Nat.sub_self, List.replicate_zero, List.append_nil]
    refine Go.retG hte hE hf [0] rfl (by simp [go_sem, tsI, slI, I, renL_ints, blk_ren, en_live, en_dead, ints_length, ints_nil, ints_one]) rfl (by rw [h0]; rfl) (by simp [go_sem, tsI, slI, I, renL_ints, blk_ren, en_live, en_dead, ints_length, ints_nil, ints_one])
theorem AC.sealS {P : Program} {f : FuncId} {args : List AV} {T : Nat} {l : List ByteArray} (h : AC P f args [] (slS 0 l) [.live ⟨T, strs l⟩]) : AC P f args [] (strT l) [] := by
  have h2 := h.asTold 2 (by simp [go_sem, tsI, slI, I, renL_ints, blk_ren, en_live, en_dead, ints_length, ints_nil, ints_one])
  have e : res [.live ⟨T, strs l⟩] 2 (slS 0 l) = strT l := by simp [go_sem, tsI, slI, I, renL_ints, blk_ren, en_live, en_dead, ints_length, ints_nil, ints_one]
  rw [e] at h2
  exact h2
theorem toStringS_c (l : List ByteArray) (hl : l.length ≤ 1048576) : AC Try.prog 50 [strT l] [] (strT l) [] := by
  refine AC.sealS (toStringSO_c l hl)
def jn (l : List ByteArray) (sep : ByteArray) : Nat → ByteArray
  | 0 => ⟨#[]⟩
  | i + 1 => (if 0 < i then jn l sep i ++ sep else jn l sep i) ++ sat l i
theorem tsz_at {l : List ByteArray} {i : Nat} (h : i < l.length) : tsz (l.take (i + 1)) = tsz (l.take i) + (sat l i).size := by
  rw [stake h]
  have : ∀ (a : List ByteArray) (x : ByteArray), tsz (a ++ [x]) = tsz a + x.size := by
    intro a x
    induction a with
    | nil => simp [tsz]
    | cons y a ih => simp only [List.cons_append, tsz, ih]; omega
  exact this _ _
theorem tsz_le (l : List ByteArray) (i : Nat) : tsz (l.take i) ≤ tsz l := by
  induction l generalizing i with
  | nil => simp
  | cons x l ih =>
    cases i with
    | zero => simp [tsz]
    | succ i => simp only [List.take_succ_cons, tsz]; have := ih i; omega
theorem jn_size (l : List ByteArray) (sep : ByteArray) : ∀ i, i ≤ l.length → (jn l sep i).size ≤ i * sep.size + tsz (l.take i)
  | 0, _ => by rw [jn]; exact Nat.zero_le _
  | i + 1, h => by
    have ih := jn_size l sep i (by omega)
    rw [tsz_at (by omega), jn, ByteArray.size_append, Nat.add_mul, Nat.one_mul]
    split
    · rw [ByteArray.size_append]; omega
    · omega
theorem jn_join (x : ByteArray) (r : List ByteArray) (sep : ByteArray) : ∀ i, i ≤ r.length → (jn (x :: r) sep (i + 1)).data.toList = x.data.toList ++ Lib.joinTail sep.data.toList ((r.take i).map (·.data.toList))
  | 0, _ => by
    simp [jn, Lib.joinTail, sat]
  | i + 1, h => by
    have ih := jn_join x r sep i (by omega)
    rw [jn, if_pos (by omega)]
    have hs : sat (x :: r) (i + 1) = sat r i := rfl
    rw [hs, stake (by omega)]
    simp only [ByteArray.data_append, Array.toList_append, ih, List.map_append, List.map_cons, List.map_nil, Lib.joinTail, List.flatten_append, List.flatten_cons, List.flatten_nil, List.append_nil, List.append_assoc]
theorem jn_all (l : List ByteArray) (sep : ByteArray) : jn l sep l.length = joinB l sep := by
  cases l with
  | nil => rfl
  | cons x r =>
    have h := jn_join x r sep r.length (Nat.le_refl _)
    rw [List.take_length] at h
    unfold joinB
    rw [List.map_cons, Lib.join_cons, ← h]
    rfl
theorem spec_Join_c (l : List ByteArray) (sep : ByteArray) (hl : l.length ≤ 1048576) (ht : tsz l ≤ 1048576) (hs : sep.size ≤ 1048576) : AC Try.prog 49 [strT l, .v (.string sep)] [] (.v (.string (joinB l sep))) [] := by
  refine AC.intro (fn := Try.f49) (c := ?_) 25 Try.func49 (by rfl) (by kernel_rfl) (by kernel_rfl) (Nat.le_of_ble_eq_true rfl) fun e hP hf hn h0 hE => ?_
  have hte : TEok e.P te := hP ▸ teOk
  have hmx : e.P.follows .mixedOrders = true := hP ▸ mixedOk
  refine Go.run hte hn 100 ?_; simp only [go_sem, Nat.reduceBEq, Nat.reduceLT, Nat.reduceAdd, Nat.reduceMul, Nat.reduceLeDiff]
  refine Go.enter (fun i : Nat => i ≤ l.length) (fun i => l.length - i) (fun i => [(1, .v (.string sep)), (5, .v (.string (jn l sep i))), (8, strT l), (9, I l.length), (10, I i)]) (fun i => []) 0 [] (Nat.zero_le _) rfl rfl (by rw [h0]; rfl) (by simp [go_sem, tsI, slI, I, renL_ints, blk_ren, en_live, en_dead, ints_length, ints_nil, ints_one, jn]) trivial ?_
  intro i hi
  by_cases hlt : i < l.length
  · have dA : decide ((i : Int) < (l.length : Int)) = true := decide_eq_true (by omega)
    have e1 : IntKind.i64.wrap ((i : Int) + 1) = ((i + 1 : Nat) : Int) := by rw [W64] <;> omega
    have c0 : (0 ≤ (i : Int)) = True := eq_true (by omega)
    have c1 : ((i : Int) < (l.length : Int)) = True := eq_true (by omega)
    have c2 : (0 < (strs l).length) = True := eq_true (by rw [strs_length]; omega)
    have hsz := jn_size l sep i hi
    have hm : i * sep.size ≤ 1048576 * 1048576 := Nat.mul_le_mul (by omega) hs
    have htt := tsz_le l i
    have hta := tsz_at hlt
    have hte2 := tsz_le l (i + 1)
    by_cases hz : 0 < i
    · have dz : decide ((0 : Int) < (i : Int)) = true := decide_eq_true (by omega)
      have hj : jn l sep (i + 1) = jn l sep i ++ sep ++ sat l i := by rw [jn, if_pos hz]
      refine Go.run hte hn 100 ?_; simp only [go_sem, Nat.reduceBEq, Nat.reduceLT, Nat.reduceAdd, Nat.reduceMul, Nat.reduceLeDiff, dA, c0, c1, c2, Int.toNat_natCast, Nat.mul_one, nth_strs hlt, dz, e1, ByteArray.size_append]
      refine ⟨by omega, by omega, by omega, ?_⟩
      refine Go.round (i + 1) [] hlt (by omega) rfl rfl (by rw [h0]; rfl) (by simp [go_sem, tsI, slI, I, renL_ints, blk_ren, en_live, en_dead, ints_length, ints_nil, ints_one, hj]) trivial
    · have dz : decide ((0 : Int) < (i : Int)) = false := decide_eq_false (by omega)
      have hj : jn l sep (i + 1) = jn l sep i ++ sat l i := by rw [jn, if_neg hz]
      refine Go.run hte hn 100 ?_; simp only [go_sem, Nat.reduceBEq, Nat.reduceLT, Nat.reduceAdd, Nat.reduceMul, Nat.reduceLeDiff, dA, c0, c1, c2, Int.toNat_natCast, Nat.mul_one, nth_strs hlt, dz, e1]
      refine ⟨by omega, by omega, ?_⟩
      refine Go.round (i + 1) [] hlt (by omega) rfl rfl (by rw [h0]; rfl) (by simp [go_sem, tsI, slI, I, renL_ints, blk_ren, en_live, en_dead, ints_length, ints_nil, ints_one, hj]) trivial
  · have dA : decide ((i : Int) < (l.length : Int)) = false := decide_eq_false (by omega)
    have hil : i = l.length := by omega
    subst hil
    rw [jn_all]
    refine Go.run hte hn 100 ?_; simp only [go_sem, Nat.reduceBEq, Nat.reduceLT, Nat.reduceAdd, Nat.reduceMul, Nat.reduceLeDiff, dA]
    refine Go.retG hte hE hf [] rfl (by simp [go_sem, tsI, slI, I, renL_ints, blk_ren, en_live, en_dead, ints_length, ints_nil, ints_one]) rfl (by rw [h0]; rfl) trivial
theorem impl_Join_c (l : List ByteArray) (sep : ByteArray) (hl : l.length ≤ 1048576) (ht : tsz l ≤ 1048576) (hs : sep.size ≤ 1048576) : AC Try.prog 51 [strT l, .v (.string sep)] [] (.v (.string (joinB l sep))) [] := by
  refine AC.intro (fn := Try.f51) (c := ?_) 8 Try.func51 (by rfl) (by kernel_rfl) (by kernel_rfl) (Nat.le_of_ble_eq_true rfl) fun e hP hf hn h0 hE => ?_
  have hte : TEok e.P te := hP ▸ teOk
  have hmx : e.P.follows .mixedOrders = true := hP ▸ mixedOk
  have hsz := jn_size l sep l.length (Nat.le_refl _)
  have hm : l.length * sep.size ≤ 1048576 * 1048576 := Nat.mul_le_mul hl hs
  rw [jn_all, List.take_length] at hsz
  have hjl : (Lib.join (l.map (·.data.toList)) sep.data.toList).length = (joinB l sep).size := by
    unfold joinB
    exact List.size_toArray.symm
  refine Go.run hte hn 100 ?_; simp only [go_sem, Nat.reduceBEq, Nat.reduceLT, Nat.reduceAdd, Nat.reduceMul, Nat.reduceLeDiff]
  refine Go.call0 hP (strings_Join_c l sep (by omega) (by omega)) rfl rfl rfl (by omega) (by simp [go_sem, tsI, slI, I, renL_ints, blk_ren, en_live, en_dead, ints_length, ints_nil, ints_one]) ?_
  refine Go.run hte hn 100 ?_; simp only [go_sem, Nat.reduceBEq, Nat.reduceLT, Nat.reduceAdd, Nat.reduceMul, Nat.reduceLeDiff]
  refine Go.retG hte hE hf [] rfl (by simp [go_sem, tsI, slI, I, renL_ints, blk_ren, en_live, en_dead, ints_length, ints_nil, ints_one]) rfl (by rw [h0]; rfl) trivial

end Go.Proofs.Ytfkkoccjgembaaa.Ab
