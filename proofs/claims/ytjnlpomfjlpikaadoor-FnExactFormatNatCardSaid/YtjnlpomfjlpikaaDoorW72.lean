/- Contracts of the given program's functions and of the reference's (walks). -/
import Derived.Test.YtjnlpomfjlpikaaDoorAbT
import Derived.Test.YtjnlpomfjlpikaaDoorAbP
import Derived.Test.YtjnlpomfjlpikaaDoorAbQ
import Derived.Test.YtjnlpomfjlpikaaDoorAbS
import Derived.Test.YtjnlpomfjlpikaaDoorAbI
import Derived.Test.YtjnlpomfjlpikaaDoorW54
import Derived.Test.YtjnlpomfjlpikaaDoorW60
import Derived.Shelf.Strings.Builder1
import Derived.Shelf.Strings.OnBuilder
import Derived.Lib.ItoaLen
import Derived.Lib.AppendIntMem
import Derived.WalkSpells
import Derived.BigCall
set_option linter.unusedVariables false
set_option linter.unusedSimpArgs false
set_option maxRecDepth 10000
namespace Go.Proofs.YtjnlpomfjlpikaaDoor.Ab
open Go Go.RowKit
attribute [local go_sem] q_run q_seq q_skip q_block q_exit q_cond q_region q_nil q_op q_blk q_loop q_ret q_open q_inv q_fin q_go q_h0 q_h1 q_gskip q_stepC q_brt q_brf q_stepX q_sskip q_sskip0 q_val q_need q_new q_newc q_sv q_sto q_c1 q_c2 q_c3 q_c4 q_c5 q_c6 q_c7 q_c8 q_c9 q_c10 q_c11 q_c12 q_c13 q_c14 q_c15 q_c16 q_c17 q_c18 q_c19 q_c20 q_c21 q_c22 q_g0 q_g1 q_gC q_gD q_gE q_gB1 q_gB2 q_gB3 q_gB4 q_ev1 q_ev2 q_ev3 q_evo0 q_evo1 q_rv q_rva q_o1 q_o2 q_pk1 q_pk2 q_ld1p q_ld1e q_ld1t q_ldnp q_ldne q_ldnt q_sub0 q_sub1 q_subc q_stS q_stT q_box q_bldr q_bld q_fill0 q_fill1 q_fillB q_bsr q_bsl q_fap q_fat q_iasl q_iats q_lnsl q_lnts q_lnv q_lnS q_exA q_mkB q_lo0 q_lo1 q_hi0 q_hi1 q_slcA q_slcU1 q_slcU2 q_slcT1 q_slcT2 q_slsA q_slsU q_slsT q_apA q_apC q_srcE1 q_srcE2 q_srcE3 q_srcA1 q_srcB q_srcA2 q_srcA3 q_fnA q_nc1 q_nc2 q_bin q_bin2 q_bin3 q_bin4 q_bin5 q_bin6 q_bin7 q_bin8 q_bin9 q_bin10 q_i1 q_i2 q_i3 q_i4 q_i5 q_i6 q_i7 q_i8 q_i9 q_i10 q_i11 q_s1 q_s2 q_s3 q_u1 q_u2 q_min q_max q_ce1 q_ce2 q_ce3 q_ce4 q_ce5 q_ce6 q_ce7 q_ce8 q_ce9 q_ce10 q_ce11 q_on2 q_on3 q_on4 q_on5 q_on6 q_on7 q_on8 q_on9 q_on10 q_on11 q_enr1 q_gEt q_zr0 q_zr1 q_zgs q_zgg q_zk1 q_zk2 q_zd q_zv1 q_zv2 q_zv3 q_zp1 q_zp2 q_zf q_zs1 q_zs2 q_za q_za1 q_fi0 q_fi1 q_ln0 q_ln1 q_h01 q_h02 q_h03 q_h04 q_h05 q_h06 q_h07 q_h08 q_h09 q_h10 q_h11 q_h12 q_h13 q_h14 q_h15 q_h16 q_h17 q_h18 q_h19 q_h20 q_h21 q_h22 q_h23 q_h24 q_al q_b0 q_rs1 q_rs2 q_rs3 q_rs4 q_rs5 q_rs6 q_rs7 q_rs8 q_ro1 q_ro2 q_ro3 q_ro4 q_ro5 q_ro6 q_ro7 q_ro8 q_ixS q_cvS1 q_cvN q_u8s0 q_u8s1 q_u8s2 q_strS q_h25 q_shr q_i12 q_i13 q_bn q_bn0 q_bn1 q_zbn q_zn cond_true cond_false decide_true decide_false List.length_cons List.length_nil List.nil_append List.cons_append true_and and_true List.toList_toArray Option.map_some Nat.zero_add Nat.add_zero Bool.and_self Bool.and_true Bool.true_and Bool.and_false Bool.false_and Bool.not_true Bool.not_false FitF FitL LendL wb keys nodupB firstOk tupA op_move op_assign op_pick op_un op_box op_nc op_mf op_ex op_min op_max get put del nth evs evp sets setN ones popTo args0 AV.ren AV.renL rho List.take_succ_cons List.take_zero List.drop_succ_cons List.drop_zero Option.isNone_none Option.isNone_some o_al134 o_al29 o_al75 o_ap22 o_ap34 o_ap41 o_bi121 o_bi2 o_bi21 o_bi3 o_bi4 o_bi5 o_bi73 o_bi79 o_bi9 o_bi96 o_bs22_0 o_bs22_1 o_bs34_1 o_bs41_0 o_bs41_1 o_bs41_5 o_bu120 o_bu134 o_bu29 o_bu78 o_cn121 o_cn2 o_cn21 o_cn3 o_cn5 o_cn79 o_cn96 o_cv121_5 o_cv121_79 o_cv121_96 o_cv2_96 o_cv34_9 o_cv3_5 o_cv3_79 o_cv3_96 o_cv5_121 o_cv5_21 o_cv5_3 o_cv5_96 o_cv79_121 o_cv79_3 o_cv96_121 o_cv96_2 o_cv96_5 o_fa134_0 o_fa134_1 o_fa29_0 o_fa29_1 o_fa51_0 o_fa51_1 o_fa75_0 o_fa75_1 o_fa78_0 o_fa78_1 o_fa78_2 o_ia22 o_ia34 o_ia41 o_ib4 o_ip73 o_ip90 o_ix9 o_ld134 o_ld22 o_ld29 o_ld3 o_ld34 o_ld4 o_ld5 o_ld51 o_ld73 o_ld9 o_ld96 o_ln22 o_ln34 o_ln41 o_ln9 o_mk22 o_mk34 o_mk41 o_sl22 o_sl34 o_sl41 o_sl9 o_st134 o_st22 o_st29 o_st3 o_st34 o_st4 o_st5 o_st73 o_st9 o_zb22 o_zb34 o_zb41 I tsI slI renL_ints blk_ren en_live en_dead List.set_cons_zero List.set_cons_succ List.map_cons List.map_nil List.append_nil frzF frzS AV.frz AV.frzL frzL_ints ints_all ints_all' ints_take1 ints_mk ints_mk1 mk_length res_ints resOk_ints plain_ints plainA plainL plainE plainS List.all_cons List.all_nil strT slS renL_strs frzL_strs res_strs resOk_strs plain_strs strs_all strs_all' strs_length
/-! ### impl.natText: the digits of a number -/
open Go.Shelf Go.RowKit
theorem wr_calls (B b : Nat) (bs : List Value) (s : ByteArray) (w : World) (h : Lib.IsBuilder 75 5 B b bs w) (hlen : bs.length + s.size ≤ 140737488355328) (hBw : B ≤ w.heap.size) :
    Calls Tryd.prog 72 #[.pointer (some ⟨b, 0, none⟩), .string s] w fun e w' => e = .returned (.tuple #[.int .i64 s.size, .nilIface]) ∧ Lib.IsBuilder 75 5 B b (bs ++ Lib.strCells s) w' ∧ Below B w w' :=
  (Any.Builder_WriteString { laysRepeat with } laysRepeat_extra B b bs s w h hlen hBw).mono fun _ _ ⟨h1, h2, h3⟩ => ⟨h1, .inr h2, h3⟩
theorem st_calls (B b : Nat) (l : List UInt8) (w : World) (h : Lib.IsBuilder 75 5 B b (Lib.byteCells l) w) (hBw : B ≤ w.heap.size) :
    Calls Tryd.prog 73 #[.pointer (some ⟨b, 0, none⟩)] w fun e w' => e = .returned (.string ⟨l.toArray⟩) ∧ Below B w w' :=
  Any.Builder_String_any { laysRepeat with } laysRepeat_extra B b l w h hBw
/-- The text of the limbs, the last one first; each but the last one on nine places. -/
def pad9 (z : Int) : List UInt8 := (pz ⟨(Lib.itoa z).toArray⟩ 9).data.toList
def ntA : List Int → List UInt8
  | [] => []
  | z :: r => if r = [] then Lib.itoa z else ntA r ++ pad9 z
def ntL (zs : List Int) : List UInt8 := if zs = [] then [48] else ntA zs
theorem isBuilder_kept {T e : TypeId} {B b : Nat} {bs : List Value} {w w' : World} (h : Lib.IsBuilder T e B b bs w) (hk : ∀ k, k < w.heap.size → w'.heap[k]? = w.heap[k]?) : Lib.IsBuilder T e B b bs w' := by
  have lt : ∀ (k : Nat) o, w.heap[k]? = some o → k < w.heap.size := fun k o h => (Array.getElem?_eq_some_iff.1 h).1
  have key : ∀ p, Lib.BuilderAt T e B b p bs w → Lib.BuilderAt T e B b p bs w' := by
    rintro p ⟨hB, v, hb, ⟨hl, ho⟩, hne⟩
    refine ⟨hB, v, by rw [hk _ (lt _ _ hb), hb], ⟨hl, ?_⟩, hne⟩
    rcases ho with ho | ⟨g, cap, cur, h1, h2, h3, h4⟩
    · exact .inl ho
    · exact .inr ⟨g, cap, cur, h1, h2, by rw [hk _ (lt _ _ h3), h3], h4⟩
  exact h.elim (fun x => .inl (key _ x)) (fun x => .inr (key _ x))
theorem AC.calls2 {P : Program} {f : FuncId} {a b v : Value} (h : AC P f [.v a, .v b] [] (.v v) []) (w : World) : Calls P f #[a, b] w fun e w' => e = .returned v ∧ Below w.heap.size w w' := by
  refine (h.2 (fun _ => none) (fun k => k < w.heap.size) w [a, b] ⟨fun n b hn => by simp at hn, fun n m b b' g hn => by simp at hn, fun n b g hn => by simp at hn, fun _ hk => hk, fun _ _ => rfl⟩ (by simp [VRe, VR])).mono ?_
  rintro o w' ⟨u, ι', S', rfl, h1, h2, h3⟩
  simp only [VR] at h1
  subst h1
  exact ⟨rfl, h3.os, h3.tape, h3.output, h3.size, fun k hk => h3.keep k hk (fun ⟨n, b, hn, _⟩ => by simp at hn)⟩
theorem itoa_calls (z : Int) (h0 : -9223372036854775808 ≤ z) (h1 : z ≤ 9223372036854775807) (w : World) (htab : Tab10 w) :
    Calls Tryd.prog 52 #[.int .i64 z] w fun e w' => e = .returned (.string ⟨(Lib.itoa z).toArray⟩) ∧ Below w.heap.size w w' := by
  refine (Any.strconv_Itoa laysItoa z h0 h1 w htab).mono ?_
  rintro o w' ⟨rfl, k, os, rfl⟩
  exact ⟨rfl, Lib.below_grow _ _ (Nat.le_refl _) _ _⟩
theorem ntA_drop (zs : List Int) (k : Nat) (h : k < zs.length) : ntA (zs.drop k) = if k + 1 = zs.length then Lib.itoa zs[k] else ntA (zs.drop (k + 1)) ++ pad9 zs[k] := by
  rw [List.drop_eq_getElem_cons h, ntA]
  by_cases he : k + 1 = zs.length
  · rw [if_pos he, if_pos (List.drop_eq_nil_of_le (by omega))]
  · rw [if_neg he, if_neg (fun h0 => by have := List.drop_eq_nil_iff.1 h0; omega)]
theorem hid_ {p : Prop} (h : p) : Hid p := h
set_option maxHeartbeats 4000000 in
theorem natText_calls (A : Option Addr) (cap : Nat) (zs : List Int) (w : World) (hne : zs ≠ []) (g o : Nat) (hA : A = some ⟨g, o, none⟩) (hg : g < w.heap.size)
    (hc : ∀ (j : Nat) z, zs[j]? = some z → w.cell? ⟨g, o + j, none⟩ = some (.int .i64 z)) (hb : ∀ z ∈ zs, -9223372036854775808 ≤ z ∧ z ≤ 9223372036854775807) (hcap : zs.length ≤ cap) (hn : zs.length ≤ 1048576) (hw : ∀ k, (ntA (zs.drop k)).length ≤ 140737488355328) (htab : Tab10 w) :
    Calls Tryd.prog 47 #[.slice A zs.length cap] w fun e w' => e = .returned (.string ⟨(ntA zs).toArray⟩) ∧ Below w.heap.size w w' := by
  subst hA
  have HC := hid_ hc
  have HB := hid_ hb
  have HW := hid_ hw
  have HT := hid_ htab
  clear hc hb hw htab
  have h1 : 1 ≤ zs.length := List.length_pos_iff.2 hne
  go_enter Tryd.func47, Tryd.ntmps47
  go_wp2
  have hz0 : ((zs.length : Int) == 0) = false := by rw [beq_eq_false_iff_ne]; omega
  rw [hz0]
  clear hz0
  go_loopw [4] (fun i wr => ∃ (k : Nat) (v : Int), k ≤ zs.length ∧ v = (k : Int) - 1 ∧ i = .int .i64 v ∧ Hid (Lib.IsBuilder 75 5 w.heap.size w.heap.size (Lib.byteCells (ntA (zs.drop k))) wr) ∧ Hid (Below w.heap.size w wr)) (fun i _ => (intOf i + 1).toNat)
  case atStart =>
    refine ⟨zs.length, _, Nat.le_refl _, rfl, rfl, hid_ ?_, hid_ ?_⟩
    · rw [List.drop_length]
      exact Lib.fresh_isBuilder 75 5 w
    · exact (Below.refl w.heap.size w).alloc (Nat.le_refl _) _
  case round =>
    obtain ⟨k, v, hk, hv, rfl, HR, HX⟩ := hrel
    by_cases h0 : k = 0
    · subst h0
      have hv : ¬ (0 : Int) ≤ v := by omega
      have hB := HR.out
      rw [List.drop_zero] at hB
      have hBw : w.heap.size ≤ wr.heap.size := HX.out.size
      go_wp2_with fail
      refine (st_calls w.heap.size w.heap.size _ wr hB hBw).mono ?_
      rintro e w5 ⟨rfl, hb5⟩
      have Hb5 := hid_ (HX.out.trans hb5)
      clear hb5 hB
      go_wp2
      go_ret
      exact ⟨rfl, Hb5.out⟩
    · obtain ⟨j, rfl⟩ : ∃ j, k = j + 1 := ⟨k - 1, by omega⟩
      have hvj : v = (j : Int) := by omega
      clear hv
      subst hvj
      have hjl : j < zs.length := by omega
      have hcz : wr.cell? ⟨g, o + j, none⟩ = some (.int .i64 zs[j]) := by
        rw [HX.out.cell (p := ⟨g, o + j, none⟩) hg]
        exact HC.out j _ (List.getElem?_eq_getElem hjl)
      have hnt := ntA_drop zs j hjl
      obtain ⟨b0, b1⟩ := HB.out zs[j] (List.getElem_mem hjl)
      have hwl := HW.out j
      generalize zs[j] = z at hcz hnt b0 b1
      have HNT := hid_ hnt
      have HWL := hid_ hwl
      clear hnt hwl
      have htw : Tab10 wr := stays_tab10 w wr (fun k hk => HX.out.block k hk) HX.out.size HT.out
      go_wp2_with fail
      refine (itoa_calls z b0 b1 wr htw).mono ?_
      rintro e w1 ⟨rfl, hb1⟩
      have Hb1 := hid_ hb1
      clear hb1 hcz
      go_wp2_with fail
      · have hlast : ¬ j + 1 = zs.length := by omega
        have hnt := HNT.out
        rw [if_neg hlast] at hnt
        have hwl := HWL.out
        rw [hnt, List.length_append] at hwl
        have hil : (⟨(Lib.itoa z).toArray⟩ : ByteArray).size ≤ 1048576 := by
          have := Lib.itoa_length_le z b0 b1
          show (Lib.itoa z).toArray.size ≤ _
          rw [List.size_toArray]
          omega
        refine ((impl_PadZeros_c ⟨(Lib.itoa z).toArray⟩ 9 hil (by decide)).calls2 w1).mono ?_
        rintro e w2 ⟨rfl, hb2⟩
        have hp : (pz ⟨(Lib.itoa z).toArray⟩ 9).data.toList = pad9 z := rfl
        have hps : (pz ⟨(Lib.itoa z).toArray⟩ 9).size = (pad9 z).length := by rw [← hp, Array.length_toList]; rfl
        generalize pz ⟨(Lib.itoa z).toArray⟩ 9 = ps at hp hps
        have hb12 := (HX.out.trans ⟨Hb1.out.os, Hb1.out.tape, Hb1.out.output, Hb1.out.size, fun k hk => Hb1.out.block k (Nat.lt_of_lt_of_le hk HX.out.size)⟩ : Below w.heap.size w w1)
        have hb13 := (hb12.trans ⟨hb2.os, hb2.tape, hb2.output, hb2.size, fun k hk => hb2.block k (Nat.lt_of_lt_of_le hk hb12.size)⟩ : Below w.heap.size w w2)
        have HI := hid_ (isBuilder_kept (isBuilder_kept HR.out Hb1.out.block) hb2.block)
        have HX2 := hid_ hb13
        have HP := hid_ hp
        have HPS := hid_ hps
        have HNT2 := hid_ hnt
        have HWL2 := hid_ hwl
        have hBw : w.heap.size ≤ w2.heap.size := hb13.size
        clear hb12 hb13 hb2 hp hps hnt hwl
        go_wp2_with fail
        refine (wr_calls w.heap.size w.heap.size _ ps w2 HI.out (by rw [Lib.byteCells_length, HPS.out]; exact HWL2.out) hBw).mono ?_
        rintro e w3 ⟨rfl, h3, hb3⟩
        have H3 : Hid (Lib.IsBuilder 75 5 w.heap.size w.heap.size (Lib.byteCells (ntA (List.drop j zs))) w3) := by
          have h4 := h3
          rw [Lib.strCells_eq, HP.out, ← Lib.byteCells_append, ← HNT2.out] at h4
          exact hid_ h4
        have HB3 := hid_ (HX2.out.trans hb3)
        clear h3 hb3
        go_wp2
        exact ⟨⟨j, _, by omega, rfl, rfl, H3, HB3⟩, by simp [intOf]⟩
      · have hlast : j + 1 = zs.length := by omega
        have hnt := HNT.out
        rw [if_pos hlast] at hnt
        have hwl := HWL.out
        rw [hnt] at hwl
        have hd : zs.drop (j + 1) = [] := List.drop_eq_nil_of_le (by omega)
        have hr := HR.out
        rw [hd] at hr
        have hps : (⟨(Lib.itoa z).toArray⟩ : ByteArray).size = (Lib.itoa z).length := by
          show (Lib.itoa z).toArray.size = _
          rw [List.size_toArray]
        have hp : (⟨(Lib.itoa z).toArray⟩ : ByteArray).data.toList = Lib.itoa z := by simp
        generalize (⟨(Lib.itoa z).toArray⟩ : ByteArray) = ps at hp hps ⊢
        have hb12 := (HX.out.trans ⟨Hb1.out.os, Hb1.out.tape, Hb1.out.output, Hb1.out.size, fun k hk => Hb1.out.block k (Nat.lt_of_lt_of_le hk HX.out.size)⟩ : Below w.heap.size w w1)
        have HI := hid_ (isBuilder_kept hr Hb1.out.block)
        have HX2 := hid_ hb12
        have HP := hid_ hp
        have HPS := hid_ hps
        have HNT2 := hid_ hnt
        have HWL2 := hid_ hwl
        have hBw : w.heap.size ≤ w1.heap.size := hb12.size
        clear hb12 hp hps hnt hwl hr hd
        refine (wr_calls w.heap.size w.heap.size _ ps w1 HI.out (by rw [Lib.byteCells_length, HPS.out]; have := HWL2.out; simp only [ntA, List.length_nil]; omega) hBw).mono ?_
        rintro e w3 ⟨rfl, h3, hb3⟩
        have H3 : Hid (Lib.IsBuilder 75 5 w.heap.size w.heap.size (Lib.byteCells (ntA (List.drop j zs))) w3) := by
          have h4 := h3
          rw [Lib.strCells_eq, HP.out, ← Lib.byteCells_append, show ntA [] ++ Lib.itoa z = Lib.itoa z from rfl, ← HNT2.out] at h4
          exact hid_ h4
        have HB3 := hid_ (HX2.out.trans hb3)
        clear h3 hb3
        go_wp2
        exact ⟨⟨j, _, by omega, rfl, rfl, H3, HB3⟩, by simp [intOf]⟩

end Go.Proofs.YtjnlpomfjlpikaaDoor.Ab
