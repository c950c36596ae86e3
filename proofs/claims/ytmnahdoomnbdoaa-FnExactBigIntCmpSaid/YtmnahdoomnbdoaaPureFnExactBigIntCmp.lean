/- The program's BigIntCmp returns what the reference's returns, for every two BigInts; no condition. -/
import Derived.Test.YtmnahdoomnbdoaaPFnExactBigIntCmpx3
import Derived.Test.YtmnahdoomnbdoaaLb
set_option linter.unusedVariables false
set_option linter.unusedSimpArgs false
namespace Go.Proofs.Ytmnahdoomnbdoaa.Pure
open Go.RowKit Go.Proofs.Ytmnahdoomnbdoaa.PFnExactBigIntCmp Go.Proofs.YtmnahdoomnbdoaaW.PrintWords Go.Proofs.YtmnahdoomnbdoaaW.PrintLast Go.Proofs.Ytmnahdoomnbdoaa.Lb

theorem szIntS_ok (l : List Int) (a : Int) (h0 : 0 ≤ a) (h1 : a ≤ 1048576) (hl : l.length ≤ maxLen) : laws_szIntS.f l a = some (if a - l.length < 0 then -1 else a - l.length) := by
  unfold laws_szIntS.f
  simp only [maxLen] at hl
  rw [w64 (by omega) (by omega)]
  by_cases h : a - (l.length : Int) < 0
  · simp only [h, ↓reduceIte]
  · simp only [h, ↓reduceIte]
theorem szBigInt_ok (b : Bool) (l : List Int) (a : Int) (h0 : 0 ≤ a) (h1 : a ≤ 1048576) (hl : l.length ≤ maxLen) : laws_szBigInt.f b l a = some (if a - l.length < 0 then -1 else a - l.length) := by
  unfold laws_szBigInt.f
  rw [szIntS_ok l a h0 h1 hl]
  simp only [Option.bind_some]
  by_cases h : a - (l.length : Int) < 0
  · simp [h]
  · simp only [h, ↓reduceIte]

theorem toIntS_l0 (l : List Int) (hl : l.length ≤ 1099511627776) : ∀ (d k i : Nat), i + d = l.length → d < k →
    laws_toIntS.l0 k l (l.take i ++ List.replicate d 0) (i : Int) = some l := by
  intro d
  induction d with
  | zero =>
    intro k i h hk
    obtain ⟨k, rfl, _⟩ := fuel hk
    simp only [laws_toIntS.l0]
    rw [if_neg (by omega)]
    simp [List.take_of_length_le (show l.length ≤ i by omega)]
  | succ d ih =>
    intro k i h hk
    obtain ⟨k, rfl, hk'⟩ := fuel hk
    simp only [laws_toIntS.l0]
    rw [if_pos (by omega), if_pos (by omega), if_pos (by rw [List.length_append, List.length_take, List.length_replicate]; omega)]
    rw [w64 (by omega) (by omega), Int.toNat_natCast, copy_step l i d h]
    exact ih k (i + 1) (by omega) (by omega)
theorem toIntS_ok (l : List Int) (hl : l.length ≤ 1099511627776) (k : Nat) (hk : l.length < k) : laws_toIntS.f k l = some l := by
  unfold laws_toIntS.f
  rw [if_pos (by omega), if_pos (by omega)]
  have := toIntS_l0 l hl l.length k 0 (by omega) hk
  simpa using this

theorem toBigInt_ok (b : Bool) (l : List Int) (hl : l.length ≤ 1048576) (k : Nat) (hk : l.length < k) : laws_toBigInt.f k b l = some (b, l) := by
  unfold laws_toBigInt.f
  simp [toIntS_ok l (by omega) k hk]

theorem eqIntS_l0 (l : List Int) (hl : l.length ≤ 1152921504606846976) : ∀ (d k i : Nat), i + d = l.length → d < k →
    laws_eqIntS.l0 k l l (i : Int) = some true := by
  intro d
  induction d with
  | zero =>
    intro k i h hk
    obtain ⟨k, rfl, _⟩ := fuel hk
    simp only [laws_eqIntS.l0]
    rw [if_neg (by omega)]
  | succ d ih =>
    intro k i h hk
    obtain ⟨k, rfl, hk'⟩ := fuel hk
    simp only [laws_eqIntS.l0]
    rw [if_pos (by omega), if_pos (by omega), if_pos (by omega), if_pos trivial, w64 (by omega) (by omega)]
    exact ih k (i + 1) (by omega) (by omega)
theorem eqIntS_same (l : List Int) (hl : l.length ≤ 1152921504606846976) (k : Nat) (hk : l.length < k) : laws_eqIntS.f k l l = some true := by
  unfold laws_eqIntS.f
  rw [if_pos rfl]
  exact eqIntS_l0 l hl l.length k 0 (by omega) hk

theorem eqBigInt_same (b : Bool) (l : List Int) (hl : l.length ≤ 1152921504606846976) (k : Nat) (hk : l.length < k) : laws_eqBigInt.f k b l b l = some true := by
  unfold laws_eqBigInt.f
  rw [if_neg (by simp), eqIntS_same l hl k hk]; rfl

theorem spec_in_ok (x : Int) : spec_l01In.f x 0 999999999 = some (inB x) := by
  unfold spec_l01In.f inB
  by_cases h : x ≥ 0
  · rw [if_pos h, decide_eq_true h, Bool.true_and]
  · rw [if_neg h, decide_eq_false h, Bool.false_and]
theorem spec_NatOk_l0 (l : List Int) (hl : l.length ≤ 1152921504606846976) : ∀ (d k i : Nat), i + d = l.length → d < k →
    spec_NatOk.l0 k l l (l.length : Int) (i : Int) = some ((l.drop i).all inB && (decide (l.length ≤ 60) && (l.isEmpty || !decide (rd l ((l.length : Int) - 1) = 0)))) := by
  intro d
  induction d with
  | zero =>
    intro k i h hk
    obtain ⟨k, rfl, _⟩ := fuel hk
    have h1 : ¬ ((i : Int) < (l.length : Int)) := by omega
    simp only [spec_NatOk.l0, h1, ↓reduceIte]
    rw [List.drop_of_length_le (by omega)]
    by_cases h2 : (l.length : Int) ≤ 60
    · have h2' : l.length ≤ 60 := by omega
      by_cases h3 : (l.length : Int) = 0
      · have : l = [] := List.length_eq_zero_iff.mp (by omega)
        subst this
        simp
      · have h4 : (0 : Int) ≤ wrap64 ((l.length : Int) - 1) := by rw [w64 (by omega) (by omega)]; omega
        have h5 : wrap64 ((l.length : Int) - 1) < (l.length : Int) := by rw [w64 (by omega) (by omega)]; omega
        have h6 : l.isEmpty = false := by cases l with | nil => simp at h3 | cons _ _ => rfl
        simp only [h2, h3, h4, h5, h6, ↓reduceIte, h2', decide_true, List.all_nil, Bool.true_and, Bool.false_or]
        rw [w64 (by omega) (by omega)]
        congr 1
    · have h2' : ¬ l.length ≤ 60 := by omega
      simp [h2, h2']
  | succ d ih =>
    intro k i h hk
    obtain ⟨k, rfl, hk'⟩ := fuel hk
    have h1 : (i : Int) < (l.length : Int) := by omega
    have h2 : (0 : Int) ≤ (i : Int) := by omega
    have w : wrap64 ((i : Int) + 1) = ((i + 1 : Nat) : Int) := by rw [w64 (by omega) (by omega)]; omega
    have e : l.drop i = rd l i :: l.drop (i + 1) := drop_rd l i (by omega)
    simp only [spec_NatOk.l0, h1, h2, ↓reduceIte, spec_in_ok, Option.bind_some, w, ih k (i + 1) (by omega) (by omega), e, List.all_cons]
    cases inB (rd l (i : Int)) <;> simp
theorem spec_NatOk_ok (l : List Int) (hl : l.length ≤ 1152921504606846976) (k : Nat) (hk : l.length < k) : spec_NatOk.f k l = some (nok l) := by
  have := spec_NatOk_l0 l hl l.length k 0 (by omega) hk
  unfold spec_NatOk.f
  refine this.trans ?_
  rw [List.drop_zero, Bool.and_comm]; rfl

theorem impl_NatOk_ok (l : List Int) : impl_NatOk.f l = some (nok l) := by
  unfold impl_NatOk.f Ext.natOkB nok
  congr 2
  rw [Bool.eq_iff_iff]
  simp only [Bool.not_eq_true', List.any_eq_false, List.all_eq_true, Ext.badB, inB, Bool.or_eq_true, Bool.and_eq_true, decide_eq_true_iff]
  constructor
  · intro h x hx
    have := h x hx
    omega
  · intro h x hx
    have := h x hx
    omega

theorem spec_BigIntOk_ok (b : Bool) (l : List Int) (hl : l.length ≤ 1048576) (k : Nat) (hk : l.length < k) : spec_BigIntOk.f k b l = some (bok b l) := by
  unfold spec_BigIntOk.f bok
  rw [spec_NatOk_ok l (by omega) k hk]
  simp only [Option.bind_some]
  cases nok l <;> cases b <;> simp
theorem impl_BigIntOk_ok (b : Bool) (l : List Int) : impl_BigIntOk.f b l = some (bok b l) := by
  unfold impl_BigIntOk.f bok
  rw [impl_NatOk_ok l]
  simp only [Option.bind_some]
  cases nok l <;> cases b
  · simp
  · simp
  · simp
  · by_cases h : l = []
    · subst h; rfl
    · have h0 : 0 < l.length := len_pos h
      have h1 : ((l.length : Int) == 0) = false := beq_eq_false_iff_ne.mpr (by omega)
      simp [h0, h1]

theorem spec_l02Cmp_l0 (a b : List Int) (hl : a.length = b.length) (hb : a.length ≤ 1152921504606846976) : ∀ (i k : Nat), i ≤ a.length → i < k → spec_l02Cmp.l0 k a b ((i : Int) - 1) = some (cmpI a b i) := by
  intro i
  induction i with
  | zero =>
    intro k _ hk
    obtain ⟨k, rfl, _⟩ := fuel hk
    have h1 : ¬ (((0 : Nat) : Int) - 1 ≥ 0) := by omega
    simp only [spec_l02Cmp.l0, h1, ↓reduceIte, cmpI]
  | succ i ih =>
    intro k hi hk
    obtain ⟨k, rfl, hk'⟩ := fuel hk
    have e : ((i + 1 : Nat) : Int) - 1 = (i : Int) := by omega
    have h1 : (i : Int) ≥ 0 := by omega
    have h2 : (0 : Int) ≤ (i : Int) := by omega
    have h3 : (i : Int) < (a.length : Int) := by omega
    have h4 : (i : Int) < (b.length : Int) := by omega
    have w : wrap64 ((i : Int) - 1) = (i : Int) - 1 := w64 (by omega) (by omega)
    rw [e]
    simp only [spec_l02Cmp.l0, h1, h2, h3, h4, w, ↓reduceIte, cmpI, ih k (by omega) (by omega)]
    by_cases c1 : rd a (i : Int) < rd b (i : Int)
    · simp only [c1, ↓reduceIte]
    · by_cases c2 : rd a (i : Int) > rd b (i : Int)
      · simp only [c1, c2, ↓reduceIte]
      · simp only [c1, c2, ↓reduceIte]
theorem spec_l02Cmp_ok (a b : List Int) (hb : a.length ≤ 1152921504606846976) (k : Nat) (hk : a.length < k) : spec_l02Cmp.f k a b = some (cmpL a b) := by
  unfold spec_l02Cmp.f cmpL
  by_cases c1 : a.length = b.length
  · have c1' : (a.length : Int) = (b.length : Int) := by omega
    simp only [c1, c1', ↓reduceIte]
    rw [w64 (by omega) (by omega), ← c1', spec_l02Cmp_l0 a b c1 hb a.length k (Nat.le_refl _) hk, c1]
  · have c1' : ¬ (a.length : Int) = (b.length : Int) := by omega
    simp only [c1, c1', ↓reduceIte]
    by_cases c2 : a.length < b.length
    · have c2' : (a.length : Int) < (b.length : Int) := by omega
      simp only [c2, c2', ↓reduceIte]
    · have c2' : ¬ (a.length : Int) < (b.length : Int) := by omega
      simp only [c2, c2', ↓reduceIte]

theorem impl_compare_l0 (a b : List Int) (hl : a.length = b.length) (hb : a.length ≤ 1152921504606846976) : ∀ (i k : Nat), i ≤ a.length → i < k → impl_compare.l0 k a b ((i : Int) - 1) = some (cmpI a b i) := by
  intro i
  induction i with
  | zero =>
    intro k _ hk
    obtain ⟨k, rfl, _⟩ := fuel hk
    have h1 : ¬ (((0 : Nat) : Int) - 1 ≥ 0) := by omega
    simp only [impl_compare.l0, h1, ↓reduceIte, cmpI]
  | succ i ih =>
    intro k hi hk
    obtain ⟨k, rfl, hk'⟩ := fuel hk
    have e : ((i + 1 : Nat) : Int) - 1 = (i : Int) := by omega
    have h1 : (i : Int) ≥ 0 := by omega
    have h2 : (0 : Int) ≤ (i : Int) := by omega
    have h3 : (i : Int) < (a.length : Int) := by omega
    have h4 : (i : Int) < (b.length : Int) := by omega
    have w : wrap64 ((i : Int) - 1) = (i : Int) - 1 := w64 (by omega) (by omega)
    rw [e]
    simp only [impl_compare.l0, h1, h2, h3, h4, w, ↓reduceIte, cmpI, ih k (by omega) (by omega)]
    by_cases c1 : rd a (i : Int) < rd b (i : Int)
    · simp only [c1, ↓reduceIte]
    · by_cases c2 : rd a (i : Int) > rd b (i : Int)
      · simp only [c1, c2, ↓reduceIte]
      · simp only [c1, c2, ↓reduceIte]
theorem impl_compare_ok (a b : List Int) (hb : a.length ≤ 1152921504606846976) (k : Nat) (hk : a.length < k) : impl_compare.f k a b = some (cmpL a b) := by
  unfold impl_compare.f cmpL
  by_cases c1 : a.length = b.length
  · have c1' : (a.length : Int) = (b.length : Int) := by omega
    simp only [c1, c1', ↓reduceIte]
    rw [w64 (by omega) (by omega), ← c1', impl_compare_l0 a b c1 hb a.length k (Nat.le_refl _) hk, c1]
  · have c1' : ¬ (a.length : Int) = (b.length : Int) := by omega
    simp only [c1, c1', ↓reduceIte]
    by_cases c2 : a.length < b.length
    · have c2' : (a.length : Int) < (b.length : Int) := by omega
      simp only [c2, c2', ↓reduceIte]
    · have c2' : ¬ (a.length : Int) < (b.length : Int) := by omega
      simp only [c2, c2', ↓reduceIte]

/-- Which of two numbers with a sign is greater? -/
def cmpB (x : Bool) (a : List Int) (y : Bool) (b : List Int) : Int := if x = true ∧ y = false then -1 else if x = false ∧ y = true then 1 else if x = true then cmpL b a else cmpL a b
theorem spec_l03Cmp_ok (x : Bool) (a : List Int) (y : Bool) (b : List Int) (ha : a.length ≤ 1048576) (hb : b.length ≤ 1048576) (k : Nat) (hk : 1048580 < k) : spec_l03Cmp.f k x a y b = some (cmpB x a y b) := by
  obtain ⟨k, rfl, hk'⟩ := fuel (show 1048579 < k by omega)
  obtain ⟨k, rfl, hk''⟩ := fuel (show 1048578 < k by omega)
  unfold spec_l03Cmp.f cmpB
  cases x <;> cases y <;> simp [spec_l03Cmp.j0, spec_l03Cmp.j1, spec_l02Cmp_ok a b (by omega) k (by omega), spec_l02Cmp_ok b a (by omega) k (by omega)]
theorem impl_cmpB_ok (x : Bool) (a : List Int) (y : Bool) (b : List Int) (ha : a.length ≤ 1048576) (hb : b.length ≤ 1048576) (k : Nat) (hk : 1048580 < k) : impl_BigInt_compare.f k x a y b = some (cmpB x a y b) := by
  obtain ⟨k, rfl, hk'⟩ := fuel (show 1048579 < k by omega)
  unfold impl_BigInt_compare.f cmpB
  cases x <;> cases y <;> simp [impl_BigInt_compare.j0, impl_compare_ok a b (by omega) k (by omega), impl_compare_ok b a (by omega) k (by omega)]

theorem FnExactBigIntCmp : laws_FnExactBigIntCmp.Pure := by
  intro x y ⟨_, _, hx⟩ ⟨_, _, hy⟩
  refine ⟨1048600, ?_⟩
  obtain ⟨k, hk⟩ : ∃ k, k = 1048600 := ⟨_, rfl⟩
  rw [← hk]
  unfold laws_FnExactBigIntCmp.f
  rw [szBigInt_ok x.f0 x.f1 1048576 (by omega) (by omega) hx]
  simp only [Option.bind_some]
  by_cases h : (1048576 : Int) - (x.f1.length : Int) < 0
  · simp [h]
  · simp only [h, ↓reduceIte]
    rw [szBigInt_ok y.f0 y.f1 _ (by omega) (by omega) hy]
    simp only [Option.bind_some]
    by_cases h2 : (1048576 : Int) - (x.f1.length : Int) - (y.f1.length : Int) < 0
    · simp [h2]
    · have key : ∃ r, spec_BigIntCmp.f k x.f0 x.f1 y.f0 y.f1 = some r ∧ impl_BigIntCmp.f k x.f0 x.f1 y.f0 y.f1 = some r := by
        unfold spec_BigIntCmp.f impl_BigIntCmp.f
        simp only [spec_BigIntOk_ok x.f0 x.f1 (by omega) k (by omega), spec_BigIntOk_ok y.f0 y.f1 (by omega) k (by omega), impl_BigIntOk_ok, spec_l03Cmp_ok x.f0 x.f1 y.f0 y.f1 (by omega) (by omega) k (by omega), impl_cmpB_ok x.f0 x.f1 y.f0 y.f1 (by omega) (by omega) k (by omega), Option.bind_some]
        cases bok x.f0 x.f1
        · exact ⟨0, by simp, by simp⟩
        · cases bok y.f0 y.f1
          · exact ⟨0, by simp, by simp⟩
          · exact ⟨cmpB x.f0 x.f1 y.f0 y.f1, by simp, by simp⟩
      obtain ⟨r, e1, e2⟩ := key
      simp only [h2, ↓reduceIte, toBigInt_ok x.f0 x.f1 (by omega) k (by omega), toBigInt_ok y.f0 y.f1 (by omega) k (by omega), e1, e2, eqBigInt_same x.f0 x.f1 (by omega) k (by omega), eqBigInt_same y.f0 y.f1 (by omega) k (by omega), Option.bind_some]

end Go.Proofs.Ytmnahdoomnbdoaa.Pure
