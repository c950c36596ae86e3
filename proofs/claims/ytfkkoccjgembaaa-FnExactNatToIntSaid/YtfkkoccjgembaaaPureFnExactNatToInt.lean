/- The program's NatToInt returns what the reference's returns, for every slice of ints; no condition. -/
import Derived.Test.YtfkkoccjgembaaaPFnExactNatToIntx3
import Derived.Test.YtfkkoccjgembaaaLb
set_option linter.unusedVariables false
set_option linter.unusedSimpArgs false
namespace Go.Proofs.Ytfkkoccjgembaaa.Pure
open Go.RowKit Go.Proofs.Ytfkkoccjgembaaa.PFnExactNatToInt Go.Proofs.YtfkkoccjgembaaaW.PrintWords Go.Proofs.YtfkkoccjgembaaaW.PrintLast Go.Proofs.Ytfkkoccjgembaaa.Lb

theorem toIntS_l0 (l : List Int) (hl : l.length ≤ 1099511627776) : ∀ (d k i : Nat), i + d = l.length → d < k →
    laws_toIntS.l0 k l (l.take i ++ List.replicate d 0) (i : Int) = some l := by
  intro d
  induction d with
  | zero =>
    intro k i h hk
    obtain ⟨k, rfl, _⟩ := fuel hk
    simp only [laws_toIntS.l0]
    rw [if_neg (by omega)]
    simp [List.take_of_length_le (show l.length ≤ i by omega)]
  | succ d ih =>
    intro k i h hk
    obtain ⟨k, rfl, hk'⟩ := fuel hk
    simp only [laws_toIntS.l0]
    rw [if_pos (by omega), if_pos (by omega), if_pos (by rw [List.length_append, List.length_take, List.length_replicate]; omega)]
    rw [w64 (by omega) (by omega), Int.toNat_natCast, copy_step l i d h]
    exact ih k (i + 1) (by omega) (by omega)
theorem toIntS_ok (l : List Int) (hl : l.length ≤ 1099511627776) (k : Nat) (hk : l.length < k) : laws_toIntS.f k l = some l := by
  unfold laws_toIntS.f
  rw [if_pos (by omega), if_pos (by omega)]
  have := toIntS_l0 l hl l.length k 0 (by omega) hk
  simpa using this

theorem eqIntS_l0 (l : List Int) (hl : l.length ≤ 1152921504606846976) : ∀ (d k i : Nat), i + d = l.length → d < k →
    laws_eqIntS.l0 k l l (i : Int) = some true := by
  intro d
  induction d with
  | zero =>
    intro k i h hk
    obtain ⟨k, rfl, _⟩ := fuel hk
    simp only [laws_eqIntS.l0]
    rw [if_neg (by omega)]
  | succ d ih =>
    intro k i h hk
    obtain ⟨k, rfl, hk'⟩ := fuel hk
    simp only [laws_eqIntS.l0]
    rw [if_pos (by omega), if_pos (by omega), if_pos (by omega), if_pos trivial, w64 (by omega) (by omega)]
    exact ih k (i + 1) (by omega) (by omega)
theorem eqIntS_same (l : List Int) (hl : l.length ≤ 1152921504606846976) (k : Nat) (hk : l.length < k) : laws_eqIntS.f k l l = some true := by
  unfold laws_eqIntS.f
  rw [if_pos rfl]
  exact eqIntS_l0 l hl l.length k 0 (by omega) hk

theorem spec_in_ok (x : Int) : spec_l01In.f x 0 999999999 = some (inB x) := by
  unfold spec_l01In.f inB
  by_cases h : x ≥ 0
  · rw [if_pos h, decide_eq_true h, Bool.true_and]
  · rw [if_neg h, decide_eq_false h, Bool.false_and]
theorem spec_NatOk_l0 (l : List Int) (hl : l.length ≤ 1152921504606846976) : ∀ (d k i : Nat), i + d = l.length → d < k →
    spec_NatOk.l0 k l l (l.length : Int) (i : Int) = some ((l.drop i).all inB && (decide (l.length ≤ 60) && (l.isEmpty || !decide (rd l ((l.length : Int) - 1) = 0)))) := by
  intro d
  induction d with
  | zero =>
    intro k i h hk
    obtain ⟨k, rfl, _⟩ := fuel hk
    have h1 : ¬ ((i : Int) < (l.length : Int)) := by omega
    simp only [spec_NatOk.l0, h1, ↓reduceIte]
    rw [List.drop_of_length_le (by omega)]
    by_cases h2 : (l.length : Int) ≤ 60
    · have h2' : l.length ≤ 60 := by omega
      by_cases h3 : (l.length : Int) = 0
      · have : l = [] := List.length_eq_zero_iff.mp (by omega)
        subst this
        simp
      · have h4 : (0 : Int) ≤ wrap64 ((l.length : Int) - 1) := by rw [w64 (by omega) (by omega)]; omega
        have h5 : wrap64 ((l.length : Int) - 1) < (l.length : Int) := by rw [w64 (by omega) (by omega)]; omega
        have h6 : l.isEmpty = false := by cases l with | nil => simp at h3 | cons _ _ => rfl
        simp only [h2, h3, h4, h5, h6, ↓reduceIte, h2', decide_true, List.all_nil, Bool.true_and, Bool.false_or]
        rw [w64 (by omega) (by omega)]
        congr 1
    · have h2' : ¬ l.length ≤ 60 := by omega
      simp [h2, h2']
  | succ d ih =>
    intro k i h hk
    obtain ⟨k, rfl, hk'⟩ := fuel hk
    have h1 : (i : Int) < (l.length : Int) := by omega
    have h2 : (0 : Int) ≤ (i : Int) := by omega
    have w : wrap64 ((i : Int) + 1) = ((i + 1 : Nat) : Int) := by rw [w64 (by omega) (by omega)]; omega
    have e : l.drop i = rd l i :: l.drop (i + 1) := drop_rd l i (by omega)
    simp only [spec_NatOk.l0, h1, h2, ↓reduceIte, spec_in_ok, Option.bind_some, w, ih k (i + 1) (by omega) (by omega), e, List.all_cons]
    cases inB (rd l (i : Int)) <;> simp
theorem spec_NatOk_ok (l : List Int) (hl : l.length ≤ 1152921504606846976) (k : Nat) (hk : l.length < k) : spec_NatOk.f k l = some (nok l) := by
  have := spec_NatOk_l0 l hl l.length k 0 (by omega) hk
  unfold spec_NatOk.f
  refine this.trans ?_
  rw [List.drop_zero, Bool.and_comm]; rfl

theorem spec_l02Cmp_l0 (a b : List Int) (hl : a.length = b.length) (hb : a.length ≤ 1152921504606846976) : ∀ (i k : Nat), i ≤ a.length → i < k → spec_l02Cmp.l0 k a b ((i : Int) - 1) = some (cmpI a b i) := by
  intro i
  induction i with
  | zero =>
    intro k _ hk
    obtain ⟨k, rfl, _⟩ := fuel hk
    have h1 : ¬ (((0 : Nat) : Int) - 1 ≥ 0) := by omega
    simp only [spec_l02Cmp.l0, h1, ↓reduceIte, cmpI]
  | succ i ih =>
    intro k hi hk
    obtain ⟨k, rfl, hk'⟩ := fuel hk
    have e : ((i + 1 : Nat) : Int) - 1 = (i : Int) := by omega
    have h1 : (i : Int) ≥ 0 := by omega
    have h2 : (0 : Int) ≤ (i : Int) := by omega
    have h3 : (i : Int) < (a.length : Int) := by omega
    have h4 : (i : Int) < (b.length : Int) := by omega
    have w : wrap64 ((i : Int) - 1) = (i : Int) - 1 := w64 (by omega) (by omega)
    rw [e]
    simp only [spec_l02Cmp.l0, h1, h2, h3, h4, w, ↓reduceIte, cmpI, ih k (by omega) (by omega)]
    by_cases c1 : rd a (i : Int) < rd b (i : Int)
    · simp only [c1, ↓reduceIte]
    · by_cases c2 : rd a (i : Int) > rd b (i : Int)
      · simp only [c1, c2, ↓reduceIte]
      · simp only [c1, c2, ↓reduceIte]
theorem spec_l02Cmp_ok (a b : List Int) (hb : a.length ≤ 1152921504606846976) (k : Nat) (hk : a.length < k) : spec_l02Cmp.f k a b = some (cmpL a b) := by
  unfold spec_l02Cmp.f cmpL
  by_cases c1 : a.length = b.length
  · have c1' : (a.length : Int) = (b.length : Int) := by omega
    simp only [c1, c1', ↓reduceIte]
    rw [w64 (by omega) (by omega), ← c1', spec_l02Cmp_l0 a b c1 hb a.length k (Nat.le_refl _) hk, c1]
  · have c1' : ¬ (a.length : Int) = (b.length : Int) := by omega
    simp only [c1, c1', ↓reduceIte]
    by_cases c2 : a.length < b.length
    · have c2' : (a.length : Int) < (b.length : Int) := by omega
      simp only [c2, c2', ↓reduceIte]
    · have c2' : ¬ (a.length : Int) < (b.length : Int) := by omega
      simp only [c2, c2', ↓reduceIte]

theorem spec_NatToInt_l0 (l : List Int) (hb : l.length ≤ 1048576) : ∀ (i k : Nat) (acc : Int), i ≤ l.length → i < k → spec_NatToInt.l0 k l acc ((i : Int) - 1) = some (hor l i acc, true) := by
  intro i
  induction i with
  | zero =>
    intro k acc _ hk
    obtain ⟨k, rfl, _⟩ := fuel hk
    have h1 : ¬ (((0 : Nat) : Int) - 1 ≥ 0) := by omega
    simp only [spec_NatToInt.l0, h1, ↓reduceIte, hor]
  | succ i ih =>
    intro k acc hi hk
    obtain ⟨k, rfl, hk'⟩ := fuel hk
    have e : ((i + 1 : Nat) : Int) - 1 = (i : Int) := by omega
    have h1 : (i : Int) ≥ 0 := by omega
    have h2 : (0 : Int) ≤ (i : Int) := by omega
    have h3 : (i : Int) < (l.length : Int) := by omega
    have w : wrap64 ((i : Int) - 1) = (i : Int) - 1 := w64 (by omega) (by omega)
    rw [e]
    simp only [spec_NatToInt.l0, h1, h2, h3, w, ↓reduceIte, hor, ih k _ (by omega) (by omega)]
theorem spec_NatToInt_ok (l : List Int) (hb : l.length ≤ 1048576) (k : Nat) (hk : l.length + 1 < k) :
    spec_NatToInt.f k l = some (if nok l = true ∧ ¬ cmpL l [854775807, 223372036, 9] > 0 then (hor l l.length 0, true) else (0, false)) := by
  obtain ⟨k, rfl, hk'⟩ := fuel hk
  unfold spec_NatToInt.f
  rw [spec_NatOk_ok l (by omega) _ (by omega)]
  simp only [Option.bind_some]
  cases hn : nok l
  · simp [spec_NatToInt.j0]
  · rw [spec_l02Cmp_ok l _ (by omega) _ (by omega)]
    simp only [Option.bind_some, ↓reduceIte]
    by_cases h : cmpL l [854775807, 223372036, 9] > 0
    · simp [spec_NatToInt.j0, h]
    · simp only [spec_NatToInt.j0, h, decide_false, Bool.false_eq_true, ↓reduceIte, not_false_eq_true, and_self]
      rw [w64 (by omega) (by omega), spec_NatToInt_l0 l hb l.length k 0 (Nat.le_refl _) (by omega)]

theorem impl_NatOk_ok (l : List Int) : impl_NatOk.f l = some (nok l) := by
  unfold impl_NatOk.f Ext.natOkB nok
  congr 2
  rw [Bool.eq_iff_iff]
  simp only [Bool.not_eq_true', List.any_eq_false, List.all_eq_true, Ext.badB, inB, Bool.or_eq_true, Bool.and_eq_true, decide_eq_true_iff]
  constructor
  · intro h x hx
    have := h x hx
    omega
  · intro h x hx
    have := h x hx
    omega

theorem impl_compare_l0 (a b : List Int) (hl : a.length = b.length) (hb : a.length ≤ 1152921504606846976) : ∀ (i k : Nat), i ≤ a.length → i < k → impl_compare.l0 k a b ((i : Int) - 1) = some (cmpI a b i) := by
  intro i
  induction i with
  | zero =>
    intro k _ hk
    obtain ⟨k, rfl, _⟩ := fuel hk
    have h1 : ¬ (((0 : Nat) : Int) - 1 ≥ 0) := by omega
    simp only [impl_compare.l0, h1, ↓reduceIte, cmpI]
  | succ i ih =>
    intro k hi hk
    obtain ⟨k, rfl, hk'⟩ := fuel hk
    have e : ((i + 1 : Nat) : Int) - 1 = (i : Int) := by omega
    have h1 : (i : Int) ≥ 0 := by omega
    have h2 : (0 : Int) ≤ (i : Int) := by omega
    have h3 : (i : Int) < (a.length : Int) := by omega
    have h4 : (i : Int) < (b.length : Int) := by omega
    have w : wrap64 ((i : Int) - 1) = (i : Int) - 1 := w64 (by omega) (by omega)
    rw [e]
    simp only [impl_compare.l0, h1, h2, h3, h4, w, ↓reduceIte, cmpI, ih k (by omega) (by omega)]
    by_cases c1 : rd a (i : Int) < rd b (i : Int)
    · simp only [c1, ↓reduceIte]
    · by_cases c2 : rd a (i : Int) > rd b (i : Int)
      · simp only [c1, c2, ↓reduceIte]
      · simp only [c1, c2, ↓reduceIte]
theorem impl_compare_ok (a b : List Int) (hb : a.length ≤ 1152921504606846976) (k : Nat) (hk : a.length < k) : impl_compare.f k a b = some (cmpL a b) := by
  unfold impl_compare.f cmpL
  by_cases c1 : a.length = b.length
  · have c1' : (a.length : Int) = (b.length : Int) := by omega
    simp only [c1, c1', ↓reduceIte]
    rw [w64 (by omega) (by omega), ← c1', impl_compare_l0 a b c1 hb a.length k (Nat.le_refl _) hk, c1]
  · have c1' : ¬ (a.length : Int) = (b.length : Int) := by omega
    simp only [c1, c1', ↓reduceIte]
    by_cases c2 : a.length < b.length
    · have c2' : (a.length : Int) < (b.length : Int) := by omega
      simp only [c2, c2', ↓reduceIte]
    · have c2' : ¬ (a.length : Int) < (b.length : Int) := by omega
      simp only [c2, c2', ↓reduceIte]

theorem limbsOf_l0 : ∀ (m n : Nat) (acc : List Int) (k : Nat), n < 1000000000 ^ m → m < k → n ≤ 18446744073709551615 → acc.length + m ≤ 1000 →
    impl_limbsOf.l0 k (n : Int) acc = some (acc ++ dg n) := by
  intro m
  induction m with
  | zero =>
    intro n acc k hn hk _ _
    obtain ⟨k, rfl, _⟩ := fuel hk
    have : n = 0 := by simpa using hn
    subst this
    simp only [impl_limbsOf.l0]
    rw [if_neg (by omega)]
    simp [dg_zero]
  | succ m ih =>
    intro n acc k hn hk hm ha
    obtain ⟨k, rfl, hk'⟩ := fuel hk
    simp only [impl_limbsOf.l0]
    by_cases h0 : n = 0
    · subst h0
      rw [if_neg (by omega)]
      simp [dg_zero]
    · have e1 : Int.tdiv (n : Int) 1000000000 = ((n / 1000000000 : Nat) : Int) := rfl
      have e2 : Int.tmod (n : Int) 1000000000 = ((n % 1000000000 : Nat) : Int) := rfl
      rw [if_pos (by omega), if_pos (by omega), e1, e2, w64 (by omega) (by omega), u64 (by omega) (by omega), ih _ _ k (Nat.div_lt_of_lt_mul (by rw [Nat.pow_succ] at hn; omega)) (by omega) (by omega) (by simp; omega), dg_pos h0]
      simp
theorem limbsOf_ok (n : Nat) (k : Nat) (hk : 4 ≤ k) (h : n ≤ 18446744073709551615) : impl_limbsOf.f k (n : Int) = some (dg n) := by
  have := limbsOf_l0 3 n [] k (by omega) (by omega) h (by simp)
  simpa [impl_limbsOf.f] using this

theorem impl_toInt_l0 (l : List Int) (hb : l.length ≤ 1048576) : ∀ (i k : Nat) (acc : Int), i ≤ l.length → i < k → impl_toInt.l0 k l acc ((i : Int) - 1) = some (hor l i acc, true) := by
  intro i
  induction i with
  | zero =>
    intro k acc _ hk
    obtain ⟨k, rfl, _⟩ := fuel hk
    have h1 : ¬ (((0 : Nat) : Int) - 1 ≥ 0) := by omega
    simp only [impl_toInt.l0, h1, ↓reduceIte, hor]
  | succ i ih =>
    intro k acc hi hk
    obtain ⟨k, rfl, hk'⟩ := fuel hk
    have e : ((i + 1 : Nat) : Int) - 1 = (i : Int) := by omega
    have h1 : (i : Int) ≥ 0 := by omega
    have h2 : (0 : Int) ≤ (i : Int) := by omega
    have h3 : (i : Int) < (l.length : Int) := by omega
    have w : wrap64 ((i : Int) - 1) = (i : Int) - 1 := w64 (by omega) (by omega)
    rw [e]
    simp only [impl_toInt.l0, h1, h2, h3, w, ↓reduceIte, hor, ih k _ (by omega) (by omega)]
theorem dg_maxInt : dg 9223372036854775807 = [854775807, 223372036, 9] := by
  rw [dg_pos (by omega), dg_pos (by omega), dg_pos (by omega), show (9223372036854775807 / 1000000000 / 1000000000 / 1000000000 : Nat) = 0 from rfl, dg_zero]; rfl
theorem impl_toInt_ok (l : List Int) (hb : l.length ≤ 1048576) (k : Nat) (hk : l.length + 4 < k) :
    impl_toInt.f k l = some (if ¬ cmpL l [854775807, 223372036, 9] > 0 then (hor l l.length 0, true) else (0, false)) := by
  unfold impl_toInt.f
  have e := limbsOf_ok 9223372036854775807 k (by omega) (by omega)
  rw [dg_maxInt] at e
  have e' : impl_limbsOf.f k 9223372036854775807 = some [854775807, 223372036, 9] := e
  rw [e']
  simp only [Option.bind_some]
  rw [impl_compare_ok l _ (by omega) _ (by omega)]
  simp only [Option.bind_some]
  by_cases h : cmpL l [854775807, 223372036, 9] > 0
  · simp [h]
  · simp only [h, ↓reduceIte, not_false_eq_true]
    rw [w64 (by omega) (by omega), impl_toInt_l0 l hb l.length k 0 (Nat.le_refl _) (by omega)]

theorem impl_NatToInt_ok (l : List Int) (hb : l.length ≤ 1048576) (k : Nat) (hk : l.length + 4 < k) :
    impl_NatToInt.f k l = some (if nok l = true ∧ ¬ cmpL l [854775807, 223372036, 9] > 0 then (hor l l.length 0, true) else (0, false)) := by
  unfold impl_NatToInt.f
  rw [impl_NatOk_ok, impl_toInt_ok l hb k hk]
  simp only [Option.bind_some]
  cases nok l
  · simp
  · by_cases h : cmpL l [854775807, 223372036, 9] > 0
    · simp [h]
    · simp [h]

theorem FnExactNatToInt : laws_FnExactNatToInt.Pure := by
  intro l ⟨_, hl⟩
  refine ⟨1048590 + 1, ?_⟩
  obtain ⟨k, hk⟩ : ∃ k, k = 1048590 := ⟨_, rfl⟩
  rw [← hk]
  unfold laws_FnExactNatToInt.f
  by_cases h : (l.length : Int) > 1048576
  · simp only [h, ↓reduceIte]
  · simp only [h, ↓reduceIte, toIntS_ok l (by omega) (k + 1) (by omega), toIntS_ok l (by omega) k (by omega), spec_NatToInt_ok l (by omega) (k + 1) (by omega), impl_NatToInt_ok l (by omega) (k + 1) (by omega), eqIntS_same l (by omega) k (by omega), Option.bind_some, bne_self_eq_false, Bool.false_eq_true, laws_FnExactNatToInt.j0]

end Go.Proofs.Ytfkkoccjgembaaa.Pure
