/- The program's BigIntToInt returns what the reference's returns, for every BigInt; no condition. -/
import Derived.Test.YtmnahdoomnbdoaaPFnExactBigIntToIntx3
import Derived.Test.YtmnahdoomnbdoaaLb
set_option linter.unusedVariables false
set_option linter.unusedSimpArgs false
namespace Go.Proofs.Ytmnahdoomnbdoaa.Pure
open Go.RowKit Go.Proofs.Ytmnahdoomnbdoaa.PFnExactBigIntToInt Go.Proofs.YtmnahdoomnbdoaaW.PrintWords Go.Proofs.YtmnahdoomnbdoaaW.PrintLast Go.Proofs.Ytmnahdoomnbdoaa.Lb

theorem szIntS_ok (l : List Int) (a : Int) (h0 : 0 ≤ a) (h1 : a ≤ 1048576) (hl : l.length ≤ maxLen) : laws_szIntS.f l a = some (if a - l.length < 0 then -1 else a - l.length) := by
  unfold laws_szIntS.f
  simp only [maxLen] at hl
  rw [w64 (by omega) (by omega)]
  by_cases h : a - (l.length : Int) < 0
  · simp only [h, ↓reduceIte]
  · simp only [h, ↓reduceIte]
theorem szBigInt_ok (b : Bool) (l : List Int) (a : Int) (h0 : 0 ≤ a) (h1 : a ≤ 1048576) (hl : l.length ≤ maxLen) : laws_szBigInt.f b l a = some (if a - l.length < 0 then -1 else a - l.length) := by
  unfold laws_szBigInt.f
  rw [szIntS_ok l a h0 h1 hl]
  simp only [Option.bind_some]
  by_cases h : a - (l.length : Int) < 0
  · simp [h]
  · simp only [h, ↓reduceIte]

theorem toIntS_l0 (l : List Int) (hl : l.length ≤ 1099511627776) : ∀ (d k i : Nat), i + d = l.length → d < k →
    laws_toIntS.l0 k l (l.take i ++ List.replicate d 0) (i : Int) = some l := by
  intro d
  induction d with
  | zero =>
    intro k i h hk
    obtain ⟨k, rfl, _⟩ := fuel hk
    simp only [laws_toIntS.l0]
    rw [if_neg (by omega)]
    simp [List.take_of_length_le (show l.length ≤ i by omega)]
  | succ d ih =>
    intro k i h hk
    obtain ⟨k, rfl, hk'⟩ := fuel hk
    simp only [laws_toIntS.l0]
    rw [if_pos (by omega), if_pos (by omega), if_pos (by rw [List.length_append, List.length_take, List.length_replicate]; omega)]
    rw [w64 (by omega) (by omega), Int.toNat_natCast, copy_step l i d h]
    exact ih k (i + 1) (by omega) (by omega)
theorem toIntS_ok (l : List Int) (hl : l.length ≤ 1099511627776) (k : Nat) (hk : l.length < k) : laws_toIntS.f k l = some l := by
  unfold laws_toIntS.f
  rw [if_pos (by omega), if_pos (by omega)]
  have := toIntS_l0 l hl l.length k 0 (by omega) hk
  simpa using this

theorem toBigInt_ok (b : Bool) (l : List Int) (hl : l.length ≤ 1048576) (k : Nat) (hk : l.length < k) : laws_toBigInt.f k b l = some (b, l) := by
  unfold laws_toBigInt.f
  simp [toIntS_ok l (by omega) k hk]

theorem eqIntS_l0 (l : List Int) (hl : l.length ≤ 1152921504606846976) : ∀ (d k i : Nat), i + d = l.length → d < k →
    laws_eqIntS.l0 k l l (i : Int) = some true := by
  intro d
  induction d with
  | zero =>
    intro k i h hk
    obtain ⟨k, rfl, _⟩ := fuel hk
    simp only [laws_eqIntS.l0]
    rw [if_neg (by omega)]
  | succ d ih =>
    intro k i h hk
    obtain ⟨k, rfl, hk'⟩ := fuel hk
    simp only [laws_eqIntS.l0]
    rw [if_pos (by omega), if_pos (by omega), if_pos (by omega), if_pos trivial, w64 (by omega) (by omega)]
    exact ih k (i + 1) (by omega) (by omega)
theorem eqIntS_same (l : List Int) (hl : l.length ≤ 1152921504606846976) (k : Nat) (hk : l.length < k) : laws_eqIntS.f k l l = some true := by
  unfold laws_eqIntS.f
  rw [if_pos rfl]
  exact eqIntS_l0 l hl l.length k 0 (by omega) hk

theorem eqBigInt_same (b : Bool) (l : List Int) (hl : l.length ≤ 1152921504606846976) (k : Nat) (hk : l.length < k) : laws_eqBigInt.f k b l b l = some true := by
  unfold laws_eqBigInt.f
  rw [if_neg (by simp), eqIntS_same l hl k hk]; rfl

theorem spec_in_ok (x : Int) : spec_l01In.f x 0 999999999 = some (inB x) := by
  unfold spec_l01In.f inB
  by_cases h : x ≥ 0
  · rw [if_pos h, decide_eq_true h, Bool.true_and]
  · rw [if_neg h, decide_eq_false h, Bool.false_and]
theorem spec_NatOk_l0 (l : List Int) (hl : l.length ≤ 1152921504606846976) : ∀ (d k i : Nat), i + d = l.length → d < k →
    spec_NatOk.l0 k l l (l.length : Int) (i : Int) = some ((l.drop i).all inB && (decide (l.length ≤ 60) && (l.isEmpty || !decide (rd l ((l.length : Int) - 1) = 0)))) := by
  intro d
  induction d with
  | zero =>
    intro k i h hk
    obtain ⟨k, rfl, _⟩ := fuel hk
    have h1 : ¬ ((i : Int) < (l.length : Int)) := by omega
    simp only [spec_NatOk.l0, h1, ↓reduceIte]
    rw [List.drop_of_length_le (by omega)]
    by_cases h2 : (l.length : Int) ≤ 60
    · have h2' : l.length ≤ 60 := by omega
      by_cases h3 : (l.length : Int) = 0
      · have : l = [] := List.length_eq_zero_iff.mp (by omega)
        subst this
        simp
      · have h4 : (0 : Int) ≤ wrap64 ((l.length : Int) - 1) := by rw [w64 (by omega) (by omega)]; omega
        have h5 : wrap64 ((l.length : Int) - 1) < (l.length : Int) := by rw [w64 (by omega) (by omega)]; omega
        have h6 : l.isEmpty = false := by cases l with | nil => simp at h3 | cons _ _ => rfl
        simp only [h2, h3, h4, h5, h6, ↓reduceIte, h2', decide_true, List.all_nil, Bool.true_and, Bool.false_or]
        rw [w64 (by omega) (by omega)]
        congr 1
    · have h2' : ¬ l.length ≤ 60 := by omega
      simp [h2, h2']
  | succ d ih =>
    intro k i h hk
    obtain ⟨k, rfl, hk'⟩ := fuel hk
    have h1 : (i : Int) < (l.length : Int) := by omega
    have h2 : (0 : Int) ≤ (i : Int) := by omega
    have w : wrap64 ((i : Int) + 1) = ((i + 1 : Nat) : Int) := by rw [w64 (by omega) (by omega)]; omega
    have e : l.drop i = rd l i :: l.drop (i + 1) := drop_rd l i (by omega)
    simp only [spec_NatOk.l0, h1, h2, ↓reduceIte, spec_in_ok, Option.bind_some, w, ih k (i + 1) (by omega) (by omega), e, List.all_cons]
    cases inB (rd l (i : Int)) <;> simp
theorem spec_NatOk_ok (l : List Int) (hl : l.length ≤ 1152921504606846976) (k : Nat) (hk : l.length < k) : spec_NatOk.f k l = some (nok l) := by
  have := spec_NatOk_l0 l hl l.length k 0 (by omega) hk
  unfold spec_NatOk.f
  refine this.trans ?_
  rw [List.drop_zero, Bool.and_comm]; rfl

theorem impl_NatOk_ok (l : List Int) : impl_NatOk.f l = some (nok l) := by
  unfold impl_NatOk.f Ext.natOkB nok
  congr 2
  rw [Bool.eq_iff_iff]
  simp only [Bool.not_eq_true', List.any_eq_false, List.all_eq_true, Ext.badB, inB, Bool.or_eq_true, Bool.and_eq_true, decide_eq_true_iff]
  constructor
  · intro h x hx
    have := h x hx
    omega
  · intro h x hx
    have := h x hx
    omega

theorem spec_BigIntOk_ok (b : Bool) (l : List Int) (hl : l.length ≤ 1048576) (k : Nat) (hk : l.length < k) : spec_BigIntOk.f k b l = some (bok b l) := by
  unfold spec_BigIntOk.f bok
  rw [spec_NatOk_ok l (by omega) k hk]
  simp only [Option.bind_some]
  cases nok l <;> cases b <;> simp
theorem impl_BigIntOk_ok (b : Bool) (l : List Int) : impl_BigIntOk.f b l = some (bok b l) := by
  unfold impl_BigIntOk.f bok
  rw [impl_NatOk_ok l]
  simp only [Option.bind_some]
  cases nok l <;> cases b
  · simp
  · simp
  · simp
  · by_cases h : l = []
    · subst h; rfl
    · have h0 : 0 < l.length := len_pos h
      have h1 : ((l.length : Int) == 0) = false := beq_eq_false_iff_ne.mpr (by omega)
      simp [h0, h1]

theorem spec_l02Cmp_l0 (a b : List Int) (hl : a.length = b.length) (hb : a.length ≤ 1152921504606846976) : ∀ (i k : Nat), i ≤ a.length → i < k → spec_l02Cmp.l0 k a b ((i : Int) - 1) = some (cmpI a b i) := by
  intro i
  induction i with
  | zero =>
    intro k _ hk
    obtain ⟨k, rfl, _⟩ := fuel hk
    have h1 : ¬ (((0 : Nat) : Int) - 1 ≥ 0) := by omega
    simp only [spec_l02Cmp.l0, h1, ↓reduceIte, cmpI]
  | succ i ih =>
    intro k hi hk
    obtain ⟨k, rfl, hk'⟩ := fuel hk
    have e : ((i + 1 : Nat) : Int) - 1 = (i : Int) := by omega
    have h1 : (i : Int) ≥ 0 := by omega
    have h2 : (0 : Int) ≤ (i : Int) := by omega
    have h3 : (i : Int) < (a.length : Int) := by omega
    have h4 : (i : Int) < (b.length : Int) := by omega
    have w : wrap64 ((i : Int) - 1) = (i : Int) - 1 := w64 (by omega) (by omega)
    rw [e]
    simp only [spec_l02Cmp.l0, h1, h2, h3, h4, w, ↓reduceIte, cmpI, ih k (by omega) (by omega)]
    by_cases c1 : rd a (i : Int) < rd b (i : Int)
    · simp only [c1, ↓reduceIte]
    · by_cases c2 : rd a (i : Int) > rd b (i : Int)
      · simp only [c1, c2, ↓reduceIte]
      · simp only [c1, c2, ↓reduceIte]
theorem spec_l02Cmp_ok (a b : List Int) (hb : a.length ≤ 1152921504606846976) (k : Nat) (hk : a.length < k) : spec_l02Cmp.f k a b = some (cmpL a b) := by
  unfold spec_l02Cmp.f cmpL
  by_cases c1 : a.length = b.length
  · have c1' : (a.length : Int) = (b.length : Int) := by omega
    simp only [c1, c1', ↓reduceIte]
    rw [w64 (by omega) (by omega), ← c1', spec_l02Cmp_l0 a b c1 hb a.length k (Nat.le_refl _) hk, c1]
  · have c1' : ¬ (a.length : Int) = (b.length : Int) := by omega
    simp only [c1, c1', ↓reduceIte]
    by_cases c2 : a.length < b.length
    · have c2' : (a.length : Int) < (b.length : Int) := by omega
      simp only [c2, c2', ↓reduceIte]
    · have c2' : ¬ (a.length : Int) < (b.length : Int) := by omega
      simp only [c2, c2', ↓reduceIte]

theorem spec_NatToInt_l0 (l : List Int) (hb : l.length ≤ 1048576) : ∀ (i k : Nat) (acc : Int), i ≤ l.length → i < k → spec_NatToInt.l0 k l acc ((i : Int) - 1) = some (hor l i acc, true) := by
  intro i
  induction i with
  | zero =>
    intro k acc _ hk
    obtain ⟨k, rfl, _⟩ := fuel hk
    have h1 : ¬ (((0 : Nat) : Int) - 1 ≥ 0) := by omega
    simp only [spec_NatToInt.l0, h1, ↓reduceIte, hor]
  | succ i ih =>
    intro k acc hi hk
    obtain ⟨k, rfl, hk'⟩ := fuel hk
    have e : ((i + 1 : Nat) : Int) - 1 = (i : Int) := by omega
    have h1 : (i : Int) ≥ 0 := by omega
    have h2 : (0 : Int) ≤ (i : Int) := by omega
    have h3 : (i : Int) < (l.length : Int) := by omega
    have w : wrap64 ((i : Int) - 1) = (i : Int) - 1 := w64 (by omega) (by omega)
    rw [e]
    simp only [spec_NatToInt.l0, h1, h2, h3, w, ↓reduceIte, hor, ih k _ (by omega) (by omega)]
theorem spec_NatToInt_ok (l : List Int) (hb : l.length ≤ 1048576) (k : Nat) (hk : l.length + 1 < k) :
    spec_NatToInt.f k l = some (if nok l = true ∧ ¬ cmpL l [854775807, 223372036, 9] > 0 then (hor l l.length 0, true) else (0, false)) := by
  obtain ⟨k, rfl, hk'⟩ := fuel hk
  unfold spec_NatToInt.f
  rw [spec_NatOk_ok l (by omega) _ (by omega)]
  simp only [Option.bind_some]
  cases hn : nok l
  · simp [spec_NatToInt.j0]
  · rw [spec_l02Cmp_ok l _ (by omega) _ (by omega)]
    simp only [Option.bind_some, ↓reduceIte]
    by_cases h : cmpL l [854775807, 223372036, 9] > 0
    · simp [spec_NatToInt.j0, h]
    · simp only [spec_NatToInt.j0, h, decide_false, Bool.false_eq_true, ↓reduceIte, not_false_eq_true, and_self]
      rw [w64 (by omega) (by omega), spec_NatToInt_l0 l hb l.length k 0 (Nat.le_refl _) (by omega)]

theorem impl_compare_l0 (a b : List Int) (hl : a.length = b.length) (hb : a.length ≤ 1152921504606846976) : ∀ (i k : Nat), i ≤ a.length → i < k → impl_compare.l0 k a b ((i : Int) - 1) = some (cmpI a b i) := by
  intro i
  induction i with
  | zero =>
    intro k _ hk
    obtain ⟨k, rfl, _⟩ := fuel hk
    have h1 : ¬ (((0 : Nat) : Int) - 1 ≥ 0) := by omega
    simp only [impl_compare.l0, h1, ↓reduceIte, cmpI]
  | succ i ih =>
    intro k hi hk
    obtain ⟨k, rfl, hk'⟩ := fuel hk
    have e : ((i + 1 : Nat) : Int) - 1 = (i : Int) := by omega
    have h1 : (i : Int) ≥ 0 := by omega
    have h2 : (0 : Int) ≤ (i : Int) := by omega
    have h3 : (i : Int) < (a.length : Int) := by omega
    have h4 : (i : Int) < (b.length : Int) := by omega
    have w : wrap64 ((i : Int) - 1) = (i : Int) - 1 := w64 (by omega) (by omega)
    rw [e]
    simp only [impl_compare.l0, h1, h2, h3, h4, w, ↓reduceIte, cmpI, ih k (by omega) (by omega)]
    by_cases c1 : rd a (i : Int) < rd b (i : Int)
    · simp only [c1, ↓reduceIte]
    · by_cases c2 : rd a (i : Int) > rd b (i : Int)
      · simp only [c1, c2, ↓reduceIte]
      · simp only [c1, c2, ↓reduceIte]
theorem impl_compare_ok (a b : List Int) (hb : a.length ≤ 1152921504606846976) (k : Nat) (hk : a.length < k) : impl_compare.f k a b = some (cmpL a b) := by
  unfold impl_compare.f cmpL
  by_cases c1 : a.length = b.length
  · have c1' : (a.length : Int) = (b.length : Int) := by omega
    simp only [c1, c1', ↓reduceIte]
    rw [w64 (by omega) (by omega), ← c1', impl_compare_l0 a b c1 hb a.length k (Nat.le_refl _) hk, c1]
  · have c1' : ¬ (a.length : Int) = (b.length : Int) := by omega
    simp only [c1, c1', ↓reduceIte]
    by_cases c2 : a.length < b.length
    · have c2' : (a.length : Int) < (b.length : Int) := by omega
      simp only [c2, c2', ↓reduceIte]
    · have c2' : ¬ (a.length : Int) < (b.length : Int) := by omega
      simp only [c2, c2', ↓reduceIte]

theorem limbsOf_l0 : ∀ (m n : Nat) (acc : List Int) (k : Nat), n < 1000000000 ^ m → m < k → n ≤ 18446744073709551615 → acc.length + m ≤ 1000 →
    impl_limbsOf.l0 k (n : Int) acc = some (acc ++ dg n) := by
  intro m
  induction m with
  | zero =>
    intro n acc k hn hk _ _
    obtain ⟨k, rfl, _⟩ := fuel hk
    have : n = 0 := by simpa using hn
    subst this
    simp only [impl_limbsOf.l0]
    rw [if_neg (by omega)]
    simp [dg_zero]
  | succ m ih =>
    intro n acc k hn hk hm ha
    obtain ⟨k, rfl, hk'⟩ := fuel hk
    simp only [impl_limbsOf.l0]
    by_cases h0 : n = 0
    · subst h0
      rw [if_neg (by omega)]
      simp [dg_zero]
    · have e1 : Int.tdiv (n : Int) 1000000000 = ((n / 1000000000 : Nat) : Int) := rfl
      have e2 : Int.tmod (n : Int) 1000000000 = ((n % 1000000000 : Nat) : Int) := rfl
      rw [if_pos (by omega), if_pos (by omega), e1, e2, w64 (by omega) (by omega), u64 (by omega) (by omega), ih _ _ k (Nat.div_lt_of_lt_mul (by rw [Nat.pow_succ] at hn; omega)) (by omega) (by omega) (by simp; omega), dg_pos h0]
      simp
theorem limbsOf_ok (n : Nat) (k : Nat) (hk : 4 ≤ k) (h : n ≤ 18446744073709551615) : impl_limbsOf.f k (n : Int) = some (dg n) := by
  have := limbsOf_l0 3 n [] k (by omega) (by omega) h (by simp)
  simpa [impl_limbsOf.f] using this

theorem impl_toInt_l0 (l : List Int) (hb : l.length ≤ 1048576) : ∀ (i k : Nat) (acc : Int), i ≤ l.length → i < k → impl_toInt.l0 k l acc ((i : Int) - 1) = some (hor l i acc, true) := by
  intro i
  induction i with
  | zero =>
    intro k acc _ hk
    obtain ⟨k, rfl, _⟩ := fuel hk
    have h1 : ¬ (((0 : Nat) : Int) - 1 ≥ 0) := by omega
    simp only [impl_toInt.l0, h1, ↓reduceIte, hor]
  | succ i ih =>
    intro k acc hi hk
    obtain ⟨k, rfl, hk'⟩ := fuel hk
    have e : ((i + 1 : Nat) : Int) - 1 = (i : Int) := by omega
    have h1 : (i : Int) ≥ 0 := by omega
    have h2 : (0 : Int) ≤ (i : Int) := by omega
    have h3 : (i : Int) < (l.length : Int) := by omega
    have w : wrap64 ((i : Int) - 1) = (i : Int) - 1 := w64 (by omega) (by omega)
    rw [e]
    simp only [impl_toInt.l0, h1, h2, h3, w, ↓reduceIte, hor, ih k _ (by omega) (by omega)]
theorem dg_maxInt : dg 9223372036854775807 = [854775807, 223372036, 9] := by
  rw [dg_pos (by omega), dg_pos (by omega), dg_pos (by omega), show (9223372036854775807 / 1000000000 / 1000000000 / 1000000000 : Nat) = 0 from rfl, dg_zero]; rfl
theorem impl_toInt_ok (l : List Int) (hb : l.length ≤ 1048576) (k : Nat) (hk : l.length + 4 < k) :
    impl_toInt.f k l = some (if ¬ cmpL l [854775807, 223372036, 9] > 0 then (hor l l.length 0, true) else (0, false)) := by
  unfold impl_toInt.f
  have e := limbsOf_ok 9223372036854775807 k (by omega) (by omega)
  rw [dg_maxInt] at e
  have e' : impl_limbsOf.f k 9223372036854775807 = some [854775807, 223372036, 9] := e
  rw [e']
  simp only [Option.bind_some]
  rw [impl_compare_ok l _ (by omega) _ (by omega)]
  simp only [Option.bind_some]
  by_cases h : cmpL l [854775807, 223372036, 9] > 0
  · simp [h]
  · simp only [h, ↓reduceIte, not_false_eq_true]
    rw [w64 (by omega) (by omega), impl_toInt_l0 l hb l.length k 0 (Nat.le_refl _) (by omega)]

theorem FnExactBigIntToInt : laws_FnExactBigIntToInt.Pure := by
  intro x ⟨_, _, hx⟩
  refine ⟨1048600 + 1, ?_⟩
  obtain ⟨k, hk⟩ : ∃ k, k = 1048600 := ⟨_, rfl⟩
  rw [← hk]
  unfold laws_FnExactBigIntToInt.f
  rw [szBigInt_ok x.f0 x.f1 1048576 (by omega) (by omega) hx]
  simp only [Option.bind_some]
  by_cases h : (1048576 : Int) - (x.f1.length : Int) < 0
  · simp [h]
  · have key : ∃ r, spec_BigIntToInt.f (k + 1) x.f0 x.f1 = some r ∧ impl_BigIntToInt.f (k + 1) x.f0 x.f1 = some r := by
      unfold spec_BigIntToInt.f impl_BigIntToInt.f
      simp only [spec_NatToInt_ok x.f1 (by omega) (k + 1) (by omega), spec_BigIntOk_ok x.f0 x.f1 (by omega) (k + 1) (by omega), impl_BigIntOk_ok, impl_toInt_ok x.f1 (by omega) (k + 1) (by omega), Option.bind_some, spec_BigIntToInt.j0]
      unfold bok
      cases nok x.f1
      · exact ⟨(0, false), by simp, by simp⟩
      · by_cases hc : cmpL x.f1 [854775807, 223372036, 9] > 0
        · refine ⟨(0, false), by simp [hc], ?_⟩
          cases (!x.f0 || decide (0 < x.f1.length)) <;> simp [hc]
        · cases hb : (!x.f0 || decide (0 < x.f1.length))
          · exact ⟨(0, false), by simp [hc], by simp⟩
          · cases x.f0
            · exact ⟨(hor x.f1 x.f1.length 0, true), by simp [hc], by simp [hc]⟩
            · exact ⟨(wrap64 (-hor x.f1 x.f1.length 0), true), by simp [hc], by simp [hc]⟩
    obtain ⟨r, e1, e2⟩ := key
    simp only [h, ↓reduceIte, toBigInt_ok x.f0 x.f1 (by omega) (k + 1) (by omega), toBigInt_ok x.f0 x.f1 (by omega) k (by omega), e1, e2, eqBigInt_same x.f0 x.f1 (by omega) k (by omega), Option.bind_some, laws_FnExactBigIntToInt.j0, bne_self_eq_false, Bool.false_eq_true]

end Go.Proofs.Ytmnahdoomnbdoaa.Pure
