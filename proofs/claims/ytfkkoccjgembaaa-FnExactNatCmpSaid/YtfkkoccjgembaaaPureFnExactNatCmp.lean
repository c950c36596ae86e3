/- The program's NatCmp returns what the reference's returns, for every two slices of ints; no condition. -/
import Derived.Test.YtfkkoccjgembaaaPFnExactNatCmpx2
import Derived.Test.YtfkkoccjgembaaaLb
set_option linter.unusedVariables false
set_option linter.unusedSimpArgs false
namespace Go.Proofs.Ytfkkoccjgembaaa.Pure
open Go.RowKit Go.Proofs.Ytfkkoccjgembaaa.PFnExactNatCmp Go.Proofs.YtfkkoccjgembaaaW.PrintWords Go.Proofs.YtfkkoccjgembaaaW.PrintLast Go.Proofs.Ytfkkoccjgembaaa.Lb

theorem toIntS_l0 (l : List Int) (hl : l.length ≤ 1099511627776) : ∀ (d k i : Nat), i + d = l.length → d < k →
    laws_toIntS.l0 k l (l.take i ++ List.replicate d 0) (i : Int) = some l := by
  intro d
  induction d with
  | zero =>
    intro k i h hk
    obtain ⟨k, rfl, _⟩ := fuel hk
    simp only [laws_toIntS.l0]
    rw [if_neg (by omega)]
    simp [List.take_of_length_le (show l.length ≤ i by omega)]
  | succ d ih =>
    intro k i h hk
    obtain ⟨k, rfl, hk'⟩ := fuel hk
    simp only [laws_toIntS.l0]
    rw [if_pos (by omega), if_pos (by omega), if_pos (by rw [List.length_append, List.length_take, List.length_replicate]; omega)]
    rw [w64 (by omega) (by omega), Int.toNat_natCast, copy_step l i d h]
    exact ih k (i + 1) (by omega) (by omega)
theorem toIntS_ok (l : List Int) (hl : l.length ≤ 1099511627776) (k : Nat) (hk : l.length < k) : laws_toIntS.f k l = some l := by
  unfold laws_toIntS.f
  rw [if_pos (by omega), if_pos (by omega)]
  have := toIntS_l0 l hl l.length k 0 (by omega) hk
  simpa using this

theorem eqIntS_l0 (l : List Int) (hl : l.length ≤ 1152921504606846976) : ∀ (d k i : Nat), i + d = l.length → d < k →
    laws_eqIntS.l0 k l l (i : Int) = some true := by
  intro d
  induction d with
  | zero =>
    intro k i h hk
    obtain ⟨k, rfl, _⟩ := fuel hk
    simp only [laws_eqIntS.l0]
    rw [if_neg (by omega)]
  | succ d ih =>
    intro k i h hk
    obtain ⟨k, rfl, hk'⟩ := fuel hk
    simp only [laws_eqIntS.l0]
    rw [if_pos (by omega), if_pos (by omega), if_pos (by omega), if_pos trivial, w64 (by omega) (by omega)]
    exact ih k (i + 1) (by omega) (by omega)
theorem eqIntS_same (l : List Int) (hl : l.length ≤ 1152921504606846976) (k : Nat) (hk : l.length < k) : laws_eqIntS.f k l l = some true := by
  unfold laws_eqIntS.f
  rw [if_pos rfl]
  exact eqIntS_l0 l hl l.length k 0 (by omega) hk

theorem spec_in_ok (x : Int) : spec_l01In.f x 0 999999999 = some (inB x) := by
  unfold spec_l01In.f inB
  by_cases h : x ≥ 0
  · rw [if_pos h, decide_eq_true h, Bool.true_and]
  · rw [if_neg h, decide_eq_false h, Bool.false_and]
theorem spec_NatOk_l0 (l : List Int) (hl : l.length ≤ 1152921504606846976) : ∀ (d k i : Nat), i + d = l.length → d < k →
    spec_NatOk.l0 k l l (l.length : Int) (i : Int) = some ((l.drop i).all inB && (decide (l.length ≤ 60) && (l.isEmpty || !decide (rd l ((l.length : Int) - 1) = 0)))) := by
  intro d
  induction d with
  | zero =>
    intro k i h hk
    obtain ⟨k, rfl, _⟩ := fuel hk
    have h1 : ¬ ((i : Int) < (l.length : Int)) := by omega
    simp only [spec_NatOk.l0, h1, ↓reduceIte]
    rw [List.drop_of_length_le (by omega)]
    by_cases h2 : (l.length : Int) ≤ 60
    · have h2' : l.length ≤ 60 := by omega
      by_cases h3 : (l.length : Int) = 0
      · have : l = [] := List.length_eq_zero_iff.mp (by omega)
        subst this
        simp
      · have h4 : (0 : Int) ≤ wrap64 ((l.length : Int) - 1) := by rw [w64 (by omega) (by omega)]; omega
        have h5 : wrap64 ((l.length : Int) - 1) < (l.length : Int) := by rw [w64 (by omega) (by omega)]; omega
        have h6 : l.isEmpty = false := by cases l with | nil => simp at h3 | cons _ _ => rfl
        simp only [h2, h3, h4, h5, h6, ↓reduceIte, h2', decide_true, List.all_nil, Bool.true_and, Bool.false_or]
        rw [w64 (by omega) (by omega)]
        congr 1
    · have h2' : ¬ l.length ≤ 60 := by omega
      simp [h2, h2']
  | succ d ih =>
    intro k i h hk
    obtain ⟨k, rfl, hk'⟩ := fuel hk
    have h1 : (i : Int) < (l.length : Int) := by omega
    have h2 : (0 : Int) ≤ (i : Int) := by omega
    have w : wrap64 ((i : Int) + 1) = ((i + 1 : Nat) : Int) := by rw [w64 (by omega) (by omega)]; omega
    have e : l.drop i = rd l i :: l.drop (i + 1) := drop_rd l i (by omega)
    simp only [spec_NatOk.l0, h1, h2, ↓reduceIte, spec_in_ok, Option.bind_some, w, ih k (i + 1) (by omega) (by omega), e, List.all_cons]
    cases inB (rd l (i : Int)) <;> simp
theorem spec_NatOk_ok (l : List Int) (hl : l.length ≤ 1152921504606846976) (k : Nat) (hk : l.length < k) : spec_NatOk.f k l = some (nok l) := by
  have := spec_NatOk_l0 l hl l.length k 0 (by omega) hk
  unfold spec_NatOk.f
  refine this.trans ?_
  rw [List.drop_zero, Bool.and_comm]; rfl

theorem impl_NatOk_ok (l : List Int) : impl_NatOk.f l = some (nok l) := by
  unfold impl_NatOk.f Ext.natOkB nok
  congr 2
  rw [Bool.eq_iff_iff]
  simp only [Bool.not_eq_true', List.any_eq_false, List.all_eq_true, Ext.badB, inB, Bool.or_eq_true, Bool.and_eq_true, decide_eq_true_iff]
  constructor
  · intro h x hx
    have := h x hx
    omega
  · intro h x hx
    have := h x hx
    omega

theorem spec_l02Cmp_l0 (a b : List Int) (hl : a.length = b.length) (hb : a.length ≤ 1152921504606846976) : ∀ (i k : Nat), i ≤ a.length → i < k → spec_l02Cmp.l0 k a b ((i : Int) - 1) = some (cmpI a b i) := by
  intro i
  induction i with
  | zero =>
    intro k _ hk
    obtain ⟨k, rfl, _⟩ := fuel hk
    have h1 : ¬ (((0 : Nat) : Int) - 1 ≥ 0) := by omega
    simp only [spec_l02Cmp.l0, h1, ↓reduceIte, cmpI]
  | succ i ih =>
    intro k hi hk
    obtain ⟨k, rfl, hk'⟩ := fuel hk
    have e : ((i + 1 : Nat) : Int) - 1 = (i : Int) := by omega
    have h1 : (i : Int) ≥ 0 := by omega
    have h2 : (0 : Int) ≤ (i : Int) := by omega
    have h3 : (i : Int) < (a.length : Int) := by omega
    have h4 : (i : Int) < (b.length : Int) := by omega
    have w : wrap64 ((i : Int) - 1) = (i : Int) - 1 := w64 (by omega) (by omega)
    rw [e]
    simp only [spec_l02Cmp.l0, h1, h2, h3, h4, w, ↓reduceIte, cmpI, ih k (by omega) (by omega)]
    by_cases c1 : rd a (i : Int) < rd b (i : Int)
    · simp only [c1, ↓reduceIte]
    · by_cases c2 : rd a (i : Int) > rd b (i : Int)
      · simp only [c1, c2, ↓reduceIte]
      · simp only [c1, c2, ↓reduceIte]
theorem spec_l02Cmp_ok (a b : List Int) (hb : a.length ≤ 1152921504606846976) (k : Nat) (hk : a.length < k) : spec_l02Cmp.f k a b = some (cmpL a b) := by
  unfold spec_l02Cmp.f cmpL
  by_cases c1 : a.length = b.length
  · have c1' : (a.length : Int) = (b.length : Int) := by omega
    simp only [c1, c1', ↓reduceIte]
    rw [w64 (by omega) (by omega), ← c1', spec_l02Cmp_l0 a b c1 hb a.length k (Nat.le_refl _) hk, c1]
  · have c1' : ¬ (a.length : Int) = (b.length : Int) := by omega
    simp only [c1, c1', ↓reduceIte]
    by_cases c2 : a.length < b.length
    · have c2' : (a.length : Int) < (b.length : Int) := by omega
      simp only [c2, c2', ↓reduceIte]
    · have c2' : ¬ (a.length : Int) < (b.length : Int) := by omega
      simp only [c2, c2', ↓reduceIte]

theorem impl_compare_l0 (a b : List Int) (hl : a.length = b.length) (hb : a.length ≤ 1152921504606846976) : ∀ (i k : Nat), i ≤ a.length → i < k → impl_compare.l0 k a b ((i : Int) - 1) = some (cmpI a b i) := by
  intro i
  induction i with
  | zero =>
    intro k _ hk
    obtain ⟨k, rfl, _⟩ := fuel hk
    have h1 : ¬ (((0 : Nat) : Int) - 1 ≥ 0) := by omega
    simp only [impl_compare.l0, h1, ↓reduceIte, cmpI]
  | succ i ih =>
    intro k hi hk
    obtain ⟨k, rfl, hk'⟩ := fuel hk
    have e : ((i + 1 : Nat) : Int) - 1 = (i : Int) := by omega
    have h1 : (i : Int) ≥ 0 := by omega
    have h2 : (0 : Int) ≤ (i : Int) := by omega
    have h3 : (i : Int) < (a.length : Int) := by omega
    have h4 : (i : Int) < (b.length : Int) := by omega
    have w : wrap64 ((i : Int) - 1) = (i : Int) - 1 := w64 (by omega) (by omega)
    rw [e]
    simp only [impl_compare.l0, h1, h2, h3, h4, w, ↓reduceIte, cmpI, ih k (by omega) (by omega)]
    by_cases c1 : rd a (i : Int) < rd b (i : Int)
    · simp only [c1, ↓reduceIte]
    · by_cases c2 : rd a (i : Int) > rd b (i : Int)
      · simp only [c1, c2, ↓reduceIte]
      · simp only [c1, c2, ↓reduceIte]
theorem impl_compare_ok (a b : List Int) (hb : a.length ≤ 1152921504606846976) (k : Nat) (hk : a.length < k) : impl_compare.f k a b = some (cmpL a b) := by
  unfold impl_compare.f cmpL
  by_cases c1 : a.length = b.length
  · have c1' : (a.length : Int) = (b.length : Int) := by omega
    simp only [c1, c1', ↓reduceIte]
    rw [w64 (by omega) (by omega), ← c1', impl_compare_l0 a b c1 hb a.length k (Nat.le_refl _) hk, c1]
  · have c1' : ¬ (a.length : Int) = (b.length : Int) := by omega
    simp only [c1, c1', ↓reduceIte]
    by_cases c2 : a.length < b.length
    · have c2' : (a.length : Int) < (b.length : Int) := by omega
      simp only [c2, c2', ↓reduceIte]
    · have c2' : ¬ (a.length : Int) < (b.length : Int) := by omega
      simp only [c2, c2', ↓reduceIte]

theorem FnExactNatCmp : laws_FnExactNatCmp.Pure := by
  intro a b ⟨_, ha⟩ ⟨_, hb⟩
  refine ⟨1048577, ?_⟩
  obtain ⟨k, hk⟩ : ∃ k, k = 1048577 := ⟨_, rfl⟩
  rw [← hk]
  unfold laws_FnExactNatCmp.f
  by_cases h : (a.length : Int) > 1048576
  · simp only [h, ↓reduceIte]
  · by_cases h2 : (b.length : Int) > 1048576
    · simp only [h, h2, ↓reduceIte]
    · have key : ∃ r, spec_NatCmp.f k a b = some r ∧ impl_NatCmp.f k a b = some r := by
        unfold spec_NatCmp.f impl_NatCmp.f
        simp only [spec_NatOk_ok a (by omega) k (by omega), spec_NatOk_ok b (by omega) k (by omega), impl_NatOk_ok, Option.bind_some, spec_l02Cmp_ok a b (by omega) k (by omega), impl_compare_ok a b (by omega) k (by omega)]
        cases nok a
        · exact ⟨0, by simp, by simp⟩
        · cases nok b
          · exact ⟨0, by simp, by simp⟩
          · exact ⟨cmpL a b, by simp, by simp⟩
      obtain ⟨r, e1, e2⟩ := key
      simp only [h, h2, ↓reduceIte, toIntS_ok a (by omega) k (by omega), toIntS_ok b (by omega) k (by omega), e1, e2, eqIntS_same a (by omega) k (by omega), eqIntS_same b (by omega) k (by omega), Option.bind_some]

end Go.Proofs.Ytfkkoccjgembaaa.Pure
