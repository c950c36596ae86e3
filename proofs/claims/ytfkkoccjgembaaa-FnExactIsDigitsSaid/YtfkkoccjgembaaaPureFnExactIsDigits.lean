/- The program's IsDigits returns what the reference's returns, for every string; no condition. -/
import Derived.Test.YtfkkoccjgembaaaPFnExactIsDigitsx1
import Derived.Test.YtfkkoccjgembaaaLb
set_option linter.unusedVariables false
set_option linter.unusedSimpArgs false
namespace Go.Proofs.Ytfkkoccjgembaaa.Pure
open Go.RowKit Go.Proofs.Ytfkkoccjgembaaa.PFnExactIsDigits Go.Proofs.YtfkkoccjgembaaaW.PrintWords Go.Proofs.YtfkkoccjgembaaaW.PrintLast Go.Proofs.Ytfkkoccjgembaaa.Lb


theorem toList_ne (s : ByteArray) : (!s.toList.isEmpty) = decide ((s.size : Int) > 0) := by
  rw [Bool.eq_iff_iff]
  have e : s.toList = s.data.toList := ByteArray.toList_eq s
  rw [e, decide_eq_true_iff, Bool.not_eq_true', ← Bool.not_eq_true, List.isEmpty_iff]
  have h : s.data.toList.length = s.size := by simp
  constructor
  · intro hne
    have := List.length_pos_iff.mpr hne
    omega
  · intro hp he
    rw [he] at h
    simp at h
    omega
theorem both (s : ByteArray) (hs : s.size ≤ 1048576) : ∀ (d i k : Nat), i + d = s.size → d < k → ∃ b, spec_IsDigits.l0 k s (i : Int) = some b ∧ impl_IsDigits.l0 k s (s.size : Int) (i : Int) = some b := by
  intro d
  induction d with
  | zero =>
    intro i k h hk
    obtain ⟨k, rfl, _⟩ := fuel hk
    refine ⟨decide ((s.size : Int) > 0), ?_, ?_⟩
    · have h1 : ¬ ((i : Int) < (s.size : Int)) := by omega
      simp only [spec_IsDigits.l0, h1, ↓reduceIte]
      congr 1
      exact decide_eq_decide.mpr (by omega)
    · have h1 : ¬ ((i : Int) < (s.size : Int)) := by omega
      simp only [impl_IsDigits.l0, h1, ↓reduceIte, toList_ne]
  | succ d ih =>
    intro i k h hk
    obtain ⟨k, rfl, hk'⟩ := fuel hk
    obtain ⟨b, e1, e2⟩ := ih (i + 1) k (by omega) (by omega)
    have w : wrap64 ((i : Int) + 1) = ((i + 1 : Nat) : Int) := by rw [w64 (by omega) (by omega)]; omega
    have h1 : (i : Int) < (s.size : Int) := by omega
    have h2 : (0 : Int) ≤ (i : Int) := by omega
    simp only [spec_IsDigits.l0, impl_IsDigits.l0, impl_isDigit.f, h1, h2, w, e1, e2, ↓reduceIte]
    by_cases c1 : bt s (i : Int) < 48
    · have c2 : ¬ bt s (i : Int) ≥ 48 := by omega
      exact ⟨false, by simp [c1], by simp [c2]⟩
    · by_cases c2 : bt s (i : Int) > 57
      · have c3 : bt s (i : Int) ≥ 48 := by omega
        have c4 : ¬ bt s (i : Int) ≤ 57 := by omega
        exact ⟨false, by simp [c1, c2], by simp [c3, c4]⟩
      · have c3 : bt s (i : Int) ≥ 48 := by omega
        have c4 : bt s (i : Int) ≤ 57 := by omega
        exact ⟨b, by simp only [c1, c2, ↓reduceIte], by simp only [c3, c4, ↓reduceIte, Option.bind_some, decide_true]⟩
theorem FnExactIsDigits : laws_FnExactIsDigits.Pure := by
  intro s _
  refine ⟨s.size + 1, ?_⟩
  unfold laws_FnExactIsDigits.f
  by_cases h : (s.size : Int) > 1048576
  · rw [if_pos h]
  · obtain ⟨b, e1, e2⟩ := both s (by omega) s.size 0 (s.size + 1) (by omega) (by omega)
    have e1' : spec_IsDigits.f (s.size + 1) s = some b := e1
    have e2' : impl_IsDigits.f (s.size + 1) s = some b := e2
    rw [if_neg h, e1', e2']
    simp

end Go.Proofs.Ytfkkoccjgembaaa.Pure
