/- The program's IsName returns what the reference's returns, for every string; no condition. -/
import Derived.Test.YtfkkoccjgembaaaPFnExactIsNamex1
import Derived.Test.YtfkkoccjgembaaaLb
set_option linter.unusedVariables false
set_option linter.unusedSimpArgs false
namespace Go.Proofs.Ytfkkoccjgembaaa.Pure
open Go.RowKit Go.Proofs.Ytfkkoccjgembaaa.PFnExactIsName Go.Proofs.YtfkkoccjgembaaaW.PrintWords Go.Proofs.YtfkkoccjgembaaaW.PrintLast Go.Proofs.Ytfkkoccjgembaaa.Lb


theorem toList_nil (s : ByteArray) : s.toList = ([] : List UInt8) ↔ s.size = 0 := by
  have e : s.toList = s.data.toList := ByteArray.toList_eq s
  rw [e]
  have h : s.data.toList.length = s.size := by simp
  constructor
  · intro he; rw [he] at h; simp at h; omega
  · intro h0; rw [h0] at h; exact List.length_eq_zero_iff.mp h
theorem both (s : ByteArray) (hs : s.size ≤ 1048576) : ∀ (d i k : Nat), i + d = s.size → d < k → ∃ b, spec_IsName.l0 k s (i : Int) = some b ∧ impl_IsName.l0 k s (s.size : Int) (i : Int) = some b := by
  intro d
  induction d with
  | zero =>
    intro i k h hk
    obtain ⟨k, rfl, _⟩ := fuel hk
    have h1 : ¬ ((i : Int) < (s.size : Int)) := by omega
    simp only [spec_IsName.l0, impl_IsName.l0, spec_l01In.f, h1, ↓reduceIte, toList_nil]
    by_cases h0 : s.size = 0
    · have h2 : ¬ ((s.size : Int) ≥ 1) := by omega
      exact ⟨false, by simp [h0], by simp [h0]⟩
    · have h2 : (s.size : Int) ≥ 1 := by omega
      exact ⟨decide ((s.size : Int) ≤ 8), by simp only [h2, ↓reduceIte, Option.bind_some], by simp only [h0, ↓reduceIte]⟩
  | succ d ih =>
    intro i k h hk
    obtain ⟨k, rfl, hk'⟩ := fuel hk
    obtain ⟨b, e1, e2⟩ := ih (i + 1) k (by omega) (by omega)
    have w : wrap64 ((i : Int) + 1) = ((i + 1 : Nat) : Int) := by rw [w64 (by omega) (by omega)]; omega
    have h1 : (i : Int) < (s.size : Int) := by omega
    have h2 : (0 : Int) ≤ (i : Int) := by omega
    simp only [spec_IsName.l0, impl_IsName.l0, impl_isDigit.f, impl_isLetter.f, h1, h2, w, e1, e2, ↓reduceIte]
    generalize bt s (i : Int) = x
    by_cases c1 : x ≥ 97
    · by_cases c2 : x ≤ 122
      · exact ⟨b, by simp only [c1, c2, ↓reduceIte], by simp only [c1, c2, ↓reduceIte, Option.bind_some, decide_true]⟩
      · have c3 : ¬ x < 48 := by omega
        have c4 : x > 57 := by omega
        have c5 : x ≥ 48 := by omega
        have c6 : ¬ x ≤ 57 := by omega
        by_cases c0 : (i : Int) = 0
        · exact ⟨false, by simp only [c1, c2, c0, ↓reduceIte], by simp only [c1, c2, c0, ↓reduceIte, Option.bind_some, decide_false]; rfl⟩
        · exact ⟨false, by simp only [c1, c2, c0, c3, c4, ↓reduceIte], by simp only [c1, c2, c0, c5, c6, ↓reduceIte, Option.bind_some, decide_false]; rfl⟩
    · by_cases c0 : (i : Int) = 0
      · exact ⟨false, by simp only [c1, c0, ↓reduceIte], by simp only [c1, c0, ↓reduceIte, Option.bind_some]; rfl⟩
      · by_cases c3 : x < 48
        · have c5 : ¬ x ≥ 48 := by omega
          exact ⟨false, by simp only [c1, c0, c3, ↓reduceIte], by simp only [c1, c0, c5, ↓reduceIte, Option.bind_some]; rfl⟩
        · have c5 : x ≥ 48 := by omega
          by_cases c4 : x > 57
          · have c6 : ¬ x ≤ 57 := by omega
            exact ⟨false, by simp only [c1, c0, c3, c4, ↓reduceIte], by simp only [c1, c0, c5, c6, ↓reduceIte, Option.bind_some, decide_false]; rfl⟩
          · have c6 : x ≤ 57 := by omega
            exact ⟨b, by simp only [c1, c0, c3, c4, ↓reduceIte], by simp only [c1, c0, c5, c6, ↓reduceIte, Option.bind_some, decide_true]; rfl⟩
theorem FnExactIsName : laws_FnExactIsName.Pure := by
  intro s _
  refine ⟨s.size + 1, ?_⟩
  unfold laws_FnExactIsName.f
  by_cases h : (s.size : Int) > 1048576
  · rw [if_pos h]
  · obtain ⟨b, e1, e2⟩ := both s (by omega) s.size 0 (s.size + 1) (by omega) (by omega)
    have e1' : spec_IsName.f (s.size + 1) s = some b := e1
    have e2' : impl_IsName.f (s.size + 1) s = some b := e2
    rw [if_neg h, e1', e2']
    simp

end Go.Proofs.Ytfkkoccjgembaaa.Pure
