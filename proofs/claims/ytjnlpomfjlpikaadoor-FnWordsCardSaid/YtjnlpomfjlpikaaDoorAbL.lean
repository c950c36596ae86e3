/- Contracts of the given program's functions and of the reference's (walks). -/
import Derived.Lib.SplitLaws
import Derived.Lib.CountLaws
set_option linter.unusedVariables false
namespace Go.Proofs.YtjnlpomfjlpikaaDoor.Ab
open Go
/-! ### Lines, plainly -/
def spL (c : UInt8) : List UInt8 → List (List UInt8)
  | [] => [[]]
  | b :: r => if b = c then [] :: spL c r else match spL c r with
    | p :: q => (b :: p) :: q
    | [] => [[b]]
theorem spL_ne (c : UInt8) (l : List UInt8) : ∃ p q, spL c l = p :: q := by
  cases l with
  | nil => exact ⟨_, _, rfl⟩
  | cons b r =>
    unfold spL
    split
    · exact ⟨_, _, rfl⟩
    · split <;> exact ⟨_, _, rfl⟩
theorem spL_snoc (c b : UInt8) : ∀ (l : List UInt8) (P : List (List UInt8)) (q : List UInt8), spL c l = P ++ [q] → spL c (l ++ [b]) = if b = c then P ++ [q] ++ [[]] else P ++ [q ++ [b]]
  | [], P, q, h => by
    have h : [[]] = P ++ [q] := h
    cases P with
    | nil =>
      injection h with h1 h2
      subst h1
      show spL c [b] = _
      unfold spL
      split
      · rfl
      · rfl
    | cons x P => cases P <;> simp at h
  | a :: l, P, q, h => by
    obtain ⟨p, r, hr⟩ := spL_ne c l
    obtain ⟨P', q', hpq⟩ : ∃ P' q', spL c l = P' ++ [q'] := by
      rcases List.eq_nil_or_concat (spL c l) with e | ⟨P', q', e⟩
      · rw [hr] at e; cases e
      · exact ⟨P', q', by rw [e, List.concat_eq_append]⟩
    have ih := spL_snoc c b l P' q' hpq
    rw [List.cons_append]
    by_cases ha : a = c
    · unfold spL at h ⊢
      rw [if_pos ha, hpq] at h
      rw [if_pos ha, ih]
      have e1 : P = [] :: P' ∧ q = q' := by
        have h2 : ([] :: P') ++ [q'] = P ++ [q] := h
        have h3 := List.append_inj' h2 rfl
        injection h3.2 with h4
        exact ⟨h3.1.symm, h4.symm⟩
      rw [e1.1, e1.2]
      split <;> rfl
    · unfold spL at h ⊢
      rw [if_neg ha] at h ⊢
      rw [ih]
      cases P' with
      | nil =>
        rw [hpq] at h
        have h2 : ([] : List (List UInt8)) ++ [a :: q'] = P ++ [q] := h
        have h3 := List.append_inj' h2 rfl
        injection h3.2 with h4
        rw [← h3.1, ← h4]
        by_cases hbc : b = c
        · simp [hbc]
        · simp [hbc]
      | cons x P' =>
        rw [hpq] at h
        have h2 : ((a :: x) :: P') ++ [q'] = P ++ [q] := h
        have h3 := List.append_inj' h2 rfl
        injection h3.2 with h4
        rw [← h3.1, ← h4]
        by_cases hbc : b = c
        · simp [hbc]
        · simp [hbc]
theorem spL_index (c : UInt8) : ∀ (l : List UInt8), (Lib.index l [c] = -1 ∧ spL c l = [l]) ∨ ∃ i : Nat, Lib.index l [c] = i ∧ i < l.length ∧ spL c l = l.take i :: spL c (l.drop (i + 1))
  | [] => .inl ⟨rfl, rfl⟩
  | b :: r => by
    have hp : ([c] : List UInt8).isPrefixOf (b :: r) = (c == b) := by simp [List.isPrefixOf]
    by_cases hb : b = c
    · subst hb
      refine .inr ⟨0, ?_, by simp, ?_⟩
      · unfold Lib.index
        rw [hp, if_pos (by simp)]
        rfl
      · rw [spL, if_pos rfl]
        rfl
    · have hp2 : ([c] : List UInt8).isPrefixOf (b :: r) = false := by rw [hp]; exact beq_eq_false_iff_ne.2 (Ne.symm hb)
      rcases spL_index c r with ⟨h1, h2⟩ | ⟨i, h1, h2, h3⟩
      · refine .inl ⟨?_, ?_⟩
        · unfold Lib.index
          rw [hp2, h1]
          rfl
        · unfold spL
          rw [if_neg hb, h2]
      · refine .inr ⟨i + 1, ?_, by simp; omega, ?_⟩
        · unfold Lib.index
          rw [hp2, if_neg (by decide), h1, if_neg (by simp only [beq_iff_eq]; omega)]
          omega
        · rw [spL, if_neg hb, h3]
          simp
theorem splitK_spL (c : UInt8) : ∀ (n : Nat) (l : List UInt8), l.length = n → Lib.splitK [c] 0 (Lib.count l [c]) l = spL c l := by
  intro n
  induction n using Nat.strongRecOn with
  | _ n ih =>
    intro l hl
    rcases spL_index c l with ⟨h1, h2⟩ | ⟨i, h1, h2, h3⟩
    · rw [Lib.count_miss h1, h2]
      rfl
    · rw [Lib.count_hit (by simp) h1, Nat.add_comm 1, Lib.splitK, if_neg (by rw [h1]; simp only [beq_iff_eq]; omega), h1, h3, Int.toNat_natCast, Nat.add_zero]
      have e : (i + [c].length : Nat) = i + 1 := rfl
      rw [e, ih (l.drop (i + 1)).length (by rw [List.length_drop]; omega) _ rfl]
end Go.Proofs.YtjnlpomfjlpikaaDoor.Ab
