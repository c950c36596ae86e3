/- The program's NatOf returns what the reference's returns, for every int; no condition. -/
import Derived.Test.YtfkkoccjgembaaaPFnExactNatOfx1
import Derived.Test.YtfkkoccjgembaaaLb
set_option linter.unusedVariables false
set_option linter.unusedSimpArgs false
namespace Go.Proofs.Ytfkkoccjgembaaa.Pure
open Go.RowKit Go.Proofs.Ytfkkoccjgembaaa.PFnExactNatOf Go.Proofs.YtfkkoccjgembaaaW.PrintWords Go.Proofs.YtfkkoccjgembaaaW.PrintLast Go.Proofs.Ytfkkoccjgembaaa.Lb

theorem eqIntS_l0 (l : List Int) (hl : l.length ≤ 1152921504606846976) : ∀ (d k i : Nat), i + d = l.length → d < k →
    laws_eqIntS.l0 k l l (i : Int) = some true := by
  intro d
  induction d with
  | zero =>
    intro k i h hk
    obtain ⟨k, rfl, _⟩ := fuel hk
    simp only [laws_eqIntS.l0]
    rw [if_neg (by omega)]
  | succ d ih =>
    intro k i h hk
    obtain ⟨k, rfl, hk'⟩ := fuel hk
    simp only [laws_eqIntS.l0]
    rw [if_pos (by omega), if_pos (by omega), if_pos (by omega), if_pos trivial, w64 (by omega) (by omega)]
    exact ih k (i + 1) (by omega) (by omega)
theorem eqIntS_same (l : List Int) (hl : l.length ≤ 1152921504606846976) (k : Nat) (hk : l.length < k) : laws_eqIntS.f k l l = some true := by
  unfold laws_eqIntS.f
  rw [if_pos rfl]
  exact eqIntS_l0 l hl l.length k 0 (by omega) hk

theorem markIntS_l0 : ∀ (s p : List Int) (a : Int) (k : Nat), s.length < k → p.length + s.length ≤ 1152921504606846976 → 0 ≤ a → a + s.length ≤ 1152921504606846976 →
    laws_markIntS.l0 k (p ++ s) a (p.length : Int) = some (a + s.length, p ++ mk a s.length) := by
  intro s
  induction s with
  | nil =>
    intro p a k hk _ _ _
    obtain ⟨k, rfl, _⟩ := fuel hk
    simp only [laws_markIntS.l0]
    rw [if_neg (by simp)]
    simp [mk]
  | cons x s ih =>
    intro p a k hk hl h0 h1
    obtain ⟨k, rfl, hk'⟩ := fuel hk
    simp only [List.length_cons] at hl h1 hk'
    simp only [laws_markIntS.l0]
    rw [if_pos (by rw [List.length_append, List.length_cons]; omega), if_pos (by omega), w64 (by omega) (by omega), w64 (by omega) (by omega), Int.toNat_natCast, set_mid, ← len_snoc p a,
      ih (p ++ [a]) (a + 1) k (by omega) (by rw [List.length_append]; simp; omega) (by omega) (by omega)]
    simp only [List.length_cons, mk, List.append_assoc, List.singleton_append]
    congr 2
    omega
theorem markIntS_ok (l : List Int) (a : Int) (k : Nat) (hk : l.length < k) (h0 : 0 ≤ a) (h1 : a + l.length ≤ 1152921504606846976) (hl : l.length ≤ 1152921504606846976) :
    laws_markIntS.f k l a = some (a + l.length, mk a l.length) := by
  have := markIntS_l0 l [] a k hk (by simpa using hl) h0 h1
  simpa [laws_markIntS.f] using this

theorem heldIntS_l0 : ∀ (n : Nat) (p : List Int) (a : Int) (k : Nat), n < k → p.length + n ≤ 1152921504606846976 → 0 ≤ a → a + n ≤ 1152921504606846976 →
    laws_heldIntS.l0 k (p ++ mk a n) a (p.length : Int) = some (a + n) := by
  intro n
  induction n with
  | zero =>
    intro p a k hk _ _ _
    obtain ⟨k, rfl, _⟩ := fuel hk
    have h1 : ¬ ((p.length : Int) < ((p ++ mk a 0).length : Int)) := by simp [mk]
    simp only [laws_heldIntS.l0, h1, ↓reduceIte]
    simp
  | succ n ih =>
    intro p a k hk hl h0 h1
    obtain ⟨k, rfl, hk'⟩ := fuel hk
    have e : p ++ mk a (n + 1) = (p ++ [a]) ++ mk (a + 1) n := by simp [mk]
    have h1 : (p.length : Int) < ((p ++ mk a (n + 1)).length : Int) := by rw [List.length_append, mk_length]; omega
    have h2 : rd (p ++ mk a (n + 1)) (p.length : Int) = a := rd_mid _ _ _
    have h3 : (0 : Int) ≤ (p.length : Int) := by omega
    simp only [laws_heldIntS.l0, h1, h2, h3, ↓reduceIte]
    rw [w64 (by omega) (by omega), w64 (by omega) (by omega), ← len_snoc p a, e, ih (p ++ [a]) (a + 1) k (by omega) (by rw [List.length_append]; simp; omega) (by omega) (by omega)]
    congr 1
    omega
theorem heldIntS_ok (n : Nat) (a : Int) (k : Nat) (hk : n < k) (h0 : 0 ≤ a) (h1 : a + n ≤ 1152921504606846976) :
    laws_heldIntS.f k (mk a n) a = some (a + n) := by
  have := heldIntS_l0 n [] a k hk (by simp; omega) h0 h1
  simpa [laws_heldIntS.f] using this

theorem spec_NatOf_l0 : ∀ (m n : Nat) (acc : List Int) (k : Nat), n < 1000000000 ^ m → m < k → n ≤ 9223372036854775807 → acc.length + m ≤ 1000 →
    spec_NatOf.l0 k (n : Int) acc = some (acc ++ dg n) := by
  intro m
  induction m with
  | zero =>
    intro n acc k hn hk _ _
    obtain ⟨k, rfl, _⟩ := fuel hk
    have : n = 0 := by simpa using hn
    subst this
    simp only [spec_NatOf.l0]
    rw [if_neg (by omega)]
    simp [dg_zero]
  | succ m ih =>
    intro n acc k hn hk hm ha
    obtain ⟨k, rfl, hk'⟩ := fuel hk
    simp only [spec_NatOf.l0]
    by_cases h0 : n = 0
    · subst h0
      rw [if_neg (by omega)]
      simp [dg_zero]
    · have e1 : Int.tdiv (n : Int) 1000000000 = ((n / 1000000000 : Nat) : Int) := rfl
      have e2 : Int.tmod (n : Int) 1000000000 = ((n % 1000000000 : Nat) : Int) := rfl
      rw [if_pos (by omega), if_pos (by omega), e1, e2, w64 (by omega) (by omega), ih _ _ k (Nat.div_lt_of_lt_mul (by rw [Nat.pow_succ] at hn; omega)) (by omega) (by omega) (by simp; omega), dg_pos h0]
      simp
theorem spec_NatOf_ok (n : Nat) (k : Nat) (hk : 4 ≤ k) (h : n ≤ 9223372036854775807) : spec_NatOf.f k (n : Int) = some (dg n) := by
  have := spec_NatOf_l0 3 n [] k (by omega) (by omega) h (by simp)
  simpa [spec_NatOf.f] using this
theorem spec_NatOf_neg (n : Int) (k : Nat) (hk : 4 ≤ k) (h : n ≤ 0) : spec_NatOf.f k n = some [] := by
  obtain ⟨k, rfl, _⟩ := fuel hk
  simp only [spec_NatOf.f, spec_NatOf.l0]
  rw [if_neg (by omega)]

theorem limbsOf_l0 : ∀ (m n : Nat) (acc : List Int) (k : Nat), n < 1000000000 ^ m → m < k → n ≤ 18446744073709551615 → acc.length + m ≤ 1000 →
    impl_limbsOf.l0 k (n : Int) acc = some (acc ++ dg n) := by
  intro m
  induction m with
  | zero =>
    intro n acc k hn hk _ _
    obtain ⟨k, rfl, _⟩ := fuel hk
    have : n = 0 := by simpa using hn
    subst this
    simp only [impl_limbsOf.l0]
    rw [if_neg (by omega)]
    simp [dg_zero]
  | succ m ih =>
    intro n acc k hn hk hm ha
    obtain ⟨k, rfl, hk'⟩ := fuel hk
    simp only [impl_limbsOf.l0]
    by_cases h0 : n = 0
    · subst h0
      rw [if_neg (by omega)]
      simp [dg_zero]
    · have e1 : Int.tdiv (n : Int) 1000000000 = ((n / 1000000000 : Nat) : Int) := rfl
      have e2 : Int.tmod (n : Int) 1000000000 = ((n % 1000000000 : Nat) : Int) := rfl
      rw [if_pos (by omega), if_pos (by omega), e1, e2, w64 (by omega) (by omega), u64 (by omega) (by omega), ih _ _ k (Nat.div_lt_of_lt_mul (by rw [Nat.pow_succ] at hn; omega)) (by omega) (by omega) (by simp; omega), dg_pos h0]
      simp
theorem limbsOf_ok (n : Nat) (k : Nat) (hk : 4 ≤ k) (h : n ≤ 18446744073709551615) : impl_limbsOf.f k (n : Int) = some (dg n) := by
  have := limbsOf_l0 3 n [] k (by omega) (by omega) h (by simp)
  simpa [impl_limbsOf.f] using this

theorem impl_NatOf_ok (n : Nat) (k : Nat) (hk : 4 ≤ k) (h : n ≤ 9223372036854775807) : impl_NatOf.f k (n : Int) = some (dg n) := by
  unfold impl_NatOf.f
  rw [if_neg (by omega), u64 (by omega) (by omega), limbsOf_ok n k hk (by omega)]; rfl
theorem FnExactNatOf : laws_FnExactNatOf.Pure := by
  intro a0 h
  have hb := wf64 h
  refine ⟨100, ?_⟩
  obtain ⟨k, hk⟩ : ∃ k, k = 100 := ⟨_, rfl⟩
  rw [← hk]
  have key : ∃ l : List Int, l.length ≤ 3 ∧ spec_NatOf.f k a0 = some l ∧ impl_NatOf.f k a0 = some l := by
    by_cases hn : a0 < 0
    · exact ⟨[], by simp, spec_NatOf_neg a0 k (by omega) (by omega), by unfold impl_NatOf.f; rw [if_pos hn]⟩
    · obtain ⟨n, rfl⟩ : ∃ n : Nat, a0 = n := ⟨a0.toNat, by omega⟩
      exact ⟨dg n, dg_length 3 n (by omega), spec_NatOf_ok n k (by omega) (by omega), impl_NatOf_ok n k (by omega) (by omega)⟩
  obtain ⟨l, hl, e1, e2⟩ := key
  have h0 : ¬ (1 + (l.length : Int) < 0) := by omega
  unfold laws_FnExactNatOf.f
  simp only [h0, e1, e2, Option.bind_some, eqIntS_same l (by omega) k (by omega), markIntS_ok l 1 k (by omega) (by omega) (by omega) (by omega), heldIntS_ok l.length 1 k (by omega) (by omega) (by omega), ↓reduceIte]

end Go.Proofs.Ytfkkoccjgembaaa.Pure
