/- The program's BigIntOf returns what the reference's returns, for every int; no condition. -/
import Derived.Test.YtfkkoccjgembaaaPFnExactBigIntOfx2
import Derived.Test.YtfkkoccjgembaaaLb
set_option linter.unusedVariables false
set_option linter.unusedSimpArgs false
namespace Go.Proofs.Ytfkkoccjgembaaa.Pure
open Go.RowKit Go.Proofs.Ytfkkoccjgembaaa.PFnExactBigIntOf Go.Proofs.YtfkkoccjgembaaaW.PrintWords Go.Proofs.YtfkkoccjgembaaaW.PrintLast Go.Proofs.Ytfkkoccjgembaaa.Lb

theorem eqIntS_l0 (l : List Int) (hl : l.length ≤ 1152921504606846976) : ∀ (d k i : Nat), i + d = l.length → d < k →
    laws_eqIntS.l0 k l l (i : Int) = some true := by
  intro d
  induction d with
  | zero =>
    intro k i h hk
    obtain ⟨k, rfl, _⟩ := fuel hk
    simp only [laws_eqIntS.l0]
    rw [if_neg (by omega)]
  | succ d ih =>
    intro k i h hk
    obtain ⟨k, rfl, hk'⟩ := fuel hk
    simp only [laws_eqIntS.l0]
    rw [if_pos (by omega), if_pos (by omega), if_pos (by omega), if_pos trivial, w64 (by omega) (by omega)]
    exact ih k (i + 1) (by omega) (by omega)
theorem eqIntS_same (l : List Int) (hl : l.length ≤ 1152921504606846976) (k : Nat) (hk : l.length < k) : laws_eqIntS.f k l l = some true := by
  unfold laws_eqIntS.f
  rw [if_pos rfl]
  exact eqIntS_l0 l hl l.length k 0 (by omega) hk

theorem markIntS_l0 : ∀ (s p : List Int) (a : Int) (k : Nat), s.length < k → p.length + s.length ≤ 1152921504606846976 → 0 ≤ a → a + s.length ≤ 1152921504606846976 →
    laws_markIntS.l0 k (p ++ s) a (p.length : Int) = some (a + s.length, p ++ mk a s.length) := by
  intro s
  induction s with
  | nil =>
    intro p a k hk _ _ _
    obtain ⟨k, rfl, _⟩ := fuel hk
    simp only [laws_markIntS.l0]
    rw [if_neg (by simp)]
    simp [mk]
  | cons x s ih =>
    intro p a k hk hl h0 h1
    obtain ⟨k, rfl, hk'⟩ := fuel hk
    simp only [List.length_cons] at hl h1 hk'
    simp only [laws_markIntS.l0]
    rw [if_pos (by rw [List.length_append, List.length_cons]; omega), if_pos (by omega), w64 (by omega) (by omega), w64 (by omega) (by omega), Int.toNat_natCast, set_mid, ← len_snoc p a,
      ih (p ++ [a]) (a + 1) k (by omega) (by rw [List.length_append]; simp; omega) (by omega) (by omega)]
    simp only [List.length_cons, mk, List.append_assoc, List.singleton_append]
    congr 2
    omega
theorem markIntS_ok (l : List Int) (a : Int) (k : Nat) (hk : l.length < k) (h0 : 0 ≤ a) (h1 : a + l.length ≤ 1152921504606846976) (hl : l.length ≤ 1152921504606846976) :
    laws_markIntS.f k l a = some (a + l.length, mk a l.length) := by
  have := markIntS_l0 l [] a k hk (by simpa using hl) h0 h1
  simpa [laws_markIntS.f] using this

theorem heldIntS_l0 : ∀ (n : Nat) (p : List Int) (a : Int) (k : Nat), n < k → p.length + n ≤ 1152921504606846976 → 0 ≤ a → a + n ≤ 1152921504606846976 →
    laws_heldIntS.l0 k (p ++ mk a n) a (p.length : Int) = some (a + n) := by
  intro n
  induction n with
  | zero =>
    intro p a k hk _ _ _
    obtain ⟨k, rfl, _⟩ := fuel hk
    have h1 : ¬ ((p.length : Int) < ((p ++ mk a 0).length : Int)) := by simp [mk]
    simp only [laws_heldIntS.l0, h1, ↓reduceIte]
    simp
  | succ n ih =>
    intro p a k hk hl h0 h1
    obtain ⟨k, rfl, hk'⟩ := fuel hk
    have e : p ++ mk a (n + 1) = (p ++ [a]) ++ mk (a + 1) n := by simp [mk]
    have h1 : (p.length : Int) < ((p ++ mk a (n + 1)).length : Int) := by rw [List.length_append, mk_length]; omega
    have h2 : rd (p ++ mk a (n + 1)) (p.length : Int) = a := rd_mid _ _ _
    have h3 : (0 : Int) ≤ (p.length : Int) := by omega
    simp only [laws_heldIntS.l0, h1, h2, h3, ↓reduceIte]
    rw [w64 (by omega) (by omega), w64 (by omega) (by omega), ← len_snoc p a, e, ih (p ++ [a]) (a + 1) k (by omega) (by rw [List.length_append]; simp; omega) (by omega) (by omega)]
    congr 1
    omega
theorem heldIntS_ok (n : Nat) (a : Int) (k : Nat) (hk : n < k) (h0 : 0 ≤ a) (h1 : a + n ≤ 1152921504606846976) :
    laws_heldIntS.f k (mk a n) a = some (a + n) := by
  have := heldIntS_l0 n [] a k hk (by simp; omega) h0 h1
  simpa [laws_heldIntS.f] using this

theorem eqBigInt_same (b : Bool) (l : List Int) (hl : l.length ≤ 1152921504606846976) (k : Nat) (hk : l.length < k) : laws_eqBigInt.f k b l b l = some true := by
  unfold laws_eqBigInt.f
  rw [if_neg (by simp), eqIntS_same l hl k hk]; rfl
theorem markBigInt_ok (b : Bool) (l : List Int) (a : Int) (k : Nat) (hk : l.length < k) (h0 : 0 ≤ a) (h1 : a + l.length ≤ 1152921504606846976) (hl : l.length ≤ 1152921504606846976) :
    laws_markBigInt.f k b l a = some (a + l.length, mk a l.length) := by
  unfold laws_markBigInt.f
  rw [markIntS_ok l a k hk h0 h1 hl]; rfl
theorem heldBigInt_ok (b : Bool) (n : Nat) (a : Int) (k : Nat) (hk : n < k) (h0 : 0 ≤ a) (h1 : a + n ≤ 1152921504606846976) :
    laws_heldBigInt.f k b (mk a n) a = some (a + n) := by
  unfold laws_heldBigInt.f
  rw [heldIntS_ok n a k hk h0 h1]
  simp only [Option.bind_some]
  rw [if_neg (by omega)]

theorem spec_NatOf_l0 : ∀ (m n : Nat) (acc : List Int) (k : Nat), n < 1000000000 ^ m → m < k → n ≤ 9223372036854775807 → acc.length + m ≤ 1000 →
    spec_NatOf.l0 k (n : Int) acc = some (acc ++ dg n) := by
  intro m
  induction m with
  | zero =>
    intro n acc k hn hk _ _
    obtain ⟨k, rfl, _⟩ := fuel hk
    have : n = 0 := by simpa using hn
    subst this
    simp only [spec_NatOf.l0]
    rw [if_neg (by omega)]
    simp [dg_zero]
  | succ m ih =>
    intro n acc k hn hk hm ha
    obtain ⟨k, rfl, hk'⟩ := fuel hk
    simp only [spec_NatOf.l0]
    by_cases h0 : n = 0
    · subst h0
      rw [if_neg (by omega)]
      simp [dg_zero]
    · have e1 : Int.tdiv (n : Int) 1000000000 = ((n / 1000000000 : Nat) : Int) := rfl
      have e2 : Int.tmod (n : Int) 1000000000 = ((n % 1000000000 : Nat) : Int) := rfl
      rw [if_pos (by omega), if_pos (by omega), e1, e2, w64 (by omega) (by omega), ih _ _ k (Nat.div_lt_of_lt_mul (by rw [Nat.pow_succ] at hn; omega)) (by omega) (by omega) (by simp; omega), dg_pos h0]
      simp
theorem spec_NatOf_ok (n : Nat) (k : Nat) (hk : 4 ≤ k) (h : n ≤ 9223372036854775807) : spec_NatOf.f k (n : Int) = some (dg n) := by
  have := spec_NatOf_l0 3 n [] k (by omega) (by omega) h (by simp)
  simpa [spec_NatOf.f] using this
theorem spec_NatOf_neg (n : Int) (k : Nat) (hk : 4 ≤ k) (h : n ≤ 0) : spec_NatOf.f k n = some [] := by
  obtain ⟨k, rfl, _⟩ := fuel hk
  simp only [spec_NatOf.f, spec_NatOf.l0]
  rw [if_neg (by omega)]

theorem limbsOf_l0 : ∀ (m n : Nat) (acc : List Int) (k : Nat), n < 1000000000 ^ m → m < k → n ≤ 18446744073709551615 → acc.length + m ≤ 1000 →
    impl_limbsOf.l0 k (n : Int) acc = some (acc ++ dg n) := by
  intro m
  induction m with
  | zero =>
    intro n acc k hn hk _ _
    obtain ⟨k, rfl, _⟩ := fuel hk
    have : n = 0 := by simpa using hn
    subst this
    simp only [impl_limbsOf.l0]
    rw [if_neg (by omega)]
    simp [dg_zero]
  | succ m ih =>
    intro n acc k hn hk hm ha
    obtain ⟨k, rfl, hk'⟩ := fuel hk
    simp only [impl_limbsOf.l0]
    by_cases h0 : n = 0
    · subst h0
      rw [if_neg (by omega)]
      simp [dg_zero]
    · have e1 : Int.tdiv (n : Int) 1000000000 = ((n / 1000000000 : Nat) : Int) := rfl
      have e2 : Int.tmod (n : Int) 1000000000 = ((n % 1000000000 : Nat) : Int) := rfl
      rw [if_pos (by omega), if_pos (by omega), e1, e2, w64 (by omega) (by omega), u64 (by omega) (by omega), ih _ _ k (Nat.div_lt_of_lt_mul (by rw [Nat.pow_succ] at hn; omega)) (by omega) (by omega) (by simp; omega), dg_pos h0]
      simp
theorem limbsOf_ok (n : Nat) (k : Nat) (hk : 4 ≤ k) (h : n ≤ 18446744073709551615) : impl_limbsOf.f k (n : Int) = some (dg n) := by
  have := limbsOf_l0 3 n [] k (by omega) (by omega) h (by simp)
  simpa [impl_limbsOf.f] using this

theorem spec_l02Trim_l0 (l : List Int) (hl : l.length ≤ 1152921504606846976) : ∀ (i k : Nat), i ≤ l.length → i < k → spec_l02Trim.l0 k l (i : Int) = some (trimTo l i) := by
  intro i
  induction i with
  | zero =>
    intro k _ hk
    obtain ⟨k, rfl, _⟩ := fuel hk
    simp only [spec_l02Trim.l0, trimTo]
    rw [if_neg (by omega), if_pos (by omega), if_pos (by omega)]
    simp
  | succ i ih =>
    intro k hi hk
    obtain ⟨k, rfl, hk'⟩ := fuel hk
    simp only [spec_l02Trim.l0, trimTo]
    have e : ((i + 1 : Nat) : Int) - 1 = (i : Int) := by omega
    rw [if_pos (by omega), e, w64 (by omega) (by omega), if_pos (by omega), if_pos (by omega)]
    by_cases h0 : rd l (i : Int) = 0
    · rw [if_pos h0, if_pos h0]
      exact ih k (by omega) (by omega)
    · rw [if_neg h0, if_neg h0, if_pos (by omega), if_pos (by omega)]
      rfl
theorem spec_l02Trim_ok (l : List Int) (hl : l.length ≤ 1152921504606846976) (k : Nat) (hk : l.length < k) : spec_l02Trim.f k l = some (trim l) :=
  spec_l02Trim_l0 l hl l.length k (Nat.le_refl _) hk

theorem spec_l02Cap_ok (l : List Int) (hl : l.length ≤ 1152921504606846976) (k : Nat) (hk : l.length < k) : spec_l02Cap.f k l = some (if (trim l).length > 60 then [] else trim l) := by
  unfold spec_l02Cap.f
  rw [spec_l02Trim_ok l hl k hk]
  simp only [Option.bind_some]
  by_cases h : (trim l).length > 60
  · rw [if_pos (by omega), if_pos h]
  · rw [if_neg (by omega), if_neg h]

theorem spec_l03Make_ok (b : Bool) (l : List Int) (hl : l.length ≤ 1152921504606846976) (k : Nat) (hk : l.length < k) :
    spec_l03Make.f k b l = some (b && decide (0 < (capped l).length), capped l) := by
  unfold spec_l03Make.f
  rw [spec_l02Cap_ok l hl k hk]
  have hc : (if (trim l).length > 60 then [] else trim l) = capped l := rfl
  have hle := capped_le l
  rw [hc]
  simp only [Option.bind_some, List.nil_append, List.length_nil]
  cases b
  · rw [if_neg (by simp), if_pos (by omega)]; rfl
  · rw [if_pos rfl, if_pos (by omega)]
    simp

theorem impl_signed_ok (b : Bool) (l : List Int) : impl_signed.f b l = some (b && decide (0 < l.length), l) := by
  unfold impl_signed.f
  cases b <;> simp
theorem capped_dg (n : Nat) (h : n < 1000000000 ^ 3) : capped (dg n) = dg n := by
  have := dg_length 3 n h
  unfold capped
  rw [trim_dg, if_neg (by omega)]
theorem key (a0 : Int) (k : Nat) (hk : 10 ≤ k) (hb : -9223372036854775808 ≤ a0 ∧ a0 ≤ 9223372036854775807) :
    ∃ b l, l.length ≤ 3 ∧ spec_BigIntOf.f k a0 = some (b, l) ∧ impl_BigIntOf.f k a0 = some (b, l) := by
  refine ⟨decide (a0 < 0), dg a0.natAbs, dg_length 3 _ (by omega), ?_, ?_⟩
  · unfold spec_BigIntOf.f
    have hl := dg_length 3 a0.natAbs (by omega)
    by_cases h1 : a0 = -9223372036854775808
    · subst h1
      have e : ([854775808, 223372036, 9] : List Int) = dg (9223372036854775808 : Nat) := by
        rw [dg_pos (by omega), dg_pos (by omega), dg_pos (by omega), show (9223372036854775808 / 1000000000 / 1000000000 / 1000000000 : Nat) = 0 from rfl, dg_zero]; rfl
      rw [if_pos rfl, e, spec_l03Make_ok _ _ (by have := dg_length 3 9223372036854775808 (by omega); omega) k (by have := dg_length 3 9223372036854775808 (by omega); omega), capped_dg _ (by omega)]
      simp only [Option.bind_some]
      rw [← e, show (-9223372036854775808 : Int).natAbs = 9223372036854775808 from rfl, ← e]; rfl
    · rw [if_neg h1]
      by_cases h2 : a0 < 0
      · have e : -a0 = (a0.natAbs : Int) := by omega
        rw [if_pos h2, w64 (by omega) (by omega), e, spec_NatOf_ok _ k (by omega) (by omega)]
        simp only [Option.bind_some]
        rw [spec_l03Make_ok _ _ (by omega) k (by omega), capped_dg _ (by omega)]
        simp only [Option.bind_some]
        have h0 : 0 < (dg a0.natAbs).length := len_pos fun h => by have := dg_nil h; omega
        simp [h0, h2]
      · have e : a0 = (a0.natAbs : Int) := by omega
        rw [if_neg h2]
        conv => lhs; rw [e]
        rw [spec_NatOf_ok _ k (by omega) (by omega)]
        simp only [Option.bind_some]
        rw [spec_l03Make_ok _ _ (by omega) k (by omega), capped_dg _ (by omega)]
        simp [h2]
  · unfold impl_BigIntOf.f impl_integer.f
    have hl := dg_length 3 a0.natAbs (by omega)
    by_cases h2 : a0 < 0
    · have e : -(a0 + 1) + 1 = (a0.natAbs : Int) := by omega
      rw [if_pos h2, w64 (i := a0 + 1) (by omega) (by omega), w64 (by omega) (by omega), u64 (i := -(a0 + 1)) (by omega) (by omega), u64 (by omega) (by omega), e, limbsOf_ok _ k (by omega) (by omega)]
      simp only [Option.bind_some, impl_signed_ok]
      have h0 : 0 < (dg a0.natAbs).length := len_pos fun h => by have := dg_nil h; omega
      simp [h0, h2]
    · have e : a0 = (a0.natAbs : Int) := by omega
      rw [if_neg h2, u64 (by omega) (by omega)]
      conv => lhs; rw [e]
      rw [limbsOf_ok _ k (by omega) (by omega)]
      simp only [Option.bind_some, impl_signed_ok]
      simp [h2]
theorem FnExactBigIntOf : laws_FnExactBigIntOf.Pure := by
  intro a0 h
  have hb := wf64 h
  refine ⟨100, ?_⟩
  obtain ⟨k, hk⟩ : ∃ k, k = 100 := ⟨_, rfl⟩
  rw [← hk]
  obtain ⟨b, l, hl, e1, e2⟩ := key a0 k (by omega) hb
  have h0 : ¬ (1 + (l.length : Int) < 0) := by omega
  unfold laws_FnExactBigIntOf.f
  simp only [h0, e1, e2, Option.bind_some, eqBigInt_same b l (by omega) k (by omega), markBigInt_ok b l 1 k (by omega) (by omega) (by omega) (by omega), heldBigInt_ok b l.length 1 k (by omega) (by omega) (by omega), ↓reduceIte]

end Go.Proofs.Ytfkkoccjgembaaa.Pure
