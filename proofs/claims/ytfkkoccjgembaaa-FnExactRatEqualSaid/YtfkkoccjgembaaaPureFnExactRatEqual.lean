/- The program's RatEqual returns what the reference's returns, for every two Rats; no condition. -/
import Derived.Test.YtfkkoccjgembaaaPFnExactRatEqualx3
import Derived.Test.YtfkkoccjgembaaaLb
set_option linter.unusedVariables false
set_option linter.unusedSimpArgs false
namespace Go.Proofs.Ytfkkoccjgembaaa.Pure
open Go.RowKit Go.Proofs.Ytfkkoccjgembaaa.PFnExactRatEqual Go.Proofs.YtfkkoccjgembaaaW.PrintWords Go.Proofs.YtfkkoccjgembaaaW.PrintLast Go.Proofs.Ytfkkoccjgembaaa.Lb

theorem szIntS_ok (l : List Int) (a : Int) (h0 : 0 ≤ a) (h1 : a ≤ 1048576) (hl : l.length ≤ maxLen) : laws_szIntS.f l a = some (if a - l.length < 0 then -1 else a - l.length) := by
  unfold laws_szIntS.f
  simp only [maxLen] at hl
  rw [w64 (by omega) (by omega)]
  by_cases h : a - (l.length : Int) < 0
  · simp only [h, ↓reduceIte]
  · simp only [h, ↓reduceIte]
theorem szBigInt_ok (b : Bool) (l : List Int) (a : Int) (h0 : 0 ≤ a) (h1 : a ≤ 1048576) (hl : l.length ≤ maxLen) : laws_szBigInt.f b l a = some (if a - l.length < 0 then -1 else a - l.length) := by
  unfold laws_szBigInt.f
  rw [szIntS_ok l a h0 h1 hl]
  simp only [Option.bind_some]
  by_cases h : a - (l.length : Int) < 0
  · simp [h]
  · simp only [h, ↓reduceIte]

theorem szRat_ok (b : Bool) (l m : List Int) (a : Int) (h0 : 0 ≤ a) (h1 : a ≤ 1048576) (hl : l.length ≤ maxLen) (hm : m.length ≤ maxLen) :
    laws_szRat.f b l m a = some (if a - l.length - m.length < 0 then -1 else a - l.length - m.length) := by
  unfold laws_szRat.f
  rw [szBigInt_ok b l a h0 h1 hl]
  simp only [Option.bind_some]
  by_cases h : a - (l.length : Int) < 0
  · have h' : a - (l.length : Int) - (m.length : Int) < 0 := by omega
    simp [h, h']
  · simp only [h, ↓reduceIte]
    rw [szIntS_ok m _ (by omega) (by omega) hm]
    simp only [Option.bind_some]
    by_cases h' : a - (l.length : Int) - (m.length : Int) < 0
    · simp [h']
    · simp only [h', ↓reduceIte]

theorem toIntS_l0 (l : List Int) (hl : l.length ≤ 1099511627776) : ∀ (d k i : Nat), i + d = l.length → d < k →
    laws_toIntS.l0 k l (l.take i ++ List.replicate d 0) (i : Int) = some l := by
  intro d
  induction d with
  | zero =>
    intro k i h hk
    obtain ⟨k, rfl, _⟩ := fuel hk
    simp only [laws_toIntS.l0]
    rw [if_neg (by omega)]
    simp [List.take_of_length_le (show l.length ≤ i by omega)]
  | succ d ih =>
    intro k i h hk
    obtain ⟨k, rfl, hk'⟩ := fuel hk
    simp only [laws_toIntS.l0]
    rw [if_pos (by omega), if_pos (by omega), if_pos (by rw [List.length_append, List.length_take, List.length_replicate]; omega)]
    rw [w64 (by omega) (by omega), Int.toNat_natCast, copy_step l i d h]
    exact ih k (i + 1) (by omega) (by omega)
theorem toIntS_ok (l : List Int) (hl : l.length ≤ 1099511627776) (k : Nat) (hk : l.length < k) : laws_toIntS.f k l = some l := by
  unfold laws_toIntS.f
  rw [if_pos (by omega), if_pos (by omega)]
  have := toIntS_l0 l hl l.length k 0 (by omega) hk
  simpa using this

theorem toBigInt_ok (b : Bool) (l : List Int) (hl : l.length ≤ 1048576) (k : Nat) (hk : l.length < k) : laws_toBigInt.f k b l = some (b, l) := by
  unfold laws_toBigInt.f
  simp [toIntS_ok l (by omega) k hk]

theorem toRat_ok (b : Bool) (l m : List Int) (hl : l.length ≤ 1048576) (hm : m.length ≤ 1048576) (k : Nat) (hk : l.length < k) (hk2 : m.length < k) : laws_toRat.f k b l m = some (b, l, m) := by
  unfold laws_toRat.f
  simp [toBigInt_ok b l hl k hk, toIntS_ok m (by omega) k hk2]

theorem eqIntS_l0 (l : List Int) (hl : l.length ≤ 1152921504606846976) : ∀ (d k i : Nat), i + d = l.length → d < k →
    laws_eqIntS.l0 k l l (i : Int) = some true := by
  intro d
  induction d with
  | zero =>
    intro k i h hk
    obtain ⟨k, rfl, _⟩ := fuel hk
    simp only [laws_eqIntS.l0]
    rw [if_neg (by omega)]
  | succ d ih =>
    intro k i h hk
    obtain ⟨k, rfl, hk'⟩ := fuel hk
    simp only [laws_eqIntS.l0]
    rw [if_pos (by omega), if_pos (by omega), if_pos (by omega), if_pos trivial, w64 (by omega) (by omega)]
    exact ih k (i + 1) (by omega) (by omega)
theorem eqIntS_same (l : List Int) (hl : l.length ≤ 1152921504606846976) (k : Nat) (hk : l.length < k) : laws_eqIntS.f k l l = some true := by
  unfold laws_eqIntS.f
  rw [if_pos rfl]
  exact eqIntS_l0 l hl l.length k 0 (by omega) hk

theorem eqBigInt_same (b : Bool) (l : List Int) (hl : l.length ≤ 1152921504606846976) (k : Nat) (hk : l.length < k) : laws_eqBigInt.f k b l b l = some true := by
  unfold laws_eqBigInt.f
  rw [if_neg (by simp), eqIntS_same l hl k hk]; rfl

theorem eqRat_same (b : Bool) (l m : List Int) (hl : l.length ≤ 1152921504606846976) (hm : m.length ≤ 1152921504606846976) (k : Nat) (hk : l.length < k) (hk2 : m.length < k) : laws_eqRat.f k b l m b l m = some true := by
  unfold laws_eqRat.f
  simp [eqBigInt_same b l hl k hk, eqIntS_same m hm k hk2]

theorem slices_Equal_int_int_l0 (a b : List Int) (hl : a.length = b.length) (hb : a.length ≤ 1152921504606846976) : ∀ (d k i : Nat), i + d = a.length → d < k → slices_Equal_int_int.l0 k a b (a.length : Int) (i : Int) = some (eqD a b d) := by
  intro d
  induction d with
  | zero =>
    intro k i h hk
    obtain ⟨k, rfl, _⟩ := fuel hk
    have h1 : ¬ ((i : Int) < (a.length : Int)) := by omega
    simp only [slices_Equal_int_int.l0, h1, ↓reduceIte, eqD]
  | succ d ih =>
    intro k i h hk
    obtain ⟨k, rfl, hk'⟩ := fuel hk
    have h1 : (i : Int) < (a.length : Int) := by omega
    have h2 : (0 : Int) ≤ (i : Int) := by omega
    have h4 : (i : Int) < (b.length : Int) := by omega
    have w : wrap64 ((i : Int) + 1) = ((i + 1 : Nat) : Int) := by rw [w64 (by omega) (by omega)]; omega
    have e : a.length - (d + 1) = i := by omega
    simp only [slices_Equal_int_int.l0, h1, h2, h4, w, ↓reduceIte, eqD, e, ih k (i + 1) (by omega) (by omega)]
    by_cases c : rd a (i : Int) = rd b (i : Int)
    · simp only [c, ↓reduceIte]
    · simp only [c, ↓reduceIte]
theorem slices_Equal_int_int_ok (a b : List Int) (hb : a.length ≤ 1152921504606846976) (k : Nat) (hk : a.length < k) : slices_Equal_int_int.f k a b = some (eqL a b) := by
  unfold slices_Equal_int_int.f eqL
  by_cases c1 : a.length = b.length
  · have c1' : (a.length : Int) = (b.length : Int) := by omega
    simp only [c1, c1', ↓reduceIte]
    rw [← c1', ← c1]
    exact slices_Equal_int_int_l0 a b c1 hb a.length k 0 (by omega) hk
  · have c1' : ¬ (a.length : Int) = (b.length : Int) := by omega
    simp only [c1, c1', ↓reduceIte]

theorem spec_l04List_l0 (a b : List Int) (hl : a.length = b.length) (hb : a.length ≤ 1152921504606846976) : ∀ (d k i : Nat), i + d = a.length → d < k → spec_l04List.l0 k a b (a.length : Int) (i : Int) = some (eqD a b d) := by
  intro d
  induction d with
  | zero =>
    intro k i h hk
    obtain ⟨k, rfl, _⟩ := fuel hk
    have h1 : ¬ ((i : Int) < (a.length : Int)) := by omega
    simp only [spec_l04List.l0, h1, ↓reduceIte, eqD]
  | succ d ih =>
    intro k i h hk
    obtain ⟨k, rfl, hk'⟩ := fuel hk
    have h1 : (i : Int) < (a.length : Int) := by omega
    have h2 : (0 : Int) ≤ (i : Int) := by omega
    have h4 : (i : Int) < (b.length : Int) := by omega
    have w : wrap64 ((i : Int) + 1) = ((i + 1 : Nat) : Int) := by rw [w64 (by omega) (by omega)]; omega
    have e : a.length - (d + 1) = i := by omega
    simp only [spec_l04List.l0, h1, h2, h4, w, ↓reduceIte, eqD, e, ih k (i + 1) (by omega) (by omega)]
    by_cases c : rd a (i : Int) = rd b (i : Int)
    · simp only [c, ↓reduceIte]
    · simp only [c, ↓reduceIte]
theorem spec_l04List_ok (a b : List Int) (hb : a.length ≤ 1152921504606846976) (k : Nat) (hk : a.length < k) : spec_l04List.f k a b = some (eqL a b) := by
  unfold spec_l04List.f eqL
  by_cases c1 : a.length = b.length
  · have c1' : (a.length : Int) = (b.length : Int) := by omega
    simp only [c1, c1', ↓reduceIte]
    rw [← c1', ← c1]
    exact spec_l04List_l0 a b c1 hb a.length k 0 (by omega) hk
  · have c1' : ¬ (a.length : Int) = (b.length : Int) := by omega
    simp only [c1, c1', ↓reduceIte]

theorem FnExactRatEqual : laws_FnExactRatEqual.Pure := by
  intro x y ⟨⟨_, _, hx1⟩, _, hx2⟩ ⟨⟨_, _, hy1⟩, _, hy2⟩
  refine ⟨1048577, ?_⟩
  obtain ⟨k, hk⟩ : ∃ k, k = 1048577 := ⟨_, rfl⟩
  rw [← hk]
  unfold laws_FnExactRatEqual.f
  rw [szRat_ok x.f0.f0 x.f0.f1 x.f1 1048576 (by omega) (by omega) hx1 hx2]
  simp only [Option.bind_some]
  by_cases h : (1048576 : Int) - (x.f0.f1.length : Int) - (x.f1.length : Int) < 0
  · simp [h]
  · simp only [h, ↓reduceIte]
    rw [szRat_ok y.f0.f0 y.f0.f1 y.f1 _ (by omega) (by omega) hy1 hy2]
    simp only [Option.bind_some]
    by_cases h2 : (1048576 : Int) - (x.f0.f1.length : Int) - (x.f1.length : Int) - (y.f0.f1.length : Int) - (y.f1.length : Int) < 0
    · simp [h2]
    · have key : ∃ r, spec_RatEqual.f k x.f0.f0 x.f0.f1 x.f1 y.f0.f0 y.f0.f1 y.f1 = some r ∧ impl_RatEqual.f k x.f0.f0 x.f0.f1 x.f1 y.f0.f0 y.f0.f1 y.f1 = some r := by
        unfold spec_RatEqual.f impl_RatEqual.f
        simp only [spec_l04List_ok x.f0.f1 y.f0.f1 (by omega) k (by omega), spec_l04List_ok x.f1 y.f1 (by omega) k (by omega), slices_Equal_int_int_ok x.f0.f1 y.f0.f1 (by omega) k (by omega), slices_Equal_int_int_ok x.f1 y.f1 (by omega) k (by omega), Option.bind_some]
        cases (x.f0.f0 == y.f0.f0)
        · exact ⟨false, by simp, by simp⟩
        · cases eqL x.f0.f1 y.f0.f1
          · exact ⟨false, by simp, by simp⟩
          · exact ⟨eqL x.f1 y.f1, by simp, by simp⟩
      obtain ⟨r, e1, e2⟩ := key
      simp only [h2, ↓reduceIte, toRat_ok x.f0.f0 x.f0.f1 x.f1 (by omega) (by omega) k (by omega) (by omega), toRat_ok y.f0.f0 y.f0.f1 y.f1 (by omega) (by omega) k (by omega) (by omega), e1, e2, eqRat_same x.f0.f0 x.f0.f1 x.f1 (by omega) (by omega) k (by omega) (by omega), eqRat_same y.f0.f0 y.f0.f1 y.f1 (by omega) (by omega) k (by omega) (by omega), Option.bind_some, bne_self_eq_false, Bool.false_eq_true]

end Go.Proofs.Ytfkkoccjgembaaa.Pure
