/- The program's NatSub returns what the reference's returns, for every two slices of ints; no condition. -/
import Derived.Test.YtmnahdoomnbdoaaPFnExactNatSubx4
import Derived.Test.YtmnahdoomnbdoaaLb
import Derived.Test.YtmnahdoomnbdoaaNu
set_option linter.unusedVariables false
set_option linter.unusedSimpArgs false
namespace Go.Proofs.Ytmnahdoomnbdoaa.Pure
open Go.RowKit Go.Proofs.Ytmnahdoomnbdoaa.PFnExactNatSub Go.Proofs.YtmnahdoomnbdoaaW.PrintWords Go.Proofs.YtmnahdoomnbdoaaW.PrintLast Go.Proofs.Ytmnahdoomnbdoaa.Lb

theorem toIntS_l0 (l : List Int) (hl : l.length ≤ 1099511627776) : ∀ (d k i : Nat), i + d = l.length → d < k →
    laws_toIntS.l0 k l (l.take i ++ List.replicate d 0) (i : Int) = some l := by
  intro d
  induction d with
  | zero =>
    intro k i h hk
    obtain ⟨k, rfl, _⟩ := fuel hk
    simp only [laws_toIntS.l0]
    rw [if_neg (by omega)]
    simp [List.take_of_length_le (show l.length ≤ i by omega)]
  | succ d ih =>
    intro k i h hk
    obtain ⟨k, rfl, hk'⟩ := fuel hk
    simp only [laws_toIntS.l0]
    rw [if_pos (by omega), if_pos (by omega), if_pos (by rw [List.length_append, List.length_take, List.length_replicate]; omega)]
    rw [w64 (by omega) (by omega), Int.toNat_natCast, copy_step l i d h]
    exact ih k (i + 1) (by omega) (by omega)
theorem toIntS_ok (l : List Int) (hl : l.length ≤ 1099511627776) (k : Nat) (hk : l.length < k) : laws_toIntS.f k l = some l := by
  unfold laws_toIntS.f
  rw [if_pos (by omega), if_pos (by omega)]
  have := toIntS_l0 l hl l.length k 0 (by omega) hk
  simpa using this

theorem eqIntS_l0 (l : List Int) (hl : l.length ≤ 1152921504606846976) : ∀ (d k i : Nat), i + d = l.length → d < k →
    laws_eqIntS.l0 k l l (i : Int) = some true := by
  intro d
  induction d with
  | zero =>
    intro k i h hk
    obtain ⟨k, rfl, _⟩ := fuel hk
    simp only [laws_eqIntS.l0]
    rw [if_neg (by omega)]
  | succ d ih =>
    intro k i h hk
    obtain ⟨k, rfl, hk'⟩ := fuel hk
    simp only [laws_eqIntS.l0]
    rw [if_pos (by omega), if_pos (by omega), if_pos (by omega), if_pos trivial, w64 (by omega) (by omega)]
    exact ih k (i + 1) (by omega) (by omega)
theorem eqIntS_same (l : List Int) (hl : l.length ≤ 1152921504606846976) (k : Nat) (hk : l.length < k) : laws_eqIntS.f k l l = some true := by
  unfold laws_eqIntS.f
  rw [if_pos rfl]
  exact eqIntS_l0 l hl l.length k 0 (by omega) hk

theorem markIntS_l0 : ∀ (s p : List Int) (a : Int) (k : Nat), s.length < k → p.length + s.length ≤ 1152921504606846976 → 0 ≤ a → a + s.length ≤ 1152921504606846976 →
    laws_markIntS.l0 k (p ++ s) a (p.length : Int) = some (a + s.length, p ++ mk a s.length) := by
  intro s
  induction s with
  | nil =>
    intro p a k hk _ _ _
    obtain ⟨k, rfl, _⟩ := fuel hk
    simp only [laws_markIntS.l0]
    rw [if_neg (by simp)]
    simp [mk]
  | cons x s ih =>
    intro p a k hk hl h0 h1
    obtain ⟨k, rfl, hk'⟩ := fuel hk
    simp only [List.length_cons] at hl h1 hk'
    simp only [laws_markIntS.l0]
    rw [if_pos (by rw [List.length_append, List.length_cons]; omega), if_pos (by omega), w64 (by omega) (by omega), w64 (by omega) (by omega), Int.toNat_natCast, set_mid, ← len_snoc p a,
      ih (p ++ [a]) (a + 1) k (by omega) (by rw [List.length_append]; simp; omega) (by omega) (by omega)]
    simp only [List.length_cons, mk, List.append_assoc, List.singleton_append]
    congr 2
    omega
theorem markIntS_ok (l : List Int) (a : Int) (k : Nat) (hk : l.length < k) (h0 : 0 ≤ a) (h1 : a + l.length ≤ 1152921504606846976) (hl : l.length ≤ 1152921504606846976) :
    laws_markIntS.f k l a = some (a + l.length, mk a l.length) := by
  have := markIntS_l0 l [] a k hk (by simpa using hl) h0 h1
  simpa [laws_markIntS.f] using this

theorem heldIntS_l0 : ∀ (n : Nat) (p : List Int) (a : Int) (k : Nat), n < k → p.length + n ≤ 1152921504606846976 → 0 ≤ a → a + n ≤ 1152921504606846976 →
    laws_heldIntS.l0 k (p ++ mk a n) a (p.length : Int) = some (a + n) := by
  intro n
  induction n with
  | zero =>
    intro p a k hk _ _ _
    obtain ⟨k, rfl, _⟩ := fuel hk
    have h1 : ¬ ((p.length : Int) < ((p ++ mk a 0).length : Int)) := by simp [mk]
    simp only [laws_heldIntS.l0, h1, ↓reduceIte]
    simp
  | succ n ih =>
    intro p a k hk hl h0 h1
    obtain ⟨k, rfl, hk'⟩ := fuel hk
    have e : p ++ mk a (n + 1) = (p ++ [a]) ++ mk (a + 1) n := by simp [mk]
    have h1 : (p.length : Int) < ((p ++ mk a (n + 1)).length : Int) := by rw [List.length_append, mk_length]; omega
    have h2 : rd (p ++ mk a (n + 1)) (p.length : Int) = a := rd_mid _ _ _
    have h3 : (0 : Int) ≤ (p.length : Int) := by omega
    simp only [laws_heldIntS.l0, h1, h2, h3, ↓reduceIte]
    rw [w64 (by omega) (by omega), w64 (by omega) (by omega), ← len_snoc p a, e, ih (p ++ [a]) (a + 1) k (by omega) (by rw [List.length_append]; simp; omega) (by omega) (by omega)]
    congr 1
    omega
theorem heldIntS_ok (n : Nat) (a : Int) (k : Nat) (hk : n < k) (h0 : 0 ≤ a) (h1 : a + n ≤ 1152921504606846976) :
    laws_heldIntS.f k (mk a n) a = some (a + n) := by
  have := heldIntS_l0 n [] a k hk (by simp; omega) h0 h1
  simpa [laws_heldIntS.f] using this

theorem spec_in_ok (x : Int) : spec_l01In.f x 0 999999999 = some (inB x) := by
  unfold spec_l01In.f inB
  by_cases h : x ≥ 0
  · rw [if_pos h, decide_eq_true h, Bool.true_and]
  · rw [if_neg h, decide_eq_false h, Bool.false_and]
theorem spec_NatOk_l0 (l : List Int) (hl : l.length ≤ 1152921504606846976) : ∀ (d k i : Nat), i + d = l.length → d < k →
    spec_NatOk.l0 k l l (l.length : Int) (i : Int) = some ((l.drop i).all inB && (decide (l.length ≤ 60) && (l.isEmpty || !decide (rd l ((l.length : Int) - 1) = 0)))) := by
  intro d
  induction d with
  | zero =>
    intro k i h hk
    obtain ⟨k, rfl, _⟩ := fuel hk
    have h1 : ¬ ((i : Int) < (l.length : Int)) := by omega
    simp only [spec_NatOk.l0, h1, ↓reduceIte]
    rw [List.drop_of_length_le (by omega)]
    by_cases h2 : (l.length : Int) ≤ 60
    · have h2' : l.length ≤ 60 := by omega
      by_cases h3 : (l.length : Int) = 0
      · have : l = [] := List.length_eq_zero_iff.mp (by omega)
        subst this
        simp
      · have h4 : (0 : Int) ≤ wrap64 ((l.length : Int) - 1) := by rw [w64 (by omega) (by omega)]; omega
        have h5 : wrap64 ((l.length : Int) - 1) < (l.length : Int) := by rw [w64 (by omega) (by omega)]; omega
        have h6 : l.isEmpty = false := by cases l with | nil => simp at h3 | cons _ _ => rfl
        simp only [h2, h3, h4, h5, h6, ↓reduceIte, h2', decide_true, List.all_nil, Bool.true_and, Bool.false_or]
        rw [w64 (by omega) (by omega)]
        congr 1
    · have h2' : ¬ l.length ≤ 60 := by omega
      simp [h2, h2']
  | succ d ih =>
    intro k i h hk
    obtain ⟨k, rfl, hk'⟩ := fuel hk
    have h1 : (i : Int) < (l.length : Int) := by omega
    have h2 : (0 : Int) ≤ (i : Int) := by omega
    have w : wrap64 ((i : Int) + 1) = ((i + 1 : Nat) : Int) := by rw [w64 (by omega) (by omega)]; omega
    have e : l.drop i = rd l i :: l.drop (i + 1) := drop_rd l i (by omega)
    simp only [spec_NatOk.l0, h1, h2, ↓reduceIte, spec_in_ok, Option.bind_some, w, ih k (i + 1) (by omega) (by omega), e, List.all_cons]
    cases inB (rd l (i : Int)) <;> simp
theorem spec_NatOk_ok (l : List Int) (hl : l.length ≤ 1152921504606846976) (k : Nat) (hk : l.length < k) : spec_NatOk.f k l = some (nok l) := by
  have := spec_NatOk_l0 l hl l.length k 0 (by omega) hk
  unfold spec_NatOk.f
  refine this.trans ?_
  rw [List.drop_zero, Bool.and_comm]; rfl

theorem impl_NatOk_ok (l : List Int) : impl_NatOk.f l = some (nok l) := by
  unfold impl_NatOk.f Ext.natOkB nok
  congr 2
  rw [Bool.eq_iff_iff]
  simp only [Bool.not_eq_true', List.any_eq_false, List.all_eq_true, Ext.badB, inB, Bool.or_eq_true, Bool.and_eq_true, decide_eq_true_iff]
  constructor
  · intro h x hx
    have := h x hx
    omega
  · intro h x hx
    have := h x hx
    omega

theorem impl_compare_l0 (a b : List Int) (hl : a.length = b.length) (hb : a.length ≤ 1152921504606846976) : ∀ (i k : Nat), i ≤ a.length → i < k → impl_compare.l0 k a b ((i : Int) - 1) = some (cmpI a b i) := by
  intro i
  induction i with
  | zero =>
    intro k _ hk
    obtain ⟨k, rfl, _⟩ := fuel hk
    have h1 : ¬ (((0 : Nat) : Int) - 1 ≥ 0) := by omega
    simp only [impl_compare.l0, h1, ↓reduceIte, cmpI]
  | succ i ih =>
    intro k hi hk
    obtain ⟨k, rfl, hk'⟩ := fuel hk
    have e : ((i + 1 : Nat) : Int) - 1 = (i : Int) := by omega
    have h1 : (i : Int) ≥ 0 := by omega
    have h2 : (0 : Int) ≤ (i : Int) := by omega
    have h3 : (i : Int) < (a.length : Int) := by omega
    have h4 : (i : Int) < (b.length : Int) := by omega
    have w : wrap64 ((i : Int) - 1) = (i : Int) - 1 := w64 (by omega) (by omega)
    rw [e]
    simp only [impl_compare.l0, h1, h2, h3, h4, w, ↓reduceIte, cmpI, ih k (by omega) (by omega)]
    by_cases c1 : rd a (i : Int) < rd b (i : Int)
    · simp only [c1, ↓reduceIte]
    · by_cases c2 : rd a (i : Int) > rd b (i : Int)
      · simp only [c1, c2, ↓reduceIte]
      · simp only [c1, c2, ↓reduceIte]
theorem impl_compare_ok (a b : List Int) (hb : a.length ≤ 1152921504606846976) (k : Nat) (hk : a.length < k) : impl_compare.f k a b = some (cmpL a b) := by
  unfold impl_compare.f cmpL
  by_cases c1 : a.length = b.length
  · have c1' : (a.length : Int) = (b.length : Int) := by omega
    simp only [c1, c1', ↓reduceIte]
    rw [w64 (by omega) (by omega), ← c1', impl_compare_l0 a b c1 hb a.length k (Nat.le_refl _) hk, c1]
  · have c1' : ¬ (a.length : Int) = (b.length : Int) := by omega
    simp only [c1, c1', ↓reduceIte]
    by_cases c2 : a.length < b.length
    · have c2' : (a.length : Int) < (b.length : Int) := by omega
      simp only [c2, c2', ↓reduceIte]
    · have c2' : ¬ (a.length : Int) < (b.length : Int) := by omega
      simp only [c2, c2', ↓reduceIte]

theorem spec_l02Cmp_l0 (a b : List Int) (hl : a.length = b.length) (hb : a.length ≤ 1152921504606846976) : ∀ (i k : Nat), i ≤ a.length → i < k → spec_l02Cmp.l0 k a b ((i : Int) - 1) = some (cmpI a b i) := by
  intro i
  induction i with
  | zero =>
    intro k _ hk
    obtain ⟨k, rfl, _⟩ := fuel hk
    have h1 : ¬ (((0 : Nat) : Int) - 1 ≥ 0) := by omega
    simp only [spec_l02Cmp.l0, h1, ↓reduceIte, cmpI]
  | succ i ih =>
    intro k hi hk
    obtain ⟨k, rfl, hk'⟩ := fuel hk
    have e : ((i + 1 : Nat) : Int) - 1 = (i : Int) := by omega
    have h1 : (i : Int) ≥ 0 := by omega
    have h2 : (0 : Int) ≤ (i : Int) := by omega
    have h3 : (i : Int) < (a.length : Int) := by omega
    have h4 : (i : Int) < (b.length : Int) := by omega
    have w : wrap64 ((i : Int) - 1) = (i : Int) - 1 := w64 (by omega) (by omega)
    rw [e]
    simp only [spec_l02Cmp.l0, h1, h2, h3, h4, w, ↓reduceIte, cmpI, ih k (by omega) (by omega)]
    by_cases c1 : rd a (i : Int) < rd b (i : Int)
    · simp only [c1, ↓reduceIte]
    · by_cases c2 : rd a (i : Int) > rd b (i : Int)
      · simp only [c1, c2, ↓reduceIte]
      · simp only [c1, c2, ↓reduceIte]
theorem spec_l02Cmp_ok (a b : List Int) (hb : a.length ≤ 1152921504606846976) (k : Nat) (hk : a.length < k) : spec_l02Cmp.f k a b = some (cmpL a b) := by
  unfold spec_l02Cmp.f cmpL
  by_cases c1 : a.length = b.length
  · have c1' : (a.length : Int) = (b.length : Int) := by omega
    simp only [c1, c1', ↓reduceIte]
    rw [w64 (by omega) (by omega), ← c1', spec_l02Cmp_l0 a b c1 hb a.length k (Nat.le_refl _) hk, c1]
  · have c1' : ¬ (a.length : Int) = (b.length : Int) := by omega
    simp only [c1, c1', ↓reduceIte]
    by_cases c2 : a.length < b.length
    · have c2' : (a.length : Int) < (b.length : Int) := by omega
      simp only [c2, c2', ↓reduceIte]
    · have c2' : ¬ (a.length : Int) < (b.length : Int) := by omega
      simp only [c2, c2', ↓reduceIte]

theorem impl_trim_l0 (l : List Int) (hl : l.length ≤ 1152921504606846976) : ∀ (i k : Nat), i ≤ l.length → i < k → impl_trim.l0 k (l.take i) = some (trimTo l i) := by
  intro i
  induction i with
  | zero =>
    intro k _ hk
    obtain ⟨k, rfl, _⟩ := fuel hk
    simp [impl_trim.l0, trimTo]
  | succ i ih =>
    intro k hi hk
    obtain ⟨k, rfl, hk'⟩ := fuel hk
    have hlen : (l.take (i + 1)).length = i + 1 := by rw [List.length_take]; omega
    have e : (((i + 1 : Nat)) : Int) - 1 = (i : Int) := by omega
    have w : wrap64 (((i + 1 : Nat) : Int) - 1) = (i : Int) := by rw [e]; exact w64 (by omega) (by omega)
    have h1 : (((i + 1 : Nat)) : Int) > 0 := by omega
    have h2 : (0 : Int) ≤ (i : Int) := by omega
    have h3 : (i : Int) < (((i + 1 : Nat)) : Int) := by omega
    have h4 : (i : Int) ≤ (((i + 1 : Nat)) : Int) := by omega
    have r : rd (l.take (i + 1)) (i : Int) = rd l (i : Int) := rd_take l (by omega)
    simp only [impl_trim.l0, hlen, w, h1, h2, h3, h4, r, ↓reduceIte, Int.toNat_natCast, List.take_take, Nat.min_eq_left (Nat.le_succ i), trimTo]
    by_cases c : rd l (i : Int) = 0
    · simp only [c, ↓reduceIte]
      exact ih k (by omega) (by omega)
    · simp only [c, ↓reduceIte]
theorem impl_trim_ok (l : List Int) (hl : l.length ≤ 1152921504606846976) (k : Nat) (hk : l.length < k) : impl_trim.f k l = some (trim l) := by
  have := impl_trim_l0 l hl l.length k (Nat.le_refl _) hk
  rw [List.take_length] at this
  exact this

/-- One limb of a difference: x minus y minus a borrow. -/
theorem sub_step (a b : List Int) (ha : Dig a) (hb : Dig b) (i : Nat) (hi : i < a.length) (p : List Int) (hp : p.length = i) (hD : Dig p) (c : Nat) (hc : c ≤ 1) (hv : val p + val (b.take i) = val (a.take i) + c * 1000000000 ^ i) (y : Int) (hy : y = if i < b.length then rd b (i : Int) else 0) :
    ∃ (e : Nat), e ≤ 1 ∧ (e = if rd a (i : Int) - c - y < 0 then 1 else 0) ∧ 0 ≤ rd a (i : Int) - c - y + e * 1000000000 ∧ rd a (i : Int) - c - y + e * 1000000000 ≤ 999999999 ∧
      val (p ++ [rd a (i : Int) - c - y + e * 1000000000]) + val (b.take (i + 1)) = val (a.take (i + 1)) + e * 1000000000 ^ (i + 1) := by
  have ra := Dig_rd ha i
  have rb := Dig_rd hb i
  have va := val_take a i hi
  have vb : val (b.take (i + 1)) = val (b.take i) + 1000000000 ^ i * y.toNat := by
    by_cases h : i < b.length
    · rw [if_pos h] at hy; subst hy; exact val_take b i h
    · rw [if_neg h] at hy; subst hy
      rw [List.take_of_length_le (by omega), List.take_of_length_le (by omega)]; simp
  have hy0 : 0 ≤ y ∧ y ≤ 999999999 := by
    by_cases h : i < b.length
    · rw [if_pos h] at hy; omega
    · rw [if_neg h] at hy; omega
  generalize rd a (i : Int) = x at *
  refine ⟨if x - c - y < 0 then 1 else 0, by split <;> omega, rfl, by split <;> omega, by split <;> omega, ?_⟩
  rw [val_snoc, hp, va, vb, Nat.pow_succ]
  obtain ⟨X, rfl⟩ : ∃ n : Nat, x = n := ⟨x.toNat, by omega⟩
  obtain ⟨Y, rfl⟩ : ∃ n : Nat, y = n := ⟨y.toNat, by omega⟩
  simp only [Int.toNat_natCast]
  by_cases h : (X : Int) - c - Y < 0
  · rw [if_pos h]
    obtain ⟨Z, hZ⟩ : ∃ Z : Nat, (X : Int) - c - Y + ((1 : Nat) : Int) * 1000000000 = Z := ⟨((X : Int) - c - Y + ((1 : Nat) : Int) * 1000000000).toNat, by omega⟩
    rw [hZ]
    have hz : Z + c + Y = X + 1000000000 := by omega
    simp only [Int.toNat_natCast]
    generalize 1000000000 ^ i = P at *
    grind
  · rw [if_neg h]
    obtain ⟨Z, hZ⟩ : ∃ Z : Nat, (X : Int) - c - Y + ((0 : Nat) : Int) * 1000000000 = Z := ⟨((X : Int) - c - Y + ((0 : Nat) : Int) * 1000000000).toNat, by omega⟩
    rw [hZ]
    have hz : Z + c + Y = X := by omega
    simp only [Int.toNat_natCast]
    generalize 1000000000 ^ i = P at *
    grind
/-- A difference's limbs, at the end: nothing is borrowed. -/
theorem sub_end (a b : List Int) (ha : Dig a) (q : List Int) (hq : q.length = a.length) (hD : Dig q) (hbl : b.length ≤ a.length) (c : Nat) (hc : c ≤ 1) (hv : val q + val (b.take a.length) = val (a.take a.length) + c * 1000000000 ^ a.length) (hle : val b ≤ val a) : trim q = dg (val a - val b) := by
  rw [List.take_of_length_le hbl, List.take_length] at hv
  have l1 := val_lt hD
  rw [hq] at l1
  rw [trim_dg_val hD]
  congr 1
  have : c = 0 := by
    rcases Nat.lt_or_ge 0 c with h | h
    · have : c = 1 := by omega
      subst this
      omega
    · omega
  subst this
  omega

/-- minus, from limb i on: p has the limbs so far, c what is borrowed. -/
theorem impl_minus_l0 (a b : List Int) (ha : Dig a) (hb : Dig b) (hal : a.length ≤ 1000) (hbl : b.length ≤ a.length) (hle : val b ≤ val a) : ∀ (d i : Nat) (p : List Int) (c k : Nat), i + d = a.length → p.length = i → d + 1100 < k → c ≤ 1 → Dig p → val p + val (b.take i) = val (a.take i) + c * 1000000000 ^ i →
    impl_minus.l0 k b (p ++ List.replicate d 0) (c : Int) a (a.length : Int) (i : Int) = some (dg (val a - val b)) := by
  intro d
  induction d with
  | zero =>
    intro i p c k hi hp hk hc hD hv
    obtain ⟨k, rfl, _⟩ := fuel hk
    have ei : i = a.length := by omega
    subst ei
    have h1 : ¬ ((a.length : Int) < (a.length : Int)) := by omega
    simp only [impl_minus.l0, h1, ↓reduceIte, List.replicate_zero, List.append_nil, impl_trim_ok p (by omega) k (by omega), Option.bind_some]
    rw [sub_end a b ha p hp hD hbl c hc hv hle]
  | succ d ih =>
    intro i p c k hi hp hk hc hD hv
    obtain ⟨k, rfl, hk'⟩ := fuel hk
    have h1 : (i : Int) < (a.length : Int) := by omega
    have h2 : (0 : Int) ≤ (i : Int) := by omega
    have h3 : (i : Int) < (((p ++ List.replicate (d + 1) 0).length : Nat) : Int) := by rw [List.length_append, List.length_replicate]; omega
    have ra := Dig_rd ha i
    have rb := Dig_rd hb i
    have bw : i + 1 ≤ 9223372036854775807 := by omega
    obtain ⟨e, he, hee, g0, g1, g2⟩ := sub_step a b ha hb i (by omega) p hp hD c hc hv (if i < b.length then rd b (i : Int) else 0) rfl
    have hset : ∀ z : Int, (p ++ List.replicate (d + 1) 0).set i z = (p ++ [z]) ++ List.replicate d 0 := by
      intro z
      have := set_mid p (List.replicate d 0) 0 z
      rw [hp] at this
      rw [List.replicate_succ, this]
    have hgo : ∀ z : Int, z = rd a (i : Int) - c - (if i < b.length then rd b (i : Int) else 0) + e * 1000000000 → impl_minus.l0 k b ((p ++ [z]) ++ List.replicate d 0) (e : Int) a (a.length : Int) ((i + 1 : Nat) : Int) = some (dg (val a - val b)) := by
      intro z hz
      rw [hz]
      exact ih (i + 1) _ e k (by omega) (by simp [hp]) (by omega) he (Dig_append.mpr ⟨hD, Dig_cons.mpr ⟨⟨g0, g1⟩, Dig_nil⟩⟩) g2
    have w1 : wrap64 (rd a (i : Int) - (c : Int)) = rd a (i : Int) - (c : Int) := w64 (by omega) (by omega)
    by_cases hb1 : i < b.length
    · have h4 : (i : Int) < (b.length : Int) := by omega
      rw [if_pos hb1] at hee hgo g0 g1
      have r1 : -9223372036854775808 ≤ rd a (i : Int) - (c : Int) - rd b (i : Int) := by clear w1; omega
      have r2 : rd a (i : Int) - (c : Int) - rd b (i : Int) ≤ 9223372036854775807 := by clear w1; omega
      by_cases hn : rd a (i : Int) - (c : Int) - rd b (i : Int) < 0
      · rw [if_pos hn] at hee
        subst hee
        have w3 : wrap64 (rd a (i : Int) - (c : Int) - rd b (i : Int) + 1000000000) = rd a (i : Int) - (c : Int) - rd b (i : Int) + 1000000000 := by clear w1; exact w64 (by omega) (by omega)
        have := hgo (rd a (i : Int) - (c : Int) - rd b (i : Int) + 1000000000) (by clear w1 w3; omega)
        simp only [impl_minus.l0, h1, h2, h3, h4, hn, w1, w64 r1 r2, w3, ↓reduceIte, Int.toNat_natCast, hset, wadd1 bw]
        exact this
      · rw [if_neg hn] at hee
        subst hee
        have := hgo (rd a (i : Int) - (c : Int) - rd b (i : Int)) (by clear w1; omega)
        simp only [impl_minus.l0, h1, h2, h3, h4, hn, w1, w64 r1 r2, ↓reduceIte, Int.toNat_natCast, hset, wadd1 bw]
        exact this
    · have h4 : ¬ ((i : Int) < (b.length : Int)) := by omega
      rw [if_neg hb1] at hee hgo g0 g1
      rw [Int.sub_zero] at hee
      by_cases hn : rd a (i : Int) - (c : Int) < 0
      · rw [if_pos hn] at hee
        subst hee
        have w3 : wrap64 (rd a (i : Int) - (c : Int) + 1000000000) = rd a (i : Int) - (c : Int) + 1000000000 := by clear w1; exact w64 (by omega) (by omega)
        have := hgo (rd a (i : Int) - (c : Int) + 1000000000) (by clear w1 w3; omega)
        simp only [impl_minus.l0, h1, h2, h3, h4, hn, w1, w3, ↓reduceIte, Int.toNat_natCast, hset, wadd1 bw]
        exact this
      · rw [if_neg hn] at hee
        subst hee
        have := hgo (rd a (i : Int) - (c : Int)) (by clear w1; omega)
        simp only [impl_minus.l0, h1, h2, h3, h4, hn, w1, ↓reduceIte, Int.toNat_natCast, hset, wadd1 bw]
        exact this
theorem impl_minus_ok (a b : List Int) (ha : Dig a) (hb : Dig b) (hal : a.length ≤ 1000) (hbl : b.length ≤ a.length) (hle : val b ≤ val a) (k : Nat) (hk : 2200 < k) : impl_minus.f k a b = some (dg (val a - val b)) := by
  have h1 : (0 : Int) ≤ (a.length : Int) := by omega
  have h2 : a.length ≤ 35184372088832 := by omega
  unfold impl_minus.f
  simp only [h1, h2, ↓reduceIte, Int.toNat_natCast]
  have := impl_minus_l0 a b ha hb hal hbl hle a.length 0 [] 0 k (by omega) rfl (by omega) (by omega) Dig_nil (by simp [val])
  exact this

theorem spec_l02Trim_l0 (l : List Int) (hl : l.length ≤ 1152921504606846976) : ∀ (i k : Nat), i ≤ l.length → i < k → spec_l02Trim.l0 k l (i : Int) = some (trimTo l i) := by
  intro i
  induction i with
  | zero =>
    intro k _ hk
    obtain ⟨k, rfl, _⟩ := fuel hk
    simp only [spec_l02Trim.l0, trimTo]
    rw [if_neg (by omega), if_pos (by omega), if_pos (by omega)]
    simp
  | succ i ih =>
    intro k hi hk
    obtain ⟨k, rfl, hk'⟩ := fuel hk
    simp only [spec_l02Trim.l0, trimTo]
    have e : ((i + 1 : Nat) : Int) - 1 = (i : Int) := by omega
    rw [if_pos (by omega), e, w64 (by omega) (by omega), if_pos (by omega), if_pos (by omega)]
    by_cases h0 : rd l (i : Int) = 0
    · rw [if_pos h0, if_pos h0]
      exact ih k (by omega) (by omega)
    · rw [if_neg h0, if_neg h0, if_pos (by omega), if_pos (by omega)]
      rfl
theorem spec_l02Trim_ok (l : List Int) (hl : l.length ≤ 1152921504606846976) (k : Nat) (hk : l.length < k) : spec_l02Trim.f k l = some (trim l) :=
  spec_l02Trim_l0 l hl l.length k (Nat.le_refl _) hk

/-- the reference's, from limb i on: p has the limbs so far, c what is borrowed. -/
theorem spec_l02Sub_l0 (a b : List Int) (ha : Dig a) (hb : Dig b) (hal : a.length ≤ 1000) (hbl : b.length ≤ a.length) (hle : val b ≤ val a) : ∀ (d i : Nat) (p : List Int) (c k : Nat), i + d = a.length → p.length = i → d + 1100 < k → c ≤ 1 → Dig p → val p + val (b.take i) = val (a.take i) + c * 1000000000 ^ i →
    spec_l02Sub.l0 k a b p (c : Int) (a.length : Int) (i : Int) = some (dg (val a - val b)) := by
  intro d
  induction d with
  | zero =>
    intro i p c k hi hp hk hc hD hv
    obtain ⟨k, rfl, _⟩ := fuel hk
    have ei : i = a.length := by omega
    subst ei
    have h1 : ¬ ((a.length : Int) < (a.length : Int)) := by omega
    simp only [spec_l02Sub.l0, h1, ↓reduceIte, spec_l02Trim_ok p (by omega) k (by omega), Option.bind_some]
    rw [sub_end a b ha p hp hD hbl c hc hv hle]
  | succ d ih =>
    intro i p c k hi hp hk hc hD hv
    obtain ⟨k, rfl, hk'⟩ := fuel hk
    have h1 : (i : Int) < (a.length : Int) := by omega
    have h2 : (0 : Int) ≤ (i : Int) := by omega
    have h3 : p.length < 17592186044416 := by omega
    have ra := Dig_rd ha i
    have rb := Dig_rd hb i
    have bw : i + 1 ≤ 9223372036854775807 := by omega
    obtain ⟨e, he, hee, g0, g1, g2⟩ := sub_step a b ha hb i (by omega) p hp hD c hc hv (if i < b.length then rd b (i : Int) else 0) rfl
    have hgo : ∀ z : Int, z = rd a (i : Int) - c - (if i < b.length then rd b (i : Int) else 0) + e * 1000000000 → spec_l02Sub.l0 k a b (p ++ [z]) (e : Int) (a.length : Int) ((i + 1 : Nat) : Int) = some (dg (val a - val b)) := by
      intro z hz
      rw [hz]
      exact ih (i + 1) _ e k (by omega) (by simp [hp]) (by omega) he (Dig_append.mpr ⟨hD, Dig_cons.mpr ⟨⟨g0, g1⟩, Dig_nil⟩⟩) g2
    have w1 : wrap64 (rd a (i : Int) - (c : Int)) = rd a (i : Int) - (c : Int) := w64 (by omega) (by omega)
    by_cases hb1 : i < b.length
    · have h4 : (i : Int) < (b.length : Int) := by omega
      rw [if_pos hb1] at hee hgo g0 g1
      have r1 : -9223372036854775808 ≤ rd a (i : Int) - (c : Int) - rd b (i : Int) := by clear w1; omega
      have r2 : rd a (i : Int) - (c : Int) - rd b (i : Int) ≤ 9223372036854775807 := by clear w1; omega
      by_cases hn : rd a (i : Int) - (c : Int) - rd b (i : Int) < 0
      · rw [if_pos hn] at hee
        subst hee
        have w3 : wrap64 (rd a (i : Int) - (c : Int) - rd b (i : Int) + 1000000000) = rd a (i : Int) - (c : Int) - rd b (i : Int) + 1000000000 := by clear w1; exact w64 (by omega) (by omega)
        have := hgo (rd a (i : Int) - (c : Int) - rd b (i : Int) + 1000000000) (by clear w1 w3; omega)
        simp only [spec_l02Sub.l0, h1, h2, h3, h4, hn, w1, w64 r1 r2, w3, ↓reduceIte, wadd1 bw]
        exact this
      · rw [if_neg hn] at hee
        subst hee
        have := hgo (rd a (i : Int) - (c : Int) - rd b (i : Int)) (by clear w1; omega)
        simp only [spec_l02Sub.l0, h1, h2, h3, h4, hn, w1, w64 r1 r2, ↓reduceIte, wadd1 bw]
        exact this
    · have h4 : ¬ ((i : Int) < (b.length : Int)) := by omega
      rw [if_neg hb1] at hee hgo g0 g1
      rw [Int.sub_zero] at hee
      by_cases hn : rd a (i : Int) - (c : Int) < 0
      · rw [if_pos hn] at hee
        subst hee
        have w3 : wrap64 (rd a (i : Int) - (c : Int) + 1000000000) = rd a (i : Int) - (c : Int) + 1000000000 := by clear w1; exact w64 (by omega) (by omega)
        have := hgo (rd a (i : Int) - (c : Int) + 1000000000) (by clear w1 w3; omega)
        simp only [spec_l02Sub.l0, h1, h2, h3, h4, hn, w1, w3, ↓reduceIte, wadd1 bw]
        exact this
      · rw [if_neg hn] at hee
        subst hee
        have := hgo (rd a (i : Int) - (c : Int)) (by clear w1; omega)
        simp only [spec_l02Sub.l0, h1, h2, h3, h4, hn, w1, ↓reduceIte, wadd1 bw]
        exact this
theorem spec_l02Sub_ok (a b : List Int) (ha : Dig a) (hb : Dig b) (hal : a.length ≤ 1000) (hbl : b.length ≤ a.length) (hle : val b ≤ val a) (k : Nat) (hk : 2200 < k) : spec_l02Sub.f k a b = some (dg (val a - val b)) := by
  have := spec_l02Sub_l0 a b ha hb hal hbl hle a.length 0 [] 0 k (by omega) rfl (by omega) (by omega) Dig_nil (by simp [val])
  exact this

def resNatSub (a b : List Int) : List Int := if nok a = true ∧ nok b = true ∧ val b ≤ val a then dg (val a - val b) else []
theorem resNatSub_len (a b : List Int) : (resNatSub a b).length ≤ 60 := by
  unfold resNatSub
  split
  · rename_i h
    have l1 := nok_len h.1
    have l2 : (dg (val a - val b)).length ≤ (dg (val a)).length := dg_len_mono (Nat.sub_le _ _)
    rw [nok_dg h.1] at l2
    omega
  · simp
theorem spec_NatSub_ok (a b : List Int) (ha : a.length ≤ 1048576) (hb : b.length ≤ 1048576) (k : Nat) (hk : 1100000 < k) : spec_NatSub.f k a b = some (resNatSub a b) := by
  unfold spec_NatSub.f resNatSub
  simp only [spec_NatOk_ok a (by omega) k (by omega), spec_NatOk_ok b (by omega) k (by omega), spec_l02Cmp_ok a b (by omega) k (by omega), Option.bind_some]
  cases h1 : nok a
  · simp
  · cases h2 : nok b
    · simp
    · have l1 := nok_len h1
      have hc : cmpL a b = if val a < val b then -1 else if val a > val b then 1 else 0 := by
        have := cmpL_dg (val a) (val b)
        rwa [nok_dg h1, nok_dg h2] at this
      by_cases h3 : val a < val b
      · have h4 : cmpL a b < 0 := by rw [hc, if_pos h3]; omega
        have h5 : ¬ val b ≤ val a := by omega
        simp [h4, h5]
      · have h4 : ¬ cmpL a b < 0 := by rw [hc, if_neg h3]; split <;> omega
        have h5 : val b ≤ val a := by omega
        have hl : b.length ≤ a.length := by
          have := dg_len_mono h5
          rwa [nok_dg h1, nok_dg h2] at this
        simp [h4, h5, spec_l02Sub_ok a b (nok_Dig h1) (nok_Dig h2) (by omega) hl h5 k (by omega)]
theorem impl_NatSub_ok (a b : List Int) (ha : a.length ≤ 1048576) (hb : b.length ≤ 1048576) (k : Nat) (hk : 1100000 < k) : impl_NatSub.f k a b = some (resNatSub a b) := by
  unfold impl_NatSub.f resNatSub
  simp only [impl_NatOk_ok, impl_compare_ok a b (by omega) k (by omega), Option.bind_some]
  cases h1 : nok a
  · simp
  · cases h2 : nok b
    · simp
    · have l1 := nok_len h1
      have hc : cmpL a b = if val a < val b then -1 else if val a > val b then 1 else 0 := by
        have := cmpL_dg (val a) (val b)
        rwa [nok_dg h1, nok_dg h2] at this
      by_cases h3 : val a < val b
      · have h4 : cmpL a b < 0 := by rw [hc, if_pos h3]; omega
        have h5 : ¬ val b ≤ val a := by omega
        simp [h4, h5]
      · have h4 : ¬ cmpL a b < 0 := by rw [hc, if_neg h3]; split <;> omega
        have h5 : val b ≤ val a := by omega
        have hl : b.length ≤ a.length := by
          have := dg_len_mono h5
          rwa [nok_dg h1, nok_dg h2] at this
        simp [h4, h5, impl_minus_ok a b (nok_Dig h1) (nok_Dig h2) (by omega) hl h5 k (by omega)]

theorem FnExactNatSub : laws_FnExactNatSub.Pure := by
  intro a b ⟨_, ha⟩ ⟨_, hb⟩
  refine ⟨1100100 + 1, ?_⟩
  obtain ⟨k, hk⟩ : ∃ k, k = 1100100 := ⟨_, rfl⟩
  rw [← hk]
  unfold laws_FnExactNatSub.f
  by_cases h1 : (a.length : Int) > 1048576
  · simp only [h1, ↓reduceIte]
  · by_cases h2 : (b.length : Int) > 1048576
    · simp only [h1, h2, ↓reduceIte]
    · have hk1 : k ≤ 1100100 := by omega
      have hk2 : 1100099 < k := by omega
      clear hk
      obtain ⟨r, hr⟩ : ∃ r, r = resNatSub a b := ⟨_, rfl⟩
      have hrl : r.length ≤ 60 := by rw [hr]; exact resNatSub_len a b
      have e1 := spec_NatSub_ok a b (by omega) (by omega) (k + 1) (by omega)
      have e2 := impl_NatSub_ok a b (by omega) (by omega) (k + 1) (by omega)
      have e3 := impl_NatSub_ok a b (by omega) (by omega) k (by omega)
      rw [← hr] at e1 e2 e3
      have m1 := markIntS_ok a 1 (k + 1) (by omega) (by omega) (by omega) (by omega)
      have m2 := markIntS_ok b (1 + (a.length : Int)) (k + 1) (by omega) (by omega) (by omega) (by omega)
      have c0 : ¬ (1 + (a.length : Int) + (b.length : Int) < 0) := by omega
      have c1 : ¬ (1 + (r.length : Int) < 0) := by omega
      simp only [h1, h2, ↓reduceIte, toIntS_ok a (by omega) (k + 1) (by omega), toIntS_ok b (by omega) (k + 1) (by omega), toIntS_ok a (by omega) k (by omega), toIntS_ok b (by omega) k (by omega), e1, e2, e3, Option.bind_some,
        eqIntS_same a (by omega) (k + 1) (by omega), eqIntS_same b (by omega) (k + 1) (by omega), eqIntS_same r (by omega) (k + 1) (by omega), eqIntS_same r (by omega) k (by omega), m1, m2, c0, c1, laws_FnExactNatSub.j0, Bool.not_true, Bool.false_eq_true,
        markIntS_ok r 1 k (by omega) (by omega) (by omega) (by omega), heldIntS_ok r.length 1 k (by omega) (by omega) (by omega)]

end Go.Proofs.Ytmnahdoomnbdoaa.Pure
