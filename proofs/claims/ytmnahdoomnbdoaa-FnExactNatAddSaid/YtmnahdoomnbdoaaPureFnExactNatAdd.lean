/- The program's NatAdd returns what the reference's returns, for every two slices of ints; no condition. -/
import Derived.Test.YtmnahdoomnbdoaaPFnExactNatAddx4
import Derived.Test.YtmnahdoomnbdoaaLb
import Derived.Test.YtmnahdoomnbdoaaNu
set_option linter.unusedVariables false
set_option linter.unusedSimpArgs false
namespace Go.Proofs.Ytmnahdoomnbdoaa.Pure
open Go.RowKit Go.Proofs.Ytmnahdoomnbdoaa.PFnExactNatAdd Go.Proofs.YtmnahdoomnbdoaaW.PrintWords Go.Proofs.YtmnahdoomnbdoaaW.PrintLast Go.Proofs.Ytmnahdoomnbdoaa.Lb

theorem toIntS_l0 (l : List Int) (hl : l.length ≤ 1099511627776) : ∀ (d k i : Nat), i + d = l.length → d < k →
    laws_toIntS.l0 k l (l.take i ++ List.replicate d 0) (i : Int) = some l := by
  intro d
  induction d with
  | zero =>
    intro k i h hk
    obtain ⟨k, rfl, _⟩ := fuel hk
    simp only [laws_toIntS.l0]
    rw [if_neg (by omega)]
    simp [List.take_of_length_le (show l.length ≤ i by omega)]
  | succ d ih =>
    intro k i h hk
    obtain ⟨k, rfl, hk'⟩ := fuel hk
    simp only [laws_toIntS.l0]
    rw [if_pos (by omega), if_pos (by omega), if_pos (by rw [List.length_append, List.length_take, List.length_replicate]; omega)]
    rw [w64 (by omega) (by omega), Int.toNat_natCast, copy_step l i d h]
    exact ih k (i + 1) (by omega) (by omega)
theorem toIntS_ok (l : List Int) (hl : l.length ≤ 1099511627776) (k : Nat) (hk : l.length < k) : laws_toIntS.f k l = some l := by
  unfold laws_toIntS.f
  rw [if_pos (by omega), if_pos (by omega)]
  have := toIntS_l0 l hl l.length k 0 (by omega) hk
  simpa using this

theorem eqIntS_l0 (l : List Int) (hl : l.length ≤ 1152921504606846976) : ∀ (d k i : Nat), i + d = l.length → d < k →
    laws_eqIntS.l0 k l l (i : Int) = some true := by
  intro d
  induction d with
  | zero =>
    intro k i h hk
    obtain ⟨k, rfl, _⟩ := fuel hk
    simp only [laws_eqIntS.l0]
    rw [if_neg (by omega)]
  | succ d ih =>
    intro k i h hk
    obtain ⟨k, rfl, hk'⟩ := fuel hk
    simp only [laws_eqIntS.l0]
    rw [if_pos (by omega), if_pos (by omega), if_pos (by omega), if_pos trivial, w64 (by omega) (by omega)]
    exact ih k (i + 1) (by omega) (by omega)
theorem eqIntS_same (l : List Int) (hl : l.length ≤ 1152921504606846976) (k : Nat) (hk : l.length < k) : laws_eqIntS.f k l l = some true := by
  unfold laws_eqIntS.f
  rw [if_pos rfl]
  exact eqIntS_l0 l hl l.length k 0 (by omega) hk

theorem markIntS_l0 : ∀ (s p : List Int) (a : Int) (k : Nat), s.length < k → p.length + s.length ≤ 1152921504606846976 → 0 ≤ a → a + s.length ≤ 1152921504606846976 →
    laws_markIntS.l0 k (p ++ s) a (p.length : Int) = some (a + s.length, p ++ mk a s.length) := by
  intro s
  induction s with
  | nil =>
    intro p a k hk _ _ _
    obtain ⟨k, rfl, _⟩ := fuel hk
    simp only [laws_markIntS.l0]
    rw [if_neg (by simp)]
    simp [mk]
  | cons x s ih =>
    intro p a k hk hl h0 h1
    obtain ⟨k, rfl, hk'⟩ := fuel hk
    simp only [List.length_cons] at hl h1 hk'
    simp only [laws_markIntS.l0]
    rw [if_pos (by rw [List.length_append, List.length_cons]; omega), if_pos (by omega), w64 (by omega) (by omega), w64 (by omega) (by omega), Int.toNat_natCast, set_mid, ← len_snoc p a,
      ih (p ++ [a]) (a + 1) k (by omega) (by rw [List.length_append]; simp; omega) (by omega) (by omega)]
    simp only [List.length_cons, mk, List.append_assoc, List.singleton_append]
    congr 2
    omega
theorem markIntS_ok (l : List Int) (a : Int) (k : Nat) (hk : l.length < k) (h0 : 0 ≤ a) (h1 : a + l.length ≤ 1152921504606846976) (hl : l.length ≤ 1152921504606846976) :
    laws_markIntS.f k l a = some (a + l.length, mk a l.length) := by
  have := markIntS_l0 l [] a k hk (by simpa using hl) h0 h1
  simpa [laws_markIntS.f] using this

theorem heldIntS_l0 : ∀ (n : Nat) (p : List Int) (a : Int) (k : Nat), n < k → p.length + n ≤ 1152921504606846976 → 0 ≤ a → a + n ≤ 1152921504606846976 →
    laws_heldIntS.l0 k (p ++ mk a n) a (p.length : Int) = some (a + n) := by
  intro n
  induction n with
  | zero =>
    intro p a k hk _ _ _
    obtain ⟨k, rfl, _⟩ := fuel hk
    have h1 : ¬ ((p.length : Int) < ((p ++ mk a 0).length : Int)) := by simp [mk]
    simp only [laws_heldIntS.l0, h1, ↓reduceIte]
    simp
  | succ n ih =>
    intro p a k hk hl h0 h1
    obtain ⟨k, rfl, hk'⟩ := fuel hk
    have e : p ++ mk a (n + 1) = (p ++ [a]) ++ mk (a + 1) n := by simp [mk]
    have h1 : (p.length : Int) < ((p ++ mk a (n + 1)).length : Int) := by rw [List.length_append, mk_length]; omega
    have h2 : rd (p ++ mk a (n + 1)) (p.length : Int) = a := rd_mid _ _ _
    have h3 : (0 : Int) ≤ (p.length : Int) := by omega
    simp only [laws_heldIntS.l0, h1, h2, h3, ↓reduceIte]
    rw [w64 (by omega) (by omega), w64 (by omega) (by omega), ← len_snoc p a, e, ih (p ++ [a]) (a + 1) k (by omega) (by rw [List.length_append]; simp; omega) (by omega) (by omega)]
    congr 1
    omega
theorem heldIntS_ok (n : Nat) (a : Int) (k : Nat) (hk : n < k) (h0 : 0 ≤ a) (h1 : a + n ≤ 1152921504606846976) :
    laws_heldIntS.f k (mk a n) a = some (a + n) := by
  have := heldIntS_l0 n [] a k hk (by simp; omega) h0 h1
  simpa [laws_heldIntS.f] using this

theorem spec_in_ok (x : Int) : spec_l01In.f x 0 999999999 = some (inB x) := by
  unfold spec_l01In.f inB
  by_cases h : x ≥ 0
  · rw [if_pos h, decide_eq_true h, Bool.true_and]
  · rw [if_neg h, decide_eq_false h, Bool.false_and]
theorem spec_NatOk_l0 (l : List Int) (hl : l.length ≤ 1152921504606846976) : ∀ (d k i : Nat), i + d = l.length → d < k →
    spec_NatOk.l0 k l l (l.length : Int) (i : Int) = some ((l.drop i).all inB && (decide (l.length ≤ 60) && (l.isEmpty || !decide (rd l ((l.length : Int) - 1) = 0)))) := by
  intro d
  induction d with
  | zero =>
    intro k i h hk
    obtain ⟨k, rfl, _⟩ := fuel hk
    have h1 : ¬ ((i : Int) < (l.length : Int)) := by omega
    simp only [spec_NatOk.l0, h1, ↓reduceIte]
    rw [List.drop_of_length_le (by omega)]
    by_cases h2 : (l.length : Int) ≤ 60
    · have h2' : l.length ≤ 60 := by omega
      by_cases h3 : (l.length : Int) = 0
      · have : l = [] := List.length_eq_zero_iff.mp (by omega)
        subst this
        simp
      · have h4 : (0 : Int) ≤ wrap64 ((l.length : Int) - 1) := by rw [w64 (by omega) (by omega)]; omega
        have h5 : wrap64 ((l.length : Int) - 1) < (l.length : Int) := by rw [w64 (by omega) (by omega)]; omega
        have h6 : l.isEmpty = false := by cases l with | nil => simp at h3 | cons _ _ => rfl
        simp only [h2, h3, h4, h5, h6, ↓reduceIte, h2', decide_true, List.all_nil, Bool.true_and, Bool.false_or]
        rw [w64 (by omega) (by omega)]
        congr 1
    · have h2' : ¬ l.length ≤ 60 := by omega
      simp [h2, h2']
  | succ d ih =>
    intro k i h hk
    obtain ⟨k, rfl, hk'⟩ := fuel hk
    have h1 : (i : Int) < (l.length : Int) := by omega
    have h2 : (0 : Int) ≤ (i : Int) := by omega
    have w : wrap64 ((i : Int) + 1) = ((i + 1 : Nat) : Int) := by rw [w64 (by omega) (by omega)]; omega
    have e : l.drop i = rd l i :: l.drop (i + 1) := drop_rd l i (by omega)
    simp only [spec_NatOk.l0, h1, h2, ↓reduceIte, spec_in_ok, Option.bind_some, w, ih k (i + 1) (by omega) (by omega), e, List.all_cons]
    cases inB (rd l (i : Int)) <;> simp
theorem spec_NatOk_ok (l : List Int) (hl : l.length ≤ 1152921504606846976) (k : Nat) (hk : l.length < k) : spec_NatOk.f k l = some (nok l) := by
  have := spec_NatOk_l0 l hl l.length k 0 (by omega) hk
  unfold spec_NatOk.f
  refine this.trans ?_
  rw [List.drop_zero, Bool.and_comm]; rfl

theorem impl_NatOk_ok (l : List Int) : impl_NatOk.f l = some (nok l) := by
  unfold impl_NatOk.f Ext.natOkB nok
  congr 2
  rw [Bool.eq_iff_iff]
  simp only [Bool.not_eq_true', List.any_eq_false, List.all_eq_true, Ext.badB, inB, Bool.or_eq_true, Bool.and_eq_true, decide_eq_true_iff]
  constructor
  · intro h x hx
    have := h x hx
    omega
  · intro h x hx
    have := h x hx
    omega

theorem impl_trim_l0 (l : List Int) (hl : l.length ≤ 1152921504606846976) : ∀ (i k : Nat), i ≤ l.length → i < k → impl_trim.l0 k (l.take i) = some (trimTo l i) := by
  intro i
  induction i with
  | zero =>
    intro k _ hk
    obtain ⟨k, rfl, _⟩ := fuel hk
    simp [impl_trim.l0, trimTo]
  | succ i ih =>
    intro k hi hk
    obtain ⟨k, rfl, hk'⟩ := fuel hk
    have hlen : (l.take (i + 1)).length = i + 1 := by rw [List.length_take]; omega
    have e : (((i + 1 : Nat)) : Int) - 1 = (i : Int) := by omega
    have w : wrap64 (((i + 1 : Nat) : Int) - 1) = (i : Int) := by rw [e]; exact w64 (by omega) (by omega)
    have h1 : (((i + 1 : Nat)) : Int) > 0 := by omega
    have h2 : (0 : Int) ≤ (i : Int) := by omega
    have h3 : (i : Int) < (((i + 1 : Nat)) : Int) := by omega
    have h4 : (i : Int) ≤ (((i + 1 : Nat)) : Int) := by omega
    have r : rd (l.take (i + 1)) (i : Int) = rd l (i : Int) := rd_take l (by omega)
    simp only [impl_trim.l0, hlen, w, h1, h2, h3, h4, r, ↓reduceIte, Int.toNat_natCast, List.take_take, Nat.min_eq_left (Nat.le_succ i), trimTo]
    by_cases c : rd l (i : Int) = 0
    · simp only [c, ↓reduceIte]
      exact ih k (by omega) (by omega)
    · simp only [c, ↓reduceIte]
theorem impl_trim_ok (l : List Int) (hl : l.length ≤ 1152921504606846976) (k : Nat) (hk : l.length < k) : impl_trim.f k l = some (trim l) := by
  have := impl_trim_l0 l hl l.length k (Nat.le_refl _) hk
  rw [List.take_length] at this
  exact this

/-- One limb of a sum. -/
theorem add_step (a b : List Int) (ha : Dig a) (hb : Dig b) (i : Nat) (p : List Int) (hp : p.length = i) (hD : Dig p) (c : Nat) (hc : c ≤ 1) (hv : val p + c * 1000000000 ^ i = val (a.take i) + val (b.take i)) (x y : Nat) (hx : (x : Int) = if i < a.length then rd a (i : Int) else 0) (hy : (y : Int) = if i < b.length then rd b (i : Int) else 0) :
    x ≤ 999999999 ∧ y ≤ 999999999 ∧ (x + y + c) / 1000000000 ≤ 1 ∧ Dig (p ++ [(((x + y + c) % 1000000000 : Nat) : Int)]) ∧
      val (p ++ [(((x + y + c) % 1000000000 : Nat) : Int)]) + ((x + y + c) / 1000000000) * 1000000000 ^ (i + 1) = val (a.take (i + 1)) + val (b.take (i + 1)) := by
  have ra := Dig_rd ha i
  have rb := Dig_rd hb i
  have va : val (a.take (i + 1)) = val (a.take i) + 1000000000 ^ i * x := by
    by_cases h : i < a.length
    · rw [if_pos h] at hx; rw [val_take a i h, ← hx]; simp
    · rw [if_neg h] at hx
      have : x = 0 := by omega
      subst this
      rw [List.take_of_length_le (by omega), List.take_of_length_le (by omega)]; simp
  have vb : val (b.take (i + 1)) = val (b.take i) + 1000000000 ^ i * y := by
    by_cases h : i < b.length
    · rw [if_pos h] at hy; rw [val_take b i h, ← hy]; simp
    · rw [if_neg h] at hy
      have : y = 0 := by omega
      subst this
      rw [List.take_of_length_le (by omega), List.take_of_length_le (by omega)]; simp
  have hx9 : x ≤ 999999999 := by
    by_cases h : i < a.length
    · rw [if_pos h] at hx; omega
    · rw [if_neg h] at hx; omega
  have hy9 : y ≤ 999999999 := by
    by_cases h : i < b.length
    · rw [if_pos h] at hy; omega
    · rw [if_neg h] at hy; omega
  refine ⟨hx9, hy9, by omega, Dig_append.mpr ⟨hD, Dig_cons.mpr ⟨by omega, Dig_nil⟩⟩, ?_⟩
  rw [val_snoc, hp, va, vb, Nat.pow_succ]
  have hd : 1000000000 * ((x + y + c) / 1000000000) + (x + y + c) % 1000000000 = x + y + c := Nat.div_add_mod _ _
  generalize (x + y + c) / 1000000000 = q at *
  generalize (x + y + c) % 1000000000 = r at *
  simp only [Int.toNat_natCast]
  generalize 1000000000 ^ i = P at *
  clear hx hy va vb ra rb
  grind

theorem impl_plusA_l0 (a b : List Int) (ha : Dig a) (hb : Dig b) (hal : a.length ≤ 1000) (hbl : b.length ≤ a.length) : ∀ (d i : Nat) (p : List Int) (c k : Nat), i + d = a.length → p.length = i → d + 1100 < k → c ≤ 1 → Dig p → val p + c * 1000000000 ^ i = val (a.take i) + val (b.take i) →
    impl_plusA.l0 k a b (p ++ List.replicate (d + 1) 0) (c : Int) a (a.length : Int) (i : Int) = some (dg (val a + val b)) := by
  intro d
  induction d with
  | zero =>
    intro i p c k hi hp hk hc hD hv
    obtain ⟨k, rfl, _⟩ := fuel hk
    have ei : i = a.length := by omega
    subst ei
    have h1 : ¬ ((a.length : Int) < (a.length : Int)) := by omega
    have h2 : (0 : Int) ≤ (a.length : Int) := by omega
    have h3 : (a.length : Int) < (((p ++ List.replicate (0 + 1) 0).length : Nat) : Int) := by rw [List.length_append, List.length_replicate, hp]; omega
    have hset : (p ++ List.replicate (0 + 1) 0).set a.length (c : Int) = p ++ [(c : Int)] := by
      have := set_mid p [] 0 (c : Int)
      rw [hp] at this
      simpa using this
    have hDc : Dig (p ++ [(c : Int)]) := Dig_append.mpr ⟨hD, Dig_cons.mpr ⟨by omega, Dig_nil⟩⟩
    have hl : (p ++ [(c : Int)]).length = a.length + 1 := by simp [hp]
    simp only [impl_plusA.l0, h1, h2, h3, ↓reduceIte, Int.toNat_natCast, hset, impl_trim_ok (p ++ [(c : Int)]) (by omega) k (by omega), Option.bind_some]
    rw [trim_dg_val hDc, val_snoc, hp]
    rw [List.take_length, List.take_of_length_le hbl] at hv
    congr 2
    rw [← hv]
    simp [Nat.mul_comm]
  | succ d ih =>
    intro i p c k hi hp hk hc hD hv
    obtain ⟨k, rfl, hk'⟩ := fuel hk
    have h1 : (i : Int) < (a.length : Int) := by omega
    have h2 : (0 : Int) ≤ (i : Int) := by omega
    have h3 : (i : Int) < (((p ++ List.replicate (d + 1 + 1) 0).length : Nat) : Int) := by rw [List.length_append, List.length_replicate]; omega
    have ra := Dig_rd ha i
    have rb := Dig_rd hb i
    have bw : i + 1 ≤ 9223372036854775807 := by omega
    obtain ⟨x, hx⟩ : ∃ x : Nat, rd a (i : Int) = x := ⟨(rd a (i : Int)).toNat, by omega⟩
    obtain ⟨y, hy⟩ : ∃ y : Nat, (y : Int) = if i < b.length then rd b (i : Int) else 0 := ⟨(if i < b.length then rd b (i : Int) else 0).toNat, by split <;> omega⟩
    obtain ⟨hx9, hy9, g0, g1, g2⟩ := add_step a b ha hb i p hp hD c hc hv x y (by rw [if_pos (by omega), hx]) hy
    have hset : ∀ z : Int, (p ++ List.replicate (d + 1 + 1) 0).set i z = (p ++ [z]) ++ List.replicate (d + 1) 0 := by
      intro z
      have := set_mid p (List.replicate (d + 1) 0) 0 z
      rw [hp] at this
      rw [List.replicate_succ, this]
    have hgo := ih (i + 1) (p ++ [(((x + y + c) % 1000000000 : Nat) : Int)]) ((x + y + c) / 1000000000) k (by omega) (by simp [hp]) (by omega) g0 g1 g2
    have b1 : x + c ≤ 9223372036854775807 := by omega
    have b2 : x + c + y ≤ 9223372036854775807 := by omega
    have b3 : (x + y + c) / 1000000000 ≤ 9223372036854775807 := by omega
    have e0 : x + c + y = x + y + c := by omega
    by_cases hb1 : i < b.length
    · have h4 : (i : Int) < (b.length : Int) := by omega
      rw [if_pos hb1] at hy
      have e4 : Int.tmod ((x + y + c : Nat) : Int) 1000000000 = (((x + y + c) % 1000000000 : Nat) : Int) := rfl
      have e5 : Int.tdiv ((x + y + c : Nat) : Int) 1000000000 = (((x + y + c) / 1000000000 : Nat) : Int) := rfl
      simp only [impl_plusA.l0, h1, h2, h3, h4, hx, ← hy, wadd b1, wadd b2, e0, e4, e5, wnat b3, wadd1 bw, ↓reduceIte, Int.toNat_natCast, hset]
      exact hgo
    · have h4 : ¬ ((i : Int) < (b.length : Int)) := by omega
      rw [if_neg hb1] at hy
      have hy0 : y = 0 := by omega
      subst hy0
      have e4 : Int.tmod ((x + c : Nat) : Int) 1000000000 = (((x + 0 + c) % 1000000000 : Nat) : Int) := rfl
      have e5 : Int.tdiv ((x + c : Nat) : Int) 1000000000 = (((x + 0 + c) / 1000000000 : Nat) : Int) := rfl
      simp only [impl_plusA.l0, h1, h2, h3, h4, hx, wadd b1, e4, e5, wnat b3, wadd1 bw, ↓reduceIte, Int.toNat_natCast, hset]
      exact hgo
theorem impl_plusB_l0 (a b : List Int) (ha : Dig a) (hb : Dig b) (hal : a.length ≤ 1000) (hbl : b.length ≤ a.length) : ∀ (d i : Nat) (p : List Int) (c k : Nat), i + d = a.length → p.length = i → d + 1100 < k → c ≤ 1 → Dig p → val p + c * 1000000000 ^ i = val (a.take i) + val (b.take i) →
    impl_plusB.l0 k a b (p ++ List.replicate (d + 1) 0) (c : Int) a (a.length : Int) (i : Int) = some (dg (val a + val b)) := by
  intro d
  induction d with
  | zero =>
    intro i p c k hi hp hk hc hD hv
    obtain ⟨k, rfl, _⟩ := fuel hk
    have ei : i = a.length := by omega
    subst ei
    have h1 : ¬ ((a.length : Int) < (a.length : Int)) := by omega
    have h2 : (0 : Int) ≤ (a.length : Int) := by omega
    have h3 : (a.length : Int) < (((p ++ List.replicate (0 + 1) 0).length : Nat) : Int) := by rw [List.length_append, List.length_replicate, hp]; omega
    have hset : (p ++ List.replicate (0 + 1) 0).set a.length (c : Int) = p ++ [(c : Int)] := by
      have := set_mid p [] 0 (c : Int)
      rw [hp] at this
      simpa using this
    have hDc : Dig (p ++ [(c : Int)]) := Dig_append.mpr ⟨hD, Dig_cons.mpr ⟨by omega, Dig_nil⟩⟩
    have hl : (p ++ [(c : Int)]).length = a.length + 1 := by simp [hp]
    simp only [impl_plusB.l0, h1, h2, h3, ↓reduceIte, Int.toNat_natCast, hset, impl_trim_ok (p ++ [(c : Int)]) (by omega) k (by omega), Option.bind_some]
    rw [trim_dg_val hDc, val_snoc, hp]
    rw [List.take_length, List.take_of_length_le hbl] at hv
    congr 2
    rw [← hv]
    simp [Nat.mul_comm]
  | succ d ih =>
    intro i p c k hi hp hk hc hD hv
    obtain ⟨k, rfl, hk'⟩ := fuel hk
    have h1 : (i : Int) < (a.length : Int) := by omega
    have h2 : (0 : Int) ≤ (i : Int) := by omega
    have h3 : (i : Int) < (((p ++ List.replicate (d + 1 + 1) 0).length : Nat) : Int) := by rw [List.length_append, List.length_replicate]; omega
    have ra := Dig_rd ha i
    have rb := Dig_rd hb i
    have bw : i + 1 ≤ 9223372036854775807 := by omega
    obtain ⟨x, hx⟩ : ∃ x : Nat, rd a (i : Int) = x := ⟨(rd a (i : Int)).toNat, by omega⟩
    obtain ⟨y, hy⟩ : ∃ y : Nat, (y : Int) = if i < b.length then rd b (i : Int) else 0 := ⟨(if i < b.length then rd b (i : Int) else 0).toNat, by split <;> omega⟩
    obtain ⟨hx9, hy9, g0, g1, g2⟩ := add_step a b ha hb i p hp hD c hc hv x y (by rw [if_pos (by omega), hx]) hy
    have hset : ∀ z : Int, (p ++ List.replicate (d + 1 + 1) 0).set i z = (p ++ [z]) ++ List.replicate (d + 1) 0 := by
      intro z
      have := set_mid p (List.replicate (d + 1) 0) 0 z
      rw [hp] at this
      rw [List.replicate_succ, this]
    have hgo := ih (i + 1) (p ++ [(((x + y + c) % 1000000000 : Nat) : Int)]) ((x + y + c) / 1000000000) k (by omega) (by simp [hp]) (by omega) g0 g1 g2
    have b1 : x + c ≤ 9223372036854775807 := by omega
    have b2 : x + c + y ≤ 9223372036854775807 := by omega
    have b3 : (x + y + c) / 1000000000 ≤ 9223372036854775807 := by omega
    have e0 : x + c + y = x + y + c := by omega
    by_cases hb1 : i < b.length
    · have h4 : (i : Int) < (b.length : Int) := by omega
      rw [if_pos hb1] at hy
      have e4 : Int.tmod ((x + y + c : Nat) : Int) 1000000000 = (((x + y + c) % 1000000000 : Nat) : Int) := rfl
      have e5 : Int.tdiv ((x + y + c : Nat) : Int) 1000000000 = (((x + y + c) / 1000000000 : Nat) : Int) := rfl
      simp only [impl_plusB.l0, h1, h2, h3, h4, hx, ← hy, wadd b1, wadd b2, e0, e4, e5, wnat b3, wadd1 bw, ↓reduceIte, Int.toNat_natCast, hset]
      exact hgo
    · have h4 : ¬ ((i : Int) < (b.length : Int)) := by omega
      rw [if_neg hb1] at hy
      have hy0 : y = 0 := by omega
      subst hy0
      have e4 : Int.tmod ((x + c : Nat) : Int) 1000000000 = (((x + 0 + c) % 1000000000 : Nat) : Int) := rfl
      have e5 : Int.tdiv ((x + c : Nat) : Int) 1000000000 = (((x + 0 + c) / 1000000000 : Nat) : Int) := rfl
      simp only [impl_plusB.l0, h1, h2, h3, h4, hx, wadd b1, e4, e5, wnat b3, wadd1 bw, ↓reduceIte, Int.toNat_natCast, hset]
      exact hgo

theorem impl_plus_ok (a b : List Int) (ha : Dig a) (hb : Dig b) (hal : a.length ≤ 1000) (hbl : b.length ≤ 1000) (k : Nat) (hk : 2200 < k) : impl_plus.f k a b = some (dg (val a + val b)) := by
  unfold impl_plus.f
  by_cases h : (a.length : Int) < (b.length : Int)
  · have h1 : (0 : Int) ≤ ((b.length + 1 : Nat) : Int) := by omega
    have h2 : b.length + 1 ≤ 35184372088832 := by omega
    have b1 : b.length + 1 ≤ 9223372036854775807 := by omega
    have := impl_plusB_l0 b a hb ha hbl (by omega) b.length 0 [] 0 k (by omega) rfl (by omega) (by omega) Dig_nil (by simp [val])
    have this' : impl_plusB.l0 k b a (List.replicate (b.length + 1) 0) 0 b (b.length : Int) 0 = some (dg (val b + val a)) := this
    simp only [h, impl_plusB.f, wadd1 b1, h1, h2, ↓reduceIte, Int.toNat_natCast, this']
    rw [Nat.add_comm]
  · have h1 : (0 : Int) ≤ ((a.length + 1 : Nat) : Int) := by omega
    have h2 : a.length + 1 ≤ 35184372088832 := by omega
    have b1 : a.length + 1 ≤ 9223372036854775807 := by omega
    have := impl_plusA_l0 a b ha hb hal (by omega) a.length 0 [] 0 k (by omega) rfl (by omega) (by omega) Dig_nil (by simp [val])
    have this' : impl_plusA.l0 k a b (List.replicate (a.length + 1) 0) 0 a (a.length : Int) 0 = some (dg (val a + val b)) := this
    simp only [h, impl_plusA.f, wadd1 b1, h1, h2, ↓reduceIte, Int.toNat_natCast, this']

theorem spec_l02Add_l0 (a b : List Int) (ha : Dig a) (hb : Dig b) (hal : a.length ≤ 1000) (hbl : b.length ≤ 1000) : ∀ (d i : Nat) (p : List Int) (c k : Nat), i + d = 1001 → p.length = i → 2 * d + 10 < k → c ≤ 1 → Dig p → (1000 < i → c = 0) → val p + c * 1000000000 ^ i = val (a.take i) + val (b.take i) →
    ∃ q, Dig q ∧ q.length ≤ 1001 ∧ val q = val a + val b ∧ spec_l02Add.l0 k a b p (c : Int) (i : Int) = some q := by
  intro d
  induction d with
  | zero =>
    intro i p c k hi hp hk hc hD hz hv
    obtain ⟨k, rfl, hk'⟩ := fuel hk
    obtain ⟨k, rfl, _⟩ := fuel (show 8 < k by omega)
    have hc0 : c = 0 := hz (by omega)
    subst hc0
    have h1 : ¬ ((i : Int) < (a.length : Int)) := by omega
    have h2 : ¬ ((i : Int) < (b.length : Int)) := by omega
    rw [List.take_of_length_le (by omega), List.take_of_length_le (by omega)] at hv
    refine ⟨p, hD, by omega, by omega, ?_⟩
    have h3 : decide (((0 : Nat) : Int) > 0) = false := by decide
    simp only [spec_l02Add.l0, spec_l02Add.j1, h1, h2, h3, ↓reduceIte, Bool.false_eq_true]
  | succ d ih =>
    intro i p c k hi hp hk hc hD hz hv
    obtain ⟨k, rfl, hk'⟩ := fuel hk
    obtain ⟨k, rfl, hk''⟩ := fuel (show 2 * d + 11 < k by omega)
    have h0 : (0 : Int) ≤ (i : Int) := by omega
    have hpl : p.length < 17592186044416 := by omega
    have ra := Dig_rd ha i
    have rb := Dig_rd hb i
    have bw : i + 1 ≤ 9223372036854775807 := by omega
    obtain ⟨x, hx⟩ : ∃ x : Nat, (x : Int) = if i < a.length then rd a (i : Int) else 0 := ⟨(if i < a.length then rd a (i : Int) else 0).toNat, by split <;> omega⟩
    obtain ⟨y, hy⟩ : ∃ y : Nat, (y : Int) = if i < b.length then rd b (i : Int) else 0 := ⟨(if i < b.length then rd b (i : Int) else 0).toNat, by split <;> omega⟩
    obtain ⟨hx9, hy9, g0, g1, g2⟩ := add_step a b ha hb i p hp hD c hc hv x y hx hy
    have hz' : 1000 < i + 1 → (x + y + c) / 1000000000 = 0 := by
      intro h
      rw [if_neg (by omega)] at hx
      rw [if_neg (by omega)] at hy
      omega
    have hgo := ih (i + 1) (p ++ [(((x + y + c) % 1000000000 : Nat) : Int)]) ((x + y + c) / 1000000000) k (by omega) (by simp [hp]) (by omega) g0 g1 hz' g2
    obtain ⟨q, q1, q2, q3, q4⟩ := hgo
    have b1 : c + x ≤ 9223372036854775807 := by omega
    have b2 : c + x + y ≤ 9223372036854775807 := by omega
    have b4 : c + y ≤ 9223372036854775807 := by omega
    have b3 : (x + y + c) / 1000000000 ≤ 9223372036854775807 := by omega
    by_cases ha1 : i < a.length
    · have h1 : (i : Int) < (a.length : Int) := by omega
      rw [if_pos ha1] at hx
      by_cases hb1 : i < b.length
      · have h2 : (i : Int) < (b.length : Int) := by omega
        rw [if_pos hb1] at hy
        have e0 : c + x + y = x + y + c := by omega
        have e4 : Int.tmod ((x + y + c : Nat) : Int) 1000000000 = (((x + y + c) % 1000000000 : Nat) : Int) := rfl
        have e5 : Int.tdiv ((x + y + c : Nat) : Int) 1000000000 = (((x + y + c) / 1000000000 : Nat) : Int) := rfl
        refine ⟨q, q1, q2, q3, ?_⟩
        simp only [spec_l02Add.l0, spec_l02Add.j1, h0, h1, h2, hpl, ← hx, ← hy, wadd b1, wadd b2, e0, e4, e5, wnat b3, wadd1 bw, ↓reduceIte]
        exact q4
      · have h2 : ¬ ((i : Int) < (b.length : Int)) := by omega
        rw [if_neg hb1] at hy
        have hy0 : y = 0 := by omega
        subst hy0
        have e0 : c + x = x + 0 + c := by omega
        have e4 : Int.tmod ((x + 0 + c : Nat) : Int) 1000000000 = (((x + 0 + c) % 1000000000 : Nat) : Int) := rfl
        have e5 : Int.tdiv ((x + 0 + c : Nat) : Int) 1000000000 = (((x + 0 + c) / 1000000000 : Nat) : Int) := rfl
        refine ⟨q, q1, q2, q3, ?_⟩
        simp only [spec_l02Add.l0, spec_l02Add.j1, h0, h1, h2, hpl, ← hx, wadd b1, e0, e4, e5, wnat b3, wadd1 bw, ↓reduceIte]
        exact q4
    · have h1 : ¬ ((i : Int) < (a.length : Int)) := by omega
      rw [if_neg ha1] at hx
      have hx0 : x = 0 := by omega
      subst hx0
      by_cases hb1 : i < b.length
      · have h2 : (i : Int) < (b.length : Int) := by omega
        rw [if_pos hb1] at hy
        have e0 : c + y = 0 + y + c := by omega
        have e4 : Int.tmod ((0 + y + c : Nat) : Int) 1000000000 = (((0 + y + c) % 1000000000 : Nat) : Int) := rfl
        have e5 : Int.tdiv ((0 + y + c : Nat) : Int) 1000000000 = (((0 + y + c) / 1000000000 : Nat) : Int) := rfl
        refine ⟨q, q1, q2, q3, ?_⟩
        simp only [spec_l02Add.l0, spec_l02Add.j1, h0, h1, h2, hpl, ← hy, wadd b4, e0, e4, e5, wnat b3, wadd1 bw, ↓reduceIte]
        exact q4
      · have h2 : ¬ ((i : Int) < (b.length : Int)) := by omega
        rw [if_neg hb1] at hy
        have hy0 : y = 0 := by omega
        subst hy0
        rw [List.take_of_length_le (show a.length ≤ i by omega), List.take_of_length_le (show b.length ≤ i by omega)] at hv
        by_cases hc0 : c = 0
        · subst hc0
          refine ⟨p, hD, by omega, by omega, ?_⟩
          have h3 : decide (((0 : Nat) : Int) > 0) = false := by decide
          simp only [spec_l02Add.l0, spec_l02Add.j1, h1, h2, h3, ↓reduceIte, Bool.false_eq_true]
        · have hc1 : c = 1 := by omega
          subst hc1
          have h3 : decide (((1 : Nat) : Int) > 0) = true := by decide
          have e4 : Int.tmod ((1 : Nat) : Int) 1000000000 = (((0 + 0 + 1) % 1000000000 : Nat) : Int) := rfl
          have e5 : Int.tdiv ((1 : Nat) : Int) 1000000000 = (((0 + 0 + 1) / 1000000000 : Nat) : Int) := rfl
          refine ⟨q, q1, q2, q3, ?_⟩
          simp only [spec_l02Add.l0, spec_l02Add.j1, h1, h2, h3, hpl, e4, e5, wnat b3, wadd1 bw, ↓reduceIte]
          exact q4
theorem spec_l02Add_ok (a b : List Int) (ha : Dig a) (hb : Dig b) (hal : a.length ≤ 1000) (hbl : b.length ≤ 1000) (k : Nat) (hk : 2200 < k) : ∃ q, Dig q ∧ q.length ≤ 1001 ∧ val q = val a + val b ∧ spec_l02Add.f k a b = some q := by
  have := spec_l02Add_l0 a b ha hb hal hbl 1001 0 [] 0 k (by omega) rfl (by omega) (by omega) Dig_nil (by omega) (by simp [val])
  exact this

theorem spec_l02Trim_l0 (l : List Int) (hl : l.length ≤ 1152921504606846976) : ∀ (i k : Nat), i ≤ l.length → i < k → spec_l02Trim.l0 k l (i : Int) = some (trimTo l i) := by
  intro i
  induction i with
  | zero =>
    intro k _ hk
    obtain ⟨k, rfl, _⟩ := fuel hk
    simp only [spec_l02Trim.l0, trimTo]
    rw [if_neg (by omega), if_pos (by omega), if_pos (by omega)]
    simp
  | succ i ih =>
    intro k hi hk
    obtain ⟨k, rfl, hk'⟩ := fuel hk
    simp only [spec_l02Trim.l0, trimTo]
    have e : ((i + 1 : Nat) : Int) - 1 = (i : Int) := by omega
    rw [if_pos (by omega), e, w64 (by omega) (by omega), if_pos (by omega), if_pos (by omega)]
    by_cases h0 : rd l (i : Int) = 0
    · rw [if_pos h0, if_pos h0]
      exact ih k (by omega) (by omega)
    · rw [if_neg h0, if_neg h0, if_pos (by omega), if_pos (by omega)]
      rfl
theorem spec_l02Trim_ok (l : List Int) (hl : l.length ≤ 1152921504606846976) (k : Nat) (hk : l.length < k) : spec_l02Trim.f k l = some (trim l) :=
  spec_l02Trim_l0 l hl l.length k (Nat.le_refl _) hk

theorem spec_l02Cap_ok (l : List Int) (hl : l.length ≤ 1152921504606846976) (k : Nat) (hk : l.length < k) : spec_l02Cap.f k l = some (if (trim l).length > 60 then [] else trim l) := by
  unfold spec_l02Cap.f
  rw [spec_l02Trim_ok l hl k hk]
  simp only [Option.bind_some]
  by_cases h : (trim l).length > 60
  · rw [if_pos (by omega), if_pos h]
  · rw [if_neg (by omega), if_neg h]

theorem impl_few_ok (l : List Int) (hl : l.length ≤ 1000000) : impl_few.f l = some (if l.length > 60 then [] else l) := by
  unfold impl_few.f slices_Clone_int_int.f
  by_cases h : l.length > 60
  · have h' : (l.length : Int) > 60 := by omega
    simp only [h, h', ↓reduceIte]
  · have h' : ¬ (l.length : Int) > 60 := by omega
    have h2 : l.length < 17592186044416 := by omega
    simp only [h, h', h2, ↓reduceIte, Option.bind_some]

def resNatAdd (a b : List Int) : List Int := if nok a = true ∧ nok b = true then capped (dg (val a + val b)) else []
theorem resNatAdd_len (a b : List Int) : (resNatAdd a b).length ≤ 60 := by
  unfold resNatAdd
  split
  · exact capped_le _
  · simp
theorem few_dg (n : Nat) : (if (dg n).length > 60 then [] else dg n) = capped (dg n) := by
  unfold capped
  rw [trim_dg]
theorem spec_NatAdd_ok (a b : List Int) (ha : a.length ≤ 1048576) (hb : b.length ≤ 1048576) (k : Nat) (hk : 1100000 < k) :
    spec_NatAdd.f k a b = some (resNatAdd a b) := by
  obtain ⟨k, rfl, hk'⟩ := fuel hk
  unfold spec_NatAdd.f resNatAdd
  simp only [spec_NatOk_ok a (by omega) _ (by omega : a.length < k + 1), spec_NatOk_ok b (by omega) _ (by omega : b.length < k + 1), Option.bind_some]
  cases h1 : nok a
  · simp [spec_NatAdd.j0]
  · cases h2 : nok b
    · simp [spec_NatAdd.j0]
    · have l1 := nok_len h1
      have l2 := nok_len h2
      simp only [↓reduceIte, Bool.not_true, spec_NatAdd.j0, Bool.false_eq_true, and_self]
      obtain ⟨q, q1, q2, q3, q4⟩ := spec_l02Add_ok a b (nok_Dig h1) (nok_Dig h2) (by omega) (by omega) k (by omega)
      rw [q4]
      simp only [Option.bind_some]
      rw [spec_l02Cap_ok _ (by omega) k (by omega)]
      simp only [Option.bind_some]
      rw [trim_dg_val q1, q3, few_dg]
theorem impl_NatAdd_ok (a b : List Int) (ha : a.length ≤ 1048576) (hb : b.length ≤ 1048576) (k : Nat) (hk : 1100000 < k) :
    impl_NatAdd.f k a b = some (resNatAdd a b) := by
  obtain ⟨k, rfl, hk'⟩ := fuel hk
  unfold impl_NatAdd.f resNatAdd
  simp only [impl_NatOk_ok, Option.bind_some]
  cases h1 : nok a
  · simp [impl_NatAdd.j0]
  · cases h2 : nok b
    · simp [impl_NatAdd.j0]
    · have l1 := nok_len h1
      have l2 := nok_len h2
      simp only [↓reduceIte, Bool.not_true, impl_NatAdd.j0, Bool.false_eq_true, and_self]
      rw [impl_plus_ok a b (nok_Dig h1) (nok_Dig h2) (by omega) (by omega) k (by omega)]
      simp only [Option.bind_some]
      have hl : (dg (val a + val b)).length ≤ 62 := by
        rw [dg_len_iff]
        have v1 := val_lt (nok_Dig h1)
        have v2 := val_lt (nok_Dig h2)
        have p1 : (1000000000 : Nat) ^ a.length ≤ 1000000000 ^ 60 := Nat.pow_le_pow_right (by omega) l1
        have p2 : (1000000000 : Nat) ^ b.length ≤ 1000000000 ^ 60 := Nat.pow_le_pow_right (by omega) l2
        have : (1000000000 : Nat) ^ 62 = 1000000000 ^ 60 * (1000000000 * 1000000000) := by rw [Nat.pow_succ, Nat.pow_succ, Nat.mul_assoc]
        rw [this]
        generalize (1000000000 : Nat) ^ 60 = P at *
        omega
      rw [impl_few_ok _ (by omega)]
      simp only [Option.bind_some]
      rw [few_dg]

theorem FnExactNatAdd : laws_FnExactNatAdd.Pure := by
  intro a b ⟨_, ha⟩ ⟨_, hb⟩
  refine ⟨1100100 + 1, ?_⟩
  obtain ⟨k, hk⟩ : ∃ k, k = 1100100 := ⟨_, rfl⟩
  rw [← hk]
  unfold laws_FnExactNatAdd.f
  by_cases h1 : (a.length : Int) > 1048576
  · simp only [h1, ↓reduceIte]
  · by_cases h2 : (b.length : Int) > 1048576
    · simp only [h1, h2, ↓reduceIte]
    · have hk1 : k ≤ 1100100 := by omega
      have hk2 : 1100099 < k := by omega
      clear hk
      obtain ⟨r, hr⟩ : ∃ r, r = resNatAdd a b := ⟨_, rfl⟩
      have hrl : r.length ≤ 60 := by rw [hr]; exact resNatAdd_len a b
      have e1 := spec_NatAdd_ok a b (by omega) (by omega) (k + 1) (by omega)
      have e2 := impl_NatAdd_ok a b (by omega) (by omega) (k + 1) (by omega)
      have e3 := impl_NatAdd_ok a b (by omega) (by omega) k (by omega)
      rw [← hr] at e1 e2 e3
      have m1 := markIntS_ok a 1 (k + 1) (by omega) (by omega) (by omega) (by omega)
      have m2 := markIntS_ok b (1 + (a.length : Int)) (k + 1) (by omega) (by omega) (by omega) (by omega)
      have c0 : ¬ (1 + (a.length : Int) + (b.length : Int) < 0) := by omega
      have c1 : ¬ (1 + (r.length : Int) < 0) := by omega
      simp only [h1, h2, ↓reduceIte, toIntS_ok a (by omega) (k + 1) (by omega), toIntS_ok b (by omega) (k + 1) (by omega), toIntS_ok a (by omega) k (by omega), toIntS_ok b (by omega) k (by omega), e1, e2, e3, Option.bind_some,
        eqIntS_same a (by omega) (k + 1) (by omega), eqIntS_same b (by omega) (k + 1) (by omega), eqIntS_same r (by omega) (k + 1) (by omega), eqIntS_same r (by omega) k (by omega), m1, m2, c0, c1, laws_FnExactNatAdd.j0, Bool.not_true, Bool.false_eq_true,
        markIntS_ok r 1 k (by omega) (by omega) (by omega) (by omega), heldIntS_ok r.length 1 k (by omega) (by omega) (by omega)]

end Go.Proofs.Ytmnahdoomnbdoaa.Pure
