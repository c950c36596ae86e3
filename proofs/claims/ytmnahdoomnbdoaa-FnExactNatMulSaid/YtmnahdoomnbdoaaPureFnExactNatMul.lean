/- The program's NatMul returns what the reference's returns, for every two slices of ints; no condition. -/
import Derived.Test.YtmnahdoomnbdoaaPFnExactNatMulx3
import Derived.Test.YtmnahdoomnbdoaaLb
import Derived.Test.YtmnahdoomnbdoaaNu
set_option linter.unusedVariables false
set_option linter.unusedSimpArgs false
namespace Go.Proofs.Ytmnahdoomnbdoaa.Pure
open Go.RowKit Go.Proofs.Ytmnahdoomnbdoaa.PFnExactNatMul Go.Proofs.YtmnahdoomnbdoaaW.PrintWords Go.Proofs.YtmnahdoomnbdoaaW.PrintLast Go.Proofs.Ytmnahdoomnbdoaa.Lb

theorem toIntS_l0 (l : List Int) (hl : l.length ≤ 1099511627776) : ∀ (d k i : Nat), i + d = l.length → d < k →
    laws_toIntS.l0 k l (l.take i ++ List.replicate d 0) (i : Int) = some l := by
  intro d
  induction d with
  | zero =>
    intro k i h hk
    obtain ⟨k, rfl, _⟩ := fuel hk
    simp only [laws_toIntS.l0]
    rw [if_neg (by omega)]
    simp [List.take_of_length_le (show l.length ≤ i by omega)]
  | succ d ih =>
    intro k i h hk
    obtain ⟨k, rfl, hk'⟩ := fuel hk
    simp only [laws_toIntS.l0]
    rw [if_pos (by omega), if_pos (by omega), if_pos (by rw [List.length_append, List.length_take, List.length_replicate]; omega)]
    rw [w64 (by omega) (by omega), Int.toNat_natCast, copy_step l i d h]
    exact ih k (i + 1) (by omega) (by omega)
theorem toIntS_ok (l : List Int) (hl : l.length ≤ 1099511627776) (k : Nat) (hk : l.length < k) : laws_toIntS.f k l = some l := by
  unfold laws_toIntS.f
  rw [if_pos (by omega), if_pos (by omega)]
  have := toIntS_l0 l hl l.length k 0 (by omega) hk
  simpa using this

theorem eqIntS_l0 (l : List Int) (hl : l.length ≤ 1152921504606846976) : ∀ (d k i : Nat), i + d = l.length → d < k →
    laws_eqIntS.l0 k l l (i : Int) = some true := by
  intro d
  induction d with
  | zero =>
    intro k i h hk
    obtain ⟨k, rfl, _⟩ := fuel hk
    simp only [laws_eqIntS.l0]
    rw [if_neg (by omega)]
  | succ d ih =>
    intro k i h hk
    obtain ⟨k, rfl, hk'⟩ := fuel hk
    simp only [laws_eqIntS.l0]
    rw [if_pos (by omega), if_pos (by omega), if_pos (by omega), if_pos trivial, w64 (by omega) (by omega)]
    exact ih k (i + 1) (by omega) (by omega)
theorem eqIntS_same (l : List Int) (hl : l.length ≤ 1152921504606846976) (k : Nat) (hk : l.length < k) : laws_eqIntS.f k l l = some true := by
  unfold laws_eqIntS.f
  rw [if_pos rfl]
  exact eqIntS_l0 l hl l.length k 0 (by omega) hk

theorem markIntS_l0 : ∀ (s p : List Int) (a : Int) (k : Nat), s.length < k → p.length + s.length ≤ 1152921504606846976 → 0 ≤ a → a + s.length ≤ 1152921504606846976 →
    laws_markIntS.l0 k (p ++ s) a (p.length : Int) = some (a + s.length, p ++ mk a s.length) := by
  intro s
  induction s with
  | nil =>
    intro p a k hk _ _ _
    obtain ⟨k, rfl, _⟩ := fuel hk
    simp only [laws_markIntS.l0]
    rw [if_neg (by simp)]
    simp [mk]
  | cons x s ih =>
    intro p a k hk hl h0 h1
    obtain ⟨k, rfl, hk'⟩ := fuel hk
    simp only [List.length_cons] at hl h1 hk'
    simp only [laws_markIntS.l0]
    rw [if_pos (by rw [List.length_append, List.length_cons]; omega), if_pos (by omega), w64 (by omega) (by omega), w64 (by omega) (by omega), Int.toNat_natCast, set_mid, ← len_snoc p a,
      ih (p ++ [a]) (a + 1) k (by omega) (by rw [List.length_append]; simp; omega) (by omega) (by omega)]
    simp only [List.length_cons, mk, List.append_assoc, List.singleton_append]
    congr 2
    omega
theorem markIntS_ok (l : List Int) (a : Int) (k : Nat) (hk : l.length < k) (h0 : 0 ≤ a) (h1 : a + l.length ≤ 1152921504606846976) (hl : l.length ≤ 1152921504606846976) :
    laws_markIntS.f k l a = some (a + l.length, mk a l.length) := by
  have := markIntS_l0 l [] a k hk (by simpa using hl) h0 h1
  simpa [laws_markIntS.f] using this

theorem heldIntS_l0 : ∀ (n : Nat) (p : List Int) (a : Int) (k : Nat), n < k → p.length + n ≤ 1152921504606846976 → 0 ≤ a → a + n ≤ 1152921504606846976 →
    laws_heldIntS.l0 k (p ++ mk a n) a (p.length : Int) = some (a + n) := by
  intro n
  induction n with
  | zero =>
    intro p a k hk _ _ _
    obtain ⟨k, rfl, _⟩ := fuel hk
    have h1 : ¬ ((p.length : Int) < ((p ++ mk a 0).length : Int)) := by simp [mk]
    simp only [laws_heldIntS.l0, h1, ↓reduceIte]
    simp
  | succ n ih =>
    intro p a k hk hl h0 h1
    obtain ⟨k, rfl, hk'⟩ := fuel hk
    have e : p ++ mk a (n + 1) = (p ++ [a]) ++ mk (a + 1) n := by simp [mk]
    have h1 : (p.length : Int) < ((p ++ mk a (n + 1)).length : Int) := by rw [List.length_append, mk_length]; omega
    have h2 : rd (p ++ mk a (n + 1)) (p.length : Int) = a := rd_mid _ _ _
    have h3 : (0 : Int) ≤ (p.length : Int) := by omega
    simp only [laws_heldIntS.l0, h1, h2, h3, ↓reduceIte]
    rw [w64 (by omega) (by omega), w64 (by omega) (by omega), ← len_snoc p a, e, ih (p ++ [a]) (a + 1) k (by omega) (by rw [List.length_append]; simp; omega) (by omega) (by omega)]
    congr 1
    omega
theorem heldIntS_ok (n : Nat) (a : Int) (k : Nat) (hk : n < k) (h0 : 0 ≤ a) (h1 : a + n ≤ 1152921504606846976) :
    laws_heldIntS.f k (mk a n) a = some (a + n) := by
  have := heldIntS_l0 n [] a k hk (by simp; omega) h0 h1
  simpa [laws_heldIntS.f] using this

theorem spec_in_ok (x : Int) : spec_l01In.f x 0 999999999 = some (inB x) := by
  unfold spec_l01In.f inB
  by_cases h : x ≥ 0
  · rw [if_pos h, decide_eq_true h, Bool.true_and]
  · rw [if_neg h, decide_eq_false h, Bool.false_and]
theorem spec_NatOk_l0 (l : List Int) (hl : l.length ≤ 1152921504606846976) : ∀ (d k i : Nat), i + d = l.length → d < k →
    spec_NatOk.l0 k l l (l.length : Int) (i : Int) = some ((l.drop i).all inB && (decide (l.length ≤ 60) && (l.isEmpty || !decide (rd l ((l.length : Int) - 1) = 0)))) := by
  intro d
  induction d with
  | zero =>
    intro k i h hk
    obtain ⟨k, rfl, _⟩ := fuel hk
    have h1 : ¬ ((i : Int) < (l.length : Int)) := by omega
    simp only [spec_NatOk.l0, h1, ↓reduceIte]
    rw [List.drop_of_length_le (by omega)]
    by_cases h2 : (l.length : Int) ≤ 60
    · have h2' : l.length ≤ 60 := by omega
      by_cases h3 : (l.length : Int) = 0
      · have : l = [] := List.length_eq_zero_iff.mp (by omega)
        subst this
        simp
      · have h4 : (0 : Int) ≤ wrap64 ((l.length : Int) - 1) := by rw [w64 (by omega) (by omega)]; omega
        have h5 : wrap64 ((l.length : Int) - 1) < (l.length : Int) := by rw [w64 (by omega) (by omega)]; omega
        have h6 : l.isEmpty = false := by cases l with | nil => simp at h3 | cons _ _ => rfl
        simp only [h2, h3, h4, h5, h6, ↓reduceIte, h2', decide_true, List.all_nil, Bool.true_and, Bool.false_or]
        rw [w64 (by omega) (by omega)]
        congr 1
    · have h2' : ¬ l.length ≤ 60 := by omega
      simp [h2, h2']
  | succ d ih =>
    intro k i h hk
    obtain ⟨k, rfl, hk'⟩ := fuel hk
    have h1 : (i : Int) < (l.length : Int) := by omega
    have h2 : (0 : Int) ≤ (i : Int) := by omega
    have w : wrap64 ((i : Int) + 1) = ((i + 1 : Nat) : Int) := by rw [w64 (by omega) (by omega)]; omega
    have e : l.drop i = rd l i :: l.drop (i + 1) := drop_rd l i (by omega)
    simp only [spec_NatOk.l0, h1, h2, ↓reduceIte, spec_in_ok, Option.bind_some, w, ih k (i + 1) (by omega) (by omega), e, List.all_cons]
    cases inB (rd l (i : Int)) <;> simp
theorem spec_NatOk_ok (l : List Int) (hl : l.length ≤ 1152921504606846976) (k : Nat) (hk : l.length < k) : spec_NatOk.f k l = some (nok l) := by
  have := spec_NatOk_l0 l hl l.length k 0 (by omega) hk
  unfold spec_NatOk.f
  refine this.trans ?_
  rw [List.drop_zero, Bool.and_comm]; rfl

theorem impl_NatOk_ok (l : List Int) : impl_NatOk.f l = some (nok l) := by
  unfold impl_NatOk.f Ext.natOkB nok
  congr 2
  rw [Bool.eq_iff_iff]
  simp only [Bool.not_eq_true', List.any_eq_false, List.all_eq_true, Ext.badB, inB, Bool.or_eq_true, Bool.and_eq_true, decide_eq_true_iff]
  constructor
  · intro h x hx
    have := h x hx
    omega
  · intro h x hx
    have := h x hx
    omega

theorem impl_trim_l0 (l : List Int) (hl : l.length ≤ 1152921504606846976) : ∀ (i k : Nat), i ≤ l.length → i < k → impl_trim.l0 k (l.take i) = some (trimTo l i) := by
  intro i
  induction i with
  | zero =>
    intro k _ hk
    obtain ⟨k, rfl, _⟩ := fuel hk
    simp [impl_trim.l0, trimTo]
  | succ i ih =>
    intro k hi hk
    obtain ⟨k, rfl, hk'⟩ := fuel hk
    have hlen : (l.take (i + 1)).length = i + 1 := by rw [List.length_take]; omega
    have e : (((i + 1 : Nat)) : Int) - 1 = (i : Int) := by omega
    have w : wrap64 (((i + 1 : Nat) : Int) - 1) = (i : Int) := by rw [e]; exact w64 (by omega) (by omega)
    have h1 : (((i + 1 : Nat)) : Int) > 0 := by omega
    have h2 : (0 : Int) ≤ (i : Int) := by omega
    have h3 : (i : Int) < (((i + 1 : Nat)) : Int) := by omega
    have h4 : (i : Int) ≤ (((i + 1 : Nat)) : Int) := by omega
    have r : rd (l.take (i + 1)) (i : Int) = rd l (i : Int) := rd_take l (by omega)
    simp only [impl_trim.l0, hlen, w, h1, h2, h3, h4, r, ↓reduceIte, Int.toNat_natCast, List.take_take, Nat.min_eq_left (Nat.le_succ i), trimTo]
    by_cases c : rd l (i : Int) = 0
    · simp only [c, ↓reduceIte]
      exact ih k (by omega) (by omega)
    · simp only [c, ↓reduceIte]
theorem impl_trim_ok (l : List Int) (hl : l.length ≤ 1152921504606846976) (k : Nat) (hk : l.length < k) : impl_trim.f k l = some (trim l) := by
  have := impl_trim_l0 l hl l.length k (Nat.le_refl _) hk
  rw [List.take_length] at this
  exact this

/-- One row of the product: out has a row of limbs, b from place j on times n, plus the carry, added from place i + j on. -/
theorem impl_times_l1 (a b : List Int) (hb : Dig b) (hbl : b.length ≤ 1000) (hal : a.length ≤ 1000) (n i : Nat) (hn : n ≤ 999999999) (x28 : Int) : ∀ (d j : Nat) (out : List Int) (c k : Nat), j + d = b.length → d < k → c ≤ 999999999 → Dig out → out.length ≤ 2000 → i + b.length < out.length → (∀ t, i + b.length ≤ t → t < out.length → rd out (t : Int) = 0) →
    ∃ out', out'.length = out.length ∧ Dig out' ∧ val out' = val out + (n * val (b.drop j) + c) * 1000000000 ^ (i + j) ∧ (∀ t, i + b.length < t → t < out.length → rd out' (t : Int) = 0) ∧
      impl_times.l1 k b out (i : Int) (n : Int) (c : Int) a (a.length : Int) x28 b (b.length : Int) (j : Int) = impl_times.l0 (k - d - 1) b out' a (a.length : Int) (wrap64 (x28 + 1)) := by
  intro d
  induction d with
  | zero =>
    intro j out c k hj hk hc hD hol hil hz
    obtain ⟨k, rfl, _⟩ := fuel hk
    have ej : j = b.length := by omega
    subst ej
    have h1 : ¬ ((b.length : Int) < (b.length : Int)) := by omega
    have w : wrap64 ((i : Int) + (b.length : Int)) = ((i + b.length : Nat) : Int) := by rw [w64 (by omega) (by omega)]; omega
    have h2 : (0 : Int) ≤ ((i + b.length : Nat) : Int) := by omega
    have h3 : ((i + b.length : Nat) : Int) < (out.length : Int) := by omega
    refine ⟨out.set (i + b.length) (c : Int), by rw [List.length_set], Dig_set hD _ (by omega), ?_, ?_, ?_⟩
    · have := val_set out (i + b.length) hil (c : Int)
      rw [hz (i + b.length) (Nat.le_refl _) hil] at this
      simp only [Int.toNat_zero, Nat.zero_mul, Nat.add_zero, Int.toNat_natCast] at this
      rw [this, List.drop_length]
      simp [val]
    · intro t ht ht2
      rw [rd_set_ne _ _ _ _ (by omega)]
      exact hz t (by omega) ht2
    · simp only [impl_times.l1, h1, w, h2, h3, ↓reduceIte, Int.toNat_natCast, Nat.sub_zero, Nat.add_sub_cancel]
  | succ d ih =>
    intro j out c k hj hk hc hD hol hil hz
    obtain ⟨k, rfl, hk'⟩ := fuel hk
    have h1 : (j : Int) < (b.length : Int) := by omega
    have h2 : (0 : Int) ≤ (j : Int) := by omega
    have h3 : (0 : Int) ≤ ((i + j : Nat) : Int) := by omega
    have h4 : ((i + j : Nat) : Int) < (out.length : Int) := by omega
    have h5 : i + j < out.length := by omega
    have vs := val_set out (i + j) h5
    have ro := Dig_rd hD (i + j)
    have rb := Dig_rd hb j
    have ed : val (b.drop j) = (rd b (j : Int)).toNat + 1000000000 * val (b.drop (j + 1)) := by rw [drop_rd b j (by omega)]; rfl
    obtain ⟨o, ho⟩ : ∃ o : Nat, rd out ((i + j : Nat) : Int) = o := ⟨(rd out ((i + j : Nat) : Int)).toNat, by omega⟩
    obtain ⟨m, hm⟩ : ∃ m : Nat, rd b (j : Int) = m := ⟨(rd b (j : Int)).toNat, by omega⟩
    rw [ho] at ro
    rw [hm] at rb ed
    have hm9 : m ≤ 999999999 := by omega
    have hnm : n * m ≤ 999999998000000001 := Nat.mul_le_mul hn hm9
    obtain ⟨s, hs⟩ : ∃ s, n * m = s := ⟨_, rfl⟩
    rw [hs] at hnm
    have b1 : i + j ≤ 9223372036854775807 := by omega
    have b2 : j + 1 ≤ 9223372036854775807 := by omega
    have b3 : s ≤ 9223372036854775807 := by omega
    have b4 : o + s ≤ 9223372036854775807 := by omega
    have b5 : o + s + c ≤ 9223372036854775807 := by omega
    have b6 : (o + s + c) / 1000000000 ≤ 9223372036854775807 := by omega
    have b7 : (o + s + c) / 1000000000 ≤ 999999999 := by omega
    have b8 : (0 : Int) ≤ (((o + s + c) % 1000000000 : Nat) : Int) ∧ (((o + s + c) % 1000000000 : Nat) : Int) ≤ 999999999 := by omega
    obtain ⟨out', g1, g2, g3, g4, g5⟩ := ih (j + 1) (out.set (i + j) (((o + s + c) % 1000000000 : Nat) : Int)) ((o + s + c) / 1000000000) k (by omega) (by omega) b7 (Dig_set hD _ b8) (by rw [List.length_set]; exact hol) (by rw [List.length_set]; exact hil) (by
      intro t ht ht2
      rw [List.length_set] at ht2
      rw [rd_set_ne _ _ _ _ (by omega)]
      exact hz t ht ht2)
    rw [List.length_set] at g1 g4
    refine ⟨out', g1, g2, ?_, g4, ?_⟩
    · have v := vs (((o + s + c) % 1000000000 : Nat) : Int)
      rw [ho] at v
      simp only [Int.toNat_natCast] at v ed
      rw [g3, ed]
      have hx : 1000000000 * ((o + s + c) / 1000000000) + (o + s + c) % 1000000000 = o + s + c := Nat.div_add_mod _ _
      rw [show i + (j + 1) = (i + j) + 1 by omega, Nat.pow_succ]
      generalize (o + s + c) / 1000000000 = q at *
      generalize (o + s + c) % 1000000000 = r at *
      generalize 1000000000 ^ (i + j) = P at *
      clear vs ih g5 g4 hz
      grind
    · have e4 : Int.tmod ((o + s + c : Nat) : Int) 1000000000 = (((o + s + c) % 1000000000 : Nat) : Int) := rfl
      have e5 : Int.tdiv ((o + s + c : Nat) : Int) 1000000000 = (((o + s + c) / 1000000000 : Nat) : Int) := rfl
      have e7 : k + 1 - (d + 1) - 1 = k - d - 1 := by omega
      simp only [impl_times.l1, h1, h2, wadd b1, h3, h4, ho, hm, wmul hs b3, wadd b4, wadd b5, e4, e5, wnat b6, wadd1 b2, ↓reduceIte, Int.toNat_natCast]
      rw [g5, e7]
theorem impl_times_l0 (a b : List Int) (ha : Dig a) (hb : Dig b) (hbl : b.length ≤ 1000) (hal : a.length ≤ 1000) : ∀ (d i : Nat) (out : List Int) (k : Nat), i + d = a.length → d * (b.length + 2) + 2100 < k → Dig out → out.length = a.length + b.length → (∀ t, i + b.length ≤ t → t < out.length → rd out (t : Int) = 0) →
    impl_times.l0 k b out a (a.length : Int) (i : Int) = some (dg (val out + val (a.drop i) * val b * 1000000000 ^ i)) := by
  intro d
  induction d with
  | zero =>
    intro i out k hi hk hD hol hz
    obtain ⟨k, rfl, _⟩ := fuel hk
    have ei : i = a.length := by omega
    subst ei
    have h1 : ¬ ((a.length : Int) < (a.length : Int)) := by omega
    simp only [impl_times.l0, h1, ↓reduceIte, impl_trim_ok out (by omega) k (by omega), Option.bind_some]
    rw [trim_dg_val hD, List.drop_length]
    simp [val]
  | succ d ih =>
    intro i out k hi hk hD hol hz
    obtain ⟨k, rfl, hk'⟩ := fuel hk
    have h1 : (i : Int) < (a.length : Int) := by omega
    have h2 : (0 : Int) ≤ (i : Int) := by omega
    have w2 : wrap64 ((i : Int) + 1) = ((i + 1 : Nat) : Int) := by rw [w64 (by omega) (by omega)]; omega
    have ra := Dig_rd ha i
    have ed : val (a.drop i) = (rd a (i : Int)).toNat + 1000000000 * val (a.drop (i + 1)) := by rw [drop_rd a i (by omega)]; rfl
    obtain ⟨n, hn⟩ : ∃ n : Nat, rd a (i : Int) = n := ⟨(rd a (i : Int)).toNat, by omega⟩
    rw [hn] at ra ed
    have hmul : (d + 1) * (b.length + 2) = d * (b.length + 2) + b.length + 2 := by rw [Nat.succ_mul]; omega
    obtain ⟨out', g1, g2, g3, g4, g5⟩ := impl_times_l1 a b hb hbl hal n i (by omega) (i : Int) b.length 0 out 0 k (by omega) (by omega) (by omega) hD (by omega) (by omega) hz
    have g5' : impl_times.l1 k b out (i : Int) (n : Int) 0 a (a.length : Int) (i : Int) b (b.length : Int) 0 = impl_times.l0 (k - b.length - 1) b out' a (a.length : Int) (wrap64 ((i : Int) + 1)) := g5
    simp only [impl_times.l0, h1, h2, hn, ↓reduceIte]
    rw [g5', w2, ih (i + 1) out' (k - b.length - 1) (by omega) (by omega) g2 (by omega) (by
      intro t ht ht2
      exact g4 t (by omega) (by omega))]
    rw [g3, List.drop_zero, ed, Nat.pow_succ]
    simp only [Int.toNat_natCast, Nat.add_zero]
    congr 2
    generalize 1000000000 ^ i = P
    grind
theorem impl_times_ok (a b : List Int) (ha : Dig a) (hb : Dig b) (hal : a.length ≤ 1000) (hbl : b.length ≤ 1000) (k : Nat) (hk : 1010000 < k) : impl_times.f k a b = some (dg (val a * val b)) := by
  have hm : a.length * (b.length + 2) ≤ 1000 * 1002 := Nat.mul_le_mul hal (by omega)
  obtain ⟨k, rfl, hk'⟩ := fuel hk
  unfold impl_times.f
  by_cases h1 : (a.length : Int) = 0
  · have : a = [] := List.length_eq_zero_iff.mp (by omega)
    subst this
    simp [impl_times.j0, val, dg_zero]
  · by_cases h2 : (b.length : Int) = 0
    · have : b = [] := List.length_eq_zero_iff.mp (by omega)
      subst this
      simp [impl_times.j0, val, dg_zero, h1]
    · have h3 : ((b.length : Int) == 0) = false := beq_eq_false_iff_ne.mpr h2
      have w : wrap64 ((a.length : Int) + (b.length : Int)) = ((a.length + b.length : Nat) : Int) := by rw [w64 (by omega) (by omega)]; omega
      have h4 : (0 : Int) ≤ ((a.length + b.length : Nat) : Int) := by omega
      have h5 : a.length + b.length ≤ 35184372088832 := by omega
      simp only [impl_times.j0, h1, h3, w, h4, h5, ↓reduceIte, Int.toNat_natCast, Bool.false_eq_true]
      have := impl_times_l0 a b ha hb hbl hal a.length 0 (List.replicate (a.length + b.length) 0) k (by omega) (by omega) (Dig_rep _) (by simp) (by
        intro t _ ht
        rw [rd_nat, List.getD_eq_getElem?_getD]
        rw [List.length_replicate] at ht
        simp [List.getElem?_replicate, ht])
      have this' : impl_times.l0 k b (List.replicate (a.length + b.length) 0) a (a.length : Int) 0 = _ := this
      rw [this', val_rep, List.drop_zero]
      simp

theorem spec_l02Trim_l0 (l : List Int) (hl : l.length ≤ 1152921504606846976) : ∀ (i k : Nat), i ≤ l.length → i < k → spec_l02Trim.l0 k l (i : Int) = some (trimTo l i) := by
  intro i
  induction i with
  | zero =>
    intro k _ hk
    obtain ⟨k, rfl, _⟩ := fuel hk
    simp only [spec_l02Trim.l0, trimTo]
    rw [if_neg (by omega), if_pos (by omega), if_pos (by omega)]
    simp
  | succ i ih =>
    intro k hi hk
    obtain ⟨k, rfl, hk'⟩ := fuel hk
    simp only [spec_l02Trim.l0, trimTo]
    have e : ((i + 1 : Nat) : Int) - 1 = (i : Int) := by omega
    rw [if_pos (by omega), e, w64 (by omega) (by omega), if_pos (by omega), if_pos (by omega)]
    by_cases h0 : rd l (i : Int) = 0
    · rw [if_pos h0, if_pos h0]
      exact ih k (by omega) (by omega)
    · rw [if_neg h0, if_neg h0, if_pos (by omega), if_pos (by omega)]
      rfl
theorem spec_l02Trim_ok (l : List Int) (hl : l.length ≤ 1152921504606846976) (k : Nat) (hk : l.length < k) : spec_l02Trim.f k l = some (trim l) :=
  spec_l02Trim_l0 l hl l.length k (Nat.le_refl _) hk

/-- One row of the product: out has a row of limbs, b from place j on times n, plus the carry, added from place i + j on. -/
theorem spec_l02Mul_l1 (a b : List Int) (hb : Dig b) (hbl : b.length ≤ 1000) (hal : a.length ≤ 1000) (n i : Nat) (hn : n ≤ 999999999) (x28 : Int) : ∀ (d j : Nat) (out : List Int) (c k : Nat), j + d = b.length → d < k → c ≤ 999999999 → Dig out → out.length ≤ 2000 → i + b.length < out.length → (∀ t, i + b.length ≤ t → t < out.length → rd out (t : Int) = 0) →
    ∃ out', out'.length = out.length ∧ Dig out' ∧ val out' = val out + (n * val (b.drop j) + c) * 1000000000 ^ (i + j) ∧ (∀ t, i + b.length < t → t < out.length → rd out' (t : Int) = 0) ∧
      spec_l02Mul.l1 k b out (i : Int) (n : Int) (c : Int) a (a.length : Int) x28 b (b.length : Int) (j : Int) = spec_l02Mul.l0 (k - d - 1) b out' a (a.length : Int) (wrap64 (x28 + 1)) := by
  intro d
  induction d with
  | zero =>
    intro j out c k hj hk hc hD hol hil hz
    obtain ⟨k, rfl, _⟩ := fuel hk
    have ej : j = b.length := by omega
    subst ej
    have h1 : ¬ ((b.length : Int) < (b.length : Int)) := by omega
    have w : wrap64 ((i : Int) + (b.length : Int)) = ((i + b.length : Nat) : Int) := by rw [w64 (by omega) (by omega)]; omega
    have h2 : (0 : Int) ≤ ((i + b.length : Nat) : Int) := by omega
    have h3 : ((i + b.length : Nat) : Int) < (out.length : Int) := by omega
    refine ⟨out.set (i + b.length) (c : Int), by rw [List.length_set], Dig_set hD _ (by omega), ?_, ?_, ?_⟩
    · have := val_set out (i + b.length) hil (c : Int)
      rw [hz (i + b.length) (Nat.le_refl _) hil] at this
      simp only [Int.toNat_zero, Nat.zero_mul, Nat.add_zero, Int.toNat_natCast] at this
      rw [this, List.drop_length]
      simp [val]
    · intro t ht ht2
      rw [rd_set_ne _ _ _ _ (by omega)]
      exact hz t (by omega) ht2
    · simp only [spec_l02Mul.l1, h1, w, h2, h3, ↓reduceIte, Int.toNat_natCast, Nat.sub_zero, Nat.add_sub_cancel]
  | succ d ih =>
    intro j out c k hj hk hc hD hol hil hz
    obtain ⟨k, rfl, hk'⟩ := fuel hk
    have h1 : (j : Int) < (b.length : Int) := by omega
    have h2 : (0 : Int) ≤ (j : Int) := by omega
    have h3 : (0 : Int) ≤ ((i + j : Nat) : Int) := by omega
    have h4 : ((i + j : Nat) : Int) < (out.length : Int) := by omega
    have h5 : i + j < out.length := by omega
    have vs := val_set out (i + j) h5
    have ro := Dig_rd hD (i + j)
    have rb := Dig_rd hb j
    have ed : val (b.drop j) = (rd b (j : Int)).toNat + 1000000000 * val (b.drop (j + 1)) := by rw [drop_rd b j (by omega)]; rfl
    obtain ⟨o, ho⟩ : ∃ o : Nat, rd out ((i + j : Nat) : Int) = o := ⟨(rd out ((i + j : Nat) : Int)).toNat, by omega⟩
    obtain ⟨m, hm⟩ : ∃ m : Nat, rd b (j : Int) = m := ⟨(rd b (j : Int)).toNat, by omega⟩
    rw [ho] at ro
    rw [hm] at rb ed
    have hm9 : m ≤ 999999999 := by omega
    have hnm : n * m ≤ 999999998000000001 := Nat.mul_le_mul hn hm9
    obtain ⟨s, hs⟩ : ∃ s, n * m = s := ⟨_, rfl⟩
    rw [hs] at hnm
    have b1 : i + j ≤ 9223372036854775807 := by omega
    have b2 : j + 1 ≤ 9223372036854775807 := by omega
    have b3 : s ≤ 9223372036854775807 := by omega
    have b4 : o + s ≤ 9223372036854775807 := by omega
    have b5 : o + s + c ≤ 9223372036854775807 := by omega
    have b6 : (o + s + c) / 1000000000 ≤ 9223372036854775807 := by omega
    have b7 : (o + s + c) / 1000000000 ≤ 999999999 := by omega
    have b8 : (0 : Int) ≤ (((o + s + c) % 1000000000 : Nat) : Int) ∧ (((o + s + c) % 1000000000 : Nat) : Int) ≤ 999999999 := by omega
    obtain ⟨out', g1, g2, g3, g4, g5⟩ := ih (j + 1) (out.set (i + j) (((o + s + c) % 1000000000 : Nat) : Int)) ((o + s + c) / 1000000000) k (by omega) (by omega) b7 (Dig_set hD _ b8) (by rw [List.length_set]; exact hol) (by rw [List.length_set]; exact hil) (by
      intro t ht ht2
      rw [List.length_set] at ht2
      rw [rd_set_ne _ _ _ _ (by omega)]
      exact hz t ht ht2)
    rw [List.length_set] at g1 g4
    refine ⟨out', g1, g2, ?_, g4, ?_⟩
    · have v := vs (((o + s + c) % 1000000000 : Nat) : Int)
      rw [ho] at v
      simp only [Int.toNat_natCast] at v ed
      rw [g3, ed]
      have hx : 1000000000 * ((o + s + c) / 1000000000) + (o + s + c) % 1000000000 = o + s + c := Nat.div_add_mod _ _
      rw [show i + (j + 1) = (i + j) + 1 by omega, Nat.pow_succ]
      generalize (o + s + c) / 1000000000 = q at *
      generalize (o + s + c) % 1000000000 = r at *
      generalize 1000000000 ^ (i + j) = P at *
      clear vs ih g5 g4 hz
      grind
    · have e4 : Int.tmod ((o + s + c : Nat) : Int) 1000000000 = (((o + s + c) % 1000000000 : Nat) : Int) := rfl
      have e5 : Int.tdiv ((o + s + c : Nat) : Int) 1000000000 = (((o + s + c) / 1000000000 : Nat) : Int) := rfl
      have e7 : k + 1 - (d + 1) - 1 = k - d - 1 := by omega
      simp only [spec_l02Mul.l1, h1, h2, wadd b1, h3, h4, ho, hm, wmul hs b3, wadd b4, wadd b5, e4, e5, wnat b6, wadd1 b2, ↓reduceIte, Int.toNat_natCast]
      rw [g5, e7]
theorem spec_l02Mul_l0 (a b : List Int) (ha : Dig a) (hb : Dig b) (hbl : b.length ≤ 1000) (hal : a.length ≤ 1000) : ∀ (d i : Nat) (out : List Int) (k : Nat), i + d = a.length → d * (b.length + 2) + 2100 < k → Dig out → out.length = a.length + b.length → (∀ t, i + b.length ≤ t → t < out.length → rd out (t : Int) = 0) →
    spec_l02Mul.l0 k b out a (a.length : Int) (i : Int) = some (dg (val out + val (a.drop i) * val b * 1000000000 ^ i)) := by
  intro d
  induction d with
  | zero =>
    intro i out k hi hk hD hol hz
    obtain ⟨k, rfl, _⟩ := fuel hk
    have ei : i = a.length := by omega
    subst ei
    have h1 : ¬ ((a.length : Int) < (a.length : Int)) := by omega
    simp only [spec_l02Mul.l0, h1, ↓reduceIte, spec_l02Trim_ok out (by omega) k (by omega), Option.bind_some]
    rw [trim_dg_val hD, List.drop_length]
    simp [val]
  | succ d ih =>
    intro i out k hi hk hD hol hz
    obtain ⟨k, rfl, hk'⟩ := fuel hk
    have h1 : (i : Int) < (a.length : Int) := by omega
    have h2 : (0 : Int) ≤ (i : Int) := by omega
    have w2 : wrap64 ((i : Int) + 1) = ((i + 1 : Nat) : Int) := by rw [w64 (by omega) (by omega)]; omega
    have ra := Dig_rd ha i
    have ed : val (a.drop i) = (rd a (i : Int)).toNat + 1000000000 * val (a.drop (i + 1)) := by rw [drop_rd a i (by omega)]; rfl
    obtain ⟨n, hn⟩ : ∃ n : Nat, rd a (i : Int) = n := ⟨(rd a (i : Int)).toNat, by omega⟩
    rw [hn] at ra ed
    have hmul : (d + 1) * (b.length + 2) = d * (b.length + 2) + b.length + 2 := by rw [Nat.succ_mul]; omega
    obtain ⟨out', g1, g2, g3, g4, g5⟩ := spec_l02Mul_l1 a b hb hbl hal n i (by omega) (i : Int) b.length 0 out 0 k (by omega) (by omega) (by omega) hD (by omega) (by omega) hz
    have g5' : spec_l02Mul.l1 k b out (i : Int) (n : Int) 0 a (a.length : Int) (i : Int) b (b.length : Int) 0 = spec_l02Mul.l0 (k - b.length - 1) b out' a (a.length : Int) (wrap64 ((i : Int) + 1)) := g5
    simp only [spec_l02Mul.l0, h1, h2, hn, ↓reduceIte]
    rw [g5', w2, ih (i + 1) out' (k - b.length - 1) (by omega) (by omega) g2 (by omega) (by
      intro t ht ht2
      exact g4 t (by omega) (by omega))]
    rw [g3, List.drop_zero, ed, Nat.pow_succ]
    simp only [Int.toNat_natCast, Nat.add_zero]
    congr 2
    generalize 1000000000 ^ i = P
    grind
theorem spec_l02Mul_ok (a b : List Int) (ha : Dig a) (hb : Dig b) (hal : a.length ≤ 1000) (hbl : b.length ≤ 1000) (k : Nat) (hk : 1010000 < k) : spec_l02Mul.f k a b = some (dg (val a * val b)) := by
  have hm : a.length * (b.length + 2) ≤ 1000 * 1002 := Nat.mul_le_mul hal (by omega)
  obtain ⟨k, rfl, hk'⟩ := fuel hk
  unfold spec_l02Mul.f
  by_cases h1 : (a.length : Int) = 0
  · have : a = [] := List.length_eq_zero_iff.mp (by omega)
    subst this
    simp [spec_l02Mul.j0, val, dg_zero]
  · by_cases h2 : (b.length : Int) = 0
    · have : b = [] := List.length_eq_zero_iff.mp (by omega)
      subst this
      simp [spec_l02Mul.j0, val, dg_zero, h1]
    · have h3 : ((b.length : Int) == 0) = false := beq_eq_false_iff_ne.mpr h2
      have w : wrap64 ((a.length : Int) + (b.length : Int)) = ((a.length + b.length : Nat) : Int) := by rw [w64 (by omega) (by omega)]; omega
      have h4 : (0 : Int) ≤ ((a.length + b.length : Nat) : Int) := by omega
      have h5 : a.length + b.length ≤ 35184372088832 := by omega
      simp only [spec_l02Mul.j0, h1, h3, w, h4, h5, ↓reduceIte, Int.toNat_natCast, Bool.false_eq_true]
      have := spec_l02Mul_l0 a b ha hb hbl hal a.length 0 (List.replicate (a.length + b.length) 0) k (by omega) (by omega) (Dig_rep _) (by simp) (by
        intro t _ ht
        rw [rd_nat, List.getD_eq_getElem?_getD]
        rw [List.length_replicate] at ht
        simp [List.getElem?_replicate, ht])
      have this' : spec_l02Mul.l0 k b (List.replicate (a.length + b.length) 0) a (a.length : Int) 0 = _ := this
      rw [this', val_rep, List.drop_zero]
      simp

theorem spec_l02Cap_ok (l : List Int) (hl : l.length ≤ 1152921504606846976) (k : Nat) (hk : l.length < k) : spec_l02Cap.f k l = some (if (trim l).length > 60 then [] else trim l) := by
  unfold spec_l02Cap.f
  rw [spec_l02Trim_ok l hl k hk]
  simp only [Option.bind_some]
  by_cases h : (trim l).length > 60
  · rw [if_pos (by omega), if_pos h]
  · rw [if_neg (by omega), if_neg h]

theorem impl_few_ok (l : List Int) (hl : l.length ≤ 1000000) : impl_few.f l = some (if l.length > 60 then [] else l) := by
  unfold impl_few.f slices_Clone_int_int.f
  by_cases h : l.length > 60
  · have h' : (l.length : Int) > 60 := by omega
    simp only [h, h', ↓reduceIte]
  · have h' : ¬ (l.length : Int) > 60 := by omega
    have h2 : l.length < 17592186044416 := by omega
    simp only [h, h', h2, ↓reduceIte, Option.bind_some]

def resNatMul (a b : List Int) : List Int := if nok a = true ∧ nok b = true then capped (dg (val a * val b)) else []
theorem resNatMul_len (a b : List Int) : (resNatMul a b).length ≤ 60 := by
  unfold resNatMul
  split
  · exact capped_le _
  · simp
theorem few_dg (n : Nat) : (if (dg n).length > 60 then [] else dg n) = capped (dg n) := by
  unfold capped
  rw [trim_dg]
theorem spec_NatMul_ok (a b : List Int) (ha : a.length ≤ 1048576) (hb : b.length ≤ 1048576) (k : Nat) (hk : 1100000 < k) :
    spec_NatMul.f k a b = some (resNatMul a b) := by
  obtain ⟨k, rfl, hk'⟩ := fuel hk
  unfold spec_NatMul.f resNatMul
  simp only [spec_NatOk_ok a (by omega) _ (by omega : a.length < k + 1), spec_NatOk_ok b (by omega) _ (by omega : b.length < k + 1), Option.bind_some]
  cases h1 : nok a
  · simp [spec_NatMul.j0]
  · cases h2 : nok b
    · simp [spec_NatMul.j0]
    · have l1 := nok_len h1
      have l2 := nok_len h2
      simp only [↓reduceIte, Bool.not_true, spec_NatMul.j0, Bool.false_eq_true, and_self]
      rw [spec_l02Mul_ok a b (nok_Dig h1) (nok_Dig h2) (by omega) (by omega) k (by omega)]
      simp only [Option.bind_some]
      have hl : (dg (val a * val b)).length ≤ 120 := by
        rw [dg_len_iff]
        have v1 := val_lt (nok_Dig h1)
        have v2 := val_lt (nok_Dig h2)
        have p1 : (1000000000 : Nat) ^ a.length ≤ 1000000000 ^ 60 := Nat.pow_le_pow_right (by omega) l1
        have p2 : (1000000000 : Nat) ^ b.length ≤ 1000000000 ^ 60 := Nat.pow_le_pow_right (by omega) l2
        exact Nat.lt_of_lt_of_le (Nat.mul_lt_mul'' (Nat.lt_of_lt_of_le v1 p1) (Nat.lt_of_lt_of_le v2 p2)) (by rw [← Nat.pow_add]; exact Nat.le_refl _)
      rw [spec_l02Cap_ok _ (by omega) k (by omega)]
      rfl
theorem impl_NatMul_ok (a b : List Int) (ha : a.length ≤ 1048576) (hb : b.length ≤ 1048576) (k : Nat) (hk : 1100000 < k) :
    impl_NatMul.f k a b = some (resNatMul a b) := by
  obtain ⟨k, rfl, hk'⟩ := fuel hk
  unfold impl_NatMul.f resNatMul
  simp only [impl_NatOk_ok, Option.bind_some]
  cases h1 : nok a
  · simp [impl_NatMul.j0]
  · cases h2 : nok b
    · simp [impl_NatMul.j0]
    · have l1 := nok_len h1
      have l2 := nok_len h2
      simp only [↓reduceIte, Bool.not_true, impl_NatMul.j0, Bool.false_eq_true, and_self]
      rw [impl_times_ok a b (nok_Dig h1) (nok_Dig h2) (by omega) (by omega) k (by omega)]
      simp only [Option.bind_some]
      have hl : (dg (val a * val b)).length ≤ 120 := by
        rw [dg_len_iff]
        have v1 := val_lt (nok_Dig h1)
        have v2 := val_lt (nok_Dig h2)
        have p1 : (1000000000 : Nat) ^ a.length ≤ 1000000000 ^ 60 := Nat.pow_le_pow_right (by omega) l1
        have p2 : (1000000000 : Nat) ^ b.length ≤ 1000000000 ^ 60 := Nat.pow_le_pow_right (by omega) l2
        exact Nat.lt_of_lt_of_le (Nat.mul_lt_mul'' (Nat.lt_of_lt_of_le v1 p1) (Nat.lt_of_lt_of_le v2 p2)) (by rw [← Nat.pow_add]; exact Nat.le_refl _)
      rw [impl_few_ok _ (by omega)]
      simp only [Option.bind_some]
      rw [few_dg]

theorem FnExactNatMul : laws_FnExactNatMul.Pure := by
  intro a b ⟨_, ha⟩ ⟨_, hb⟩
  refine ⟨1100100 + 1, ?_⟩
  obtain ⟨k, hk⟩ : ∃ k, k = 1100100 := ⟨_, rfl⟩
  rw [← hk]
  unfold laws_FnExactNatMul.f
  by_cases h1 : (a.length : Int) > 1048576
  · simp only [h1, ↓reduceIte]
  · by_cases h2 : (b.length : Int) > 1048576
    · simp only [h1, h2, ↓reduceIte]
    · have hk1 : k ≤ 1100100 := by omega
      have hk2 : 1100099 < k := by omega
      clear hk
      obtain ⟨r, hr⟩ : ∃ r, r = resNatMul a b := ⟨_, rfl⟩
      have hrl : r.length ≤ 60 := by rw [hr]; exact resNatMul_len a b
      have e1 := spec_NatMul_ok a b (by omega) (by omega) (k + 1) (by omega)
      have e2 := impl_NatMul_ok a b (by omega) (by omega) (k + 1) (by omega)
      have e3 := impl_NatMul_ok a b (by omega) (by omega) k (by omega)
      rw [← hr] at e1 e2 e3
      have m1 := markIntS_ok a 1 (k + 1) (by omega) (by omega) (by omega) (by omega)
      have m2 := markIntS_ok b (1 + (a.length : Int)) (k + 1) (by omega) (by omega) (by omega) (by omega)
      have c0 : ¬ (1 + (a.length : Int) + (b.length : Int) < 0) := by omega
      have c1 : ¬ (1 + (r.length : Int) < 0) := by omega
      simp only [h1, h2, ↓reduceIte, toIntS_ok a (by omega) (k + 1) (by omega), toIntS_ok b (by omega) (k + 1) (by omega), toIntS_ok a (by omega) k (by omega), toIntS_ok b (by omega) k (by omega), e1, e2, e3, Option.bind_some,
        eqIntS_same a (by omega) (k + 1) (by omega), eqIntS_same b (by omega) (k + 1) (by omega), eqIntS_same r (by omega) (k + 1) (by omega), eqIntS_same r (by omega) k (by omega), m1, m2, c0, c1, laws_FnExactNatMul.j0, Bool.not_true, Bool.false_eq_true,
        markIntS_ok r 1 k (by omega) (by omega) (by omega) (by omega), heldIntS_ok r.length 1 k (by omega) (by omega) (by omega)]

end Go.Proofs.Ytmnahdoomnbdoaa.Pure
