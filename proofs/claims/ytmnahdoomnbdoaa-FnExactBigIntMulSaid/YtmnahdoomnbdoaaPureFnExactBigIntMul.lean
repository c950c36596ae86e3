/- The program's BigIntMul returns what the reference's returns, for every two numbers with a sign; no condition. -/
import Derived.Test.YtmnahdoomnbdoaaPFnExactBigIntMulx0
import Derived.Test.YtmnahdoomnbdoaaPFnExactBigIntMulx1
import Derived.Test.YtmnahdoomnbdoaaPFnExactBigIntMulx2
import Derived.Test.YtmnahdoomnbdoaaPFnExactBigIntMulx3
import Derived.Test.YtmnahdoomnbdoaaPFnExactBigIntMulx4
import Derived.Test.YtmnahdoomnbdoaaLb
import Derived.Test.YtmnahdoomnbdoaaBu
import Derived.Test.YtmnahdoomnbdoaaNu
set_option linter.unusedVariables false
set_option linter.unusedSimpArgs false
namespace Go.Proofs.Ytmnahdoomnbdoaa.Pure
open Go.RowKit Go.Proofs.Ytmnahdoomnbdoaa.PFnExactBigIntMul Go.Proofs.YtmnahdoomnbdoaaW.PrintWords Go.Proofs.YtmnahdoomnbdoaaW.PrintLast Go.Proofs.YtmnahdoomnbdoaaW.PrintMore Go.Proofs.Ytmnahdoomnbdoaa.Lb Go.Proofs.Ytmnahdoomnbdoaa.Bu
attribute [local go_sem] max2_int min2_int max_two min_two max_three min_three max_four min_four   -- for this text's walks alone

theorem eqIntS_l0 (l : List Int) (hl : l.length ≤ 1152921504606846976) : ∀ (d k i : Nat), i + d = l.length → d < k →
    laws_eqIntS.l0 k l l (i : Int) = some true := by
  intro d
  induction d with
  | zero =>
    intro k i h hk
    obtain ⟨k, rfl, _⟩ := fuel hk
    simp only [laws_eqIntS.l0]
    rw [if_neg (by omega)]
  | succ d ih =>
    intro k i h hk
    obtain ⟨k, rfl, hk'⟩ := fuel hk
    simp only [laws_eqIntS.l0]
    rw [if_pos (by omega), if_pos (by omega), if_pos (by omega), if_pos trivial, w64 (by omega) (by omega)]
    exact ih k (i + 1) (by omega) (by omega)
theorem eqIntS_same (l : List Int) (hl : l.length ≤ 1152921504606846976) (k : Nat) (hk : l.length < k) : laws_eqIntS.f k l l = some true := by
  unfold laws_eqIntS.f
  rw [if_pos rfl]
  exact eqIntS_l0 l hl l.length k 0 (by omega) hk

theorem markIntS_l0 : ∀ (s p : List Int) (a : Int) (k : Nat), s.length < k → p.length + s.length ≤ 1152921504606846976 → 0 ≤ a → a + s.length ≤ 1152921504606846976 →
    laws_markIntS.l0 k (p ++ s) a (p.length : Int) = some (a + s.length, p ++ mk a s.length) := by
  intro s
  induction s with
  | nil =>
    intro p a k hk _ _ _
    obtain ⟨k, rfl, _⟩ := fuel hk
    simp only [laws_markIntS.l0]
    rw [if_neg (by simp)]
    simp [mk]
  | cons x s ih =>
    intro p a k hk hl h0 h1
    obtain ⟨k, rfl, hk'⟩ := fuel hk
    simp only [List.length_cons] at hl h1 hk'
    simp only [laws_markIntS.l0]
    rw [if_pos (by rw [List.length_append, List.length_cons]; omega), if_pos (by omega), w64 (by omega) (by omega), w64 (by omega) (by omega), Int.toNat_natCast, set_mid, ← len_snoc p a,
      ih (p ++ [a]) (a + 1) k (by omega) (by rw [List.length_append]; simp; omega) (by omega) (by omega)]
    simp only [List.length_cons, mk, List.append_assoc, List.singleton_append]
    congr 2
    omega
theorem markIntS_ok (l : List Int) (a : Int) (k : Nat) (hk : l.length < k) (h0 : 0 ≤ a) (h1 : a + l.length ≤ 1152921504606846976) (hl : l.length ≤ 1152921504606846976) :
    laws_markIntS.f k l a = some (a + l.length, mk a l.length) := by
  have := markIntS_l0 l [] a k hk (by simpa using hl) h0 h1
  simpa [laws_markIntS.f] using this

theorem heldIntS_l0 : ∀ (n : Nat) (p : List Int) (a : Int) (k : Nat), n < k → p.length + n ≤ 1152921504606846976 → 0 ≤ a → a + n ≤ 1152921504606846976 →
    laws_heldIntS.l0 k (p ++ mk a n) a (p.length : Int) = some (a + n) := by
  intro n
  induction n with
  | zero =>
    intro p a k hk _ _ _
    obtain ⟨k, rfl, _⟩ := fuel hk
    have h1 : ¬ ((p.length : Int) < ((p ++ mk a 0).length : Int)) := by simp [mk]
    simp only [laws_heldIntS.l0, h1, ↓reduceIte]
    simp
  | succ n ih =>
    intro p a k hk hl h0 h1
    obtain ⟨k, rfl, hk'⟩ := fuel hk
    have e : p ++ mk a (n + 1) = (p ++ [a]) ++ mk (a + 1) n := by simp [mk]
    have h1 : (p.length : Int) < ((p ++ mk a (n + 1)).length : Int) := by rw [List.length_append, mk_length]; omega
    have h2 : rd (p ++ mk a (n + 1)) (p.length : Int) = a := rd_mid _ _ _
    have h3 : (0 : Int) ≤ (p.length : Int) := by omega
    simp only [laws_heldIntS.l0, h1, h2, h3, ↓reduceIte]
    rw [w64 (by omega) (by omega), w64 (by omega) (by omega), ← len_snoc p a, e, ih (p ++ [a]) (a + 1) k (by omega) (by rw [List.length_append]; simp; omega) (by omega) (by omega)]
    congr 1
    omega
theorem heldIntS_ok (n : Nat) (a : Int) (k : Nat) (hk : n < k) (h0 : 0 ≤ a) (h1 : a + n ≤ 1152921504606846976) :
    laws_heldIntS.f k (mk a n) a = some (a + n) := by
  have := heldIntS_l0 n [] a k hk (by simp; omega) h0 h1
  simpa [laws_heldIntS.f] using this

theorem eqBigInt_same (b : Bool) (l : List Int) (hl : l.length ≤ 1152921504606846976) (k : Nat) (hk : l.length < k) : laws_eqBigInt.f k b l b l = some true := by
  unfold laws_eqBigInt.f
  rw [if_neg (by simp), eqIntS_same l hl k hk]; rfl
theorem markBigInt_ok (b : Bool) (l : List Int) (a : Int) (k : Nat) (hk : l.length < k) (h0 : 0 ≤ a) (h1 : a + l.length ≤ 1152921504606846976) (hl : l.length ≤ 1152921504606846976) :
    laws_markBigInt.f k b l a = some (a + l.length, mk a l.length) := by
  unfold laws_markBigInt.f
  rw [markIntS_ok l a k hk h0 h1 hl]; rfl
theorem heldBigInt_ok (b : Bool) (n : Nat) (a : Int) (k : Nat) (hk : n < k) (h0 : 0 ≤ a) (h1 : a + n ≤ 1152921504606846976) :
    laws_heldBigInt.f k b (mk a n) a = some (a + n) := by
  unfold laws_heldBigInt.f
  rw [heldIntS_ok n a k hk h0 h1]
  simp only [Option.bind_some]
  rw [if_neg (by omega)]

theorem toIntS_l0 (l : List Int) (hl : l.length ≤ 1099511627776) : ∀ (d k i : Nat), i + d = l.length → d < k →
    laws_toIntS.l0 k l (l.take i ++ List.replicate d 0) (i : Int) = some l := by
  intro d
  induction d with
  | zero =>
    intro k i h hk
    obtain ⟨k, rfl, _⟩ := fuel hk
    simp only [laws_toIntS.l0]
    rw [if_neg (by omega)]
    simp [List.take_of_length_le (show l.length ≤ i by omega)]
  | succ d ih =>
    intro k i h hk
    obtain ⟨k, rfl, hk'⟩ := fuel hk
    simp only [laws_toIntS.l0]
    rw [if_pos (by omega), if_pos (by omega), if_pos (by rw [List.length_append, List.length_take, List.length_replicate]; omega)]
    rw [w64 (by omega) (by omega), Int.toNat_natCast, copy_step l i d h]
    exact ih k (i + 1) (by omega) (by omega)
theorem toIntS_ok (l : List Int) (hl : l.length ≤ 1099511627776) (k : Nat) (hk : l.length < k) : laws_toIntS.f k l = some l := by
  unfold laws_toIntS.f
  rw [if_pos (by omega), if_pos (by omega)]
  have := toIntS_l0 l hl l.length k 0 (by omega) hk
  simpa using this

theorem toBigInt_ok (b : Bool) (l : List Int) (hl : l.length ≤ 1048576) (k : Nat) (hk : l.length < k) : laws_toBigInt.f k b l = some (b, l) := by
  unfold laws_toBigInt.f
  simp [toIntS_ok l (by omega) k hk]

theorem szIntS_ok (l : List Int) (a : Int) (h0 : 0 ≤ a) (h1 : a ≤ 1048576) (hl : l.length ≤ maxLen) : laws_szIntS.f l a = some (if a - l.length < 0 then -1 else a - l.length) := by
  unfold laws_szIntS.f
  simp only [maxLen] at hl
  rw [w64 (by omega) (by omega)]
  by_cases h : a - (l.length : Int) < 0
  · simp only [h, ↓reduceIte]
  · simp only [h, ↓reduceIte]
theorem szBigInt_ok (b : Bool) (l : List Int) (a : Int) (h0 : 0 ≤ a) (h1 : a ≤ 1048576) (hl : l.length ≤ maxLen) : laws_szBigInt.f b l a = some (if a - l.length < 0 then -1 else a - l.length) := by
  unfold laws_szBigInt.f
  rw [szIntS_ok l a h0 h1 hl]
  simp only [Option.bind_some]
  by_cases h : a - (l.length : Int) < 0
  · simp [h]
  · simp only [h, ↓reduceIte]

theorem spec_l02Trim_l0 (l : List Int) (hl : l.length ≤ 1152921504606846976) : ∀ (i k : Nat), i ≤ l.length → i < k → spec_l02Trim.l0 k l (i : Int) = some (trimTo l i) := by
  intro i
  induction i with
  | zero =>
    intro k _ hk
    obtain ⟨k, rfl, _⟩ := fuel hk
    simp only [spec_l02Trim.l0, trimTo]
    rw [if_neg (by omega), if_pos (by omega), if_pos (by omega)]
    simp
  | succ i ih =>
    intro k hi hk
    obtain ⟨k, rfl, hk'⟩ := fuel hk
    simp only [spec_l02Trim.l0, trimTo]
    have e : ((i + 1 : Nat) : Int) - 1 = (i : Int) := by omega
    rw [if_pos (by omega), e, w64 (by omega) (by omega), if_pos (by omega), if_pos (by omega)]
    by_cases h0 : rd l (i : Int) = 0
    · rw [if_pos h0, if_pos h0]
      exact ih k (by omega) (by omega)
    · rw [if_neg h0, if_neg h0, if_pos (by omega), if_pos (by omega)]
      rfl
theorem spec_l02Trim_ok (l : List Int) (hl : l.length ≤ 1152921504606846976) (k : Nat) (hk : l.length < k) : spec_l02Trim.f k l = some (trim l) :=
  spec_l02Trim_l0 l hl l.length k (Nat.le_refl _) hk

/-- One row of the product: out has a row of limbs, b from place j on times n, plus the carry, added from place i + j on. -/
theorem spec_l02Mul_l1 (a b : List Int) (hb : Dig b) (hbl : b.length ≤ 1000) (hal : a.length ≤ 1000) (n i : Nat) (hn : n ≤ 999999999) (x28 : Int) : ∀ (d j : Nat) (out : List Int) (c k : Nat), j + d = b.length → d < k → c ≤ 999999999 → Dig out → out.length ≤ 2000 → i + b.length < out.length → (∀ t, i + b.length ≤ t → t < out.length → rd out (t : Int) = 0) →
    ∃ out', out'.length = out.length ∧ Dig out' ∧ val out' = val out + (n * val (b.drop j) + c) * 1000000000 ^ (i + j) ∧ (∀ t, i + b.length < t → t < out.length → rd out' (t : Int) = 0) ∧
      spec_l02Mul.l1 k b out (i : Int) (n : Int) (c : Int) a (a.length : Int) x28 b (b.length : Int) (j : Int) = spec_l02Mul.l0 (k - d - 1) b out' a (a.length : Int) (wrap64 (x28 + 1)) := by
  intro d
  induction d with
  | zero =>
    intro j out c k hj hk hc hD hol hil hz
    obtain ⟨k, rfl, _⟩ := fuel hk
    have ej : j = b.length := by omega
    subst ej
    have h1 : ¬ ((b.length : Int) < (b.length : Int)) := by omega
    have w : wrap64 ((i : Int) + (b.length : Int)) = ((i + b.length : Nat) : Int) := by rw [w64 (by omega) (by omega)]; omega
    have h2 : (0 : Int) ≤ ((i + b.length : Nat) : Int) := by omega
    have h3 : ((i + b.length : Nat) : Int) < (out.length : Int) := by omega
    refine ⟨out.set (i + b.length) (c : Int), by rw [List.length_set], Dig_set hD _ (by omega), ?_, ?_, ?_⟩
    · have := val_set out (i + b.length) hil (c : Int)
      rw [hz (i + b.length) (Nat.le_refl _) hil] at this
      simp only [Int.toNat_zero, Nat.zero_mul, Nat.add_zero, Int.toNat_natCast] at this
      rw [this, List.drop_length]
      simp [val]
    · intro t ht ht2
      rw [rd_set_ne _ _ _ _ (by omega)]
      exact hz t (by omega) ht2
    · simp only [spec_l02Mul.l1, h1, w, h2, h3, ↓reduceIte, Int.toNat_natCast, Nat.sub_zero, Nat.add_sub_cancel]
  | succ d ih =>
    intro j out c k hj hk hc hD hol hil hz
    obtain ⟨k, rfl, hk'⟩ := fuel hk
    have h1 : (j : Int) < (b.length : Int) := by omega
    have h2 : (0 : Int) ≤ (j : Int) := by omega
    have h3 : (0 : Int) ≤ ((i + j : Nat) : Int) := by omega
    have h4 : ((i + j : Nat) : Int) < (out.length : Int) := by omega
    have h5 : i + j < out.length := by omega
    have vs := val_set out (i + j) h5
    have ro := Dig_rd hD (i + j)
    have rb := Dig_rd hb j
    have ed : val (b.drop j) = (rd b (j : Int)).toNat + 1000000000 * val (b.drop (j + 1)) := by rw [drop_rd b j (by omega)]; rfl
    obtain ⟨o, ho⟩ : ∃ o : Nat, rd out ((i + j : Nat) : Int) = o := ⟨(rd out ((i + j : Nat) : Int)).toNat, by omega⟩
    obtain ⟨m, hm⟩ : ∃ m : Nat, rd b (j : Int) = m := ⟨(rd b (j : Int)).toNat, by omega⟩
    rw [ho] at ro
    rw [hm] at rb ed
    have hm9 : m ≤ 999999999 := by omega
    have hnm : n * m ≤ 999999998000000001 := Nat.mul_le_mul hn hm9
    obtain ⟨s, hs⟩ : ∃ s, n * m = s := ⟨_, rfl⟩
    rw [hs] at hnm
    have b1 : i + j ≤ 9223372036854775807 := by omega
    have b2 : j + 1 ≤ 9223372036854775807 := by omega
    have b3 : s ≤ 9223372036854775807 := by omega
    have b4 : o + s ≤ 9223372036854775807 := by omega
    have b5 : o + s + c ≤ 9223372036854775807 := by omega
    have b6 : (o + s + c) / 1000000000 ≤ 9223372036854775807 := by omega
    have b7 : (o + s + c) / 1000000000 ≤ 999999999 := by omega
    have b8 : (0 : Int) ≤ (((o + s + c) % 1000000000 : Nat) : Int) ∧ (((o + s + c) % 1000000000 : Nat) : Int) ≤ 999999999 := by omega
    obtain ⟨out', g1, g2, g3, g4, g5⟩ := ih (j + 1) (out.set (i + j) (((o + s + c) % 1000000000 : Nat) : Int)) ((o + s + c) / 1000000000) k (by omega) (by omega) b7 (Dig_set hD _ b8) (by rw [List.length_set]; exact hol) (by rw [List.length_set]; exact hil) (by
      intro t ht ht2
      rw [List.length_set] at ht2
      rw [rd_set_ne _ _ _ _ (by omega)]
      exact hz t ht ht2)
    rw [List.length_set] at g1 g4
    refine ⟨out', g1, g2, ?_, g4, ?_⟩
    · have v := vs (((o + s + c) % 1000000000 : Nat) : Int)
      rw [ho] at v
      simp only [Int.toNat_natCast] at v ed
      rw [g3, ed]
      have hx : 1000000000 * ((o + s + c) / 1000000000) + (o + s + c) % 1000000000 = o + s + c := Nat.div_add_mod _ _
      rw [show i + (j + 1) = (i + j) + 1 by omega, Nat.pow_succ]
      generalize (o + s + c) / 1000000000 = q at *
      generalize (o + s + c) % 1000000000 = r at *
      generalize 1000000000 ^ (i + j) = P at *
      clear vs ih g5 g4 hz
      grind
    · have e4 : Int.tmod ((o + s + c : Nat) : Int) 1000000000 = (((o + s + c) % 1000000000 : Nat) : Int) := rfl
      have e5 : Int.tdiv ((o + s + c : Nat) : Int) 1000000000 = (((o + s + c) / 1000000000 : Nat) : Int) := rfl
      have e7 : k + 1 - (d + 1) - 1 = k - d - 1 := by omega
      simp only [spec_l02Mul.l1, h1, h2, wadd b1, h3, h4, ho, hm, wmul hs b3, wadd b4, wadd b5, e4, e5, wnat b6, wadd1 b2, ↓reduceIte, Int.toNat_natCast]
      rw [g5, e7]
theorem spec_l02Mul_l0 (a b : List Int) (ha : Dig a) (hb : Dig b) (hbl : b.length ≤ 1000) (hal : a.length ≤ 1000) : ∀ (d i : Nat) (out : List Int) (k : Nat), i + d = a.length → d * (b.length + 2) + 2100 < k → Dig out → out.length = a.length + b.length → (∀ t, i + b.length ≤ t → t < out.length → rd out (t : Int) = 0) →
    spec_l02Mul.l0 k b out a (a.length : Int) (i : Int) = some (dg (val out + val (a.drop i) * val b * 1000000000 ^ i)) := by
  intro d
  induction d with
  | zero =>
    intro i out k hi hk hD hol hz
    obtain ⟨k, rfl, _⟩ := fuel hk
    have ei : i = a.length := by omega
    subst ei
    have h1 : ¬ ((a.length : Int) < (a.length : Int)) := by omega
    simp only [spec_l02Mul.l0, h1, ↓reduceIte, spec_l02Trim_ok out (by omega) k (by omega), Option.bind_some]
    rw [trim_dg_val hD, List.drop_length]
    simp [val]
  | succ d ih =>
    intro i out k hi hk hD hol hz
    obtain ⟨k, rfl, hk'⟩ := fuel hk
    have h1 : (i : Int) < (a.length : Int) := by omega
    have h2 : (0 : Int) ≤ (i : Int) := by omega
    have w2 : wrap64 ((i : Int) + 1) = ((i + 1 : Nat) : Int) := by rw [w64 (by omega) (by omega)]; omega
    have ra := Dig_rd ha i
    have ed : val (a.drop i) = (rd a (i : Int)).toNat + 1000000000 * val (a.drop (i + 1)) := by rw [drop_rd a i (by omega)]; rfl
    obtain ⟨n, hn⟩ : ∃ n : Nat, rd a (i : Int) = n := ⟨(rd a (i : Int)).toNat, by omega⟩
    rw [hn] at ra ed
    have hmul : (d + 1) * (b.length + 2) = d * (b.length + 2) + b.length + 2 := by rw [Nat.succ_mul]; omega
    obtain ⟨out', g1, g2, g3, g4, g5⟩ := spec_l02Mul_l1 a b hb hbl hal n i (by omega) (i : Int) b.length 0 out 0 k (by omega) (by omega) (by omega) hD (by omega) (by omega) hz
    have g5' : spec_l02Mul.l1 k b out (i : Int) (n : Int) 0 a (a.length : Int) (i : Int) b (b.length : Int) 0 = spec_l02Mul.l0 (k - b.length - 1) b out' a (a.length : Int) (wrap64 ((i : Int) + 1)) := g5
    simp only [spec_l02Mul.l0, h1, h2, hn, ↓reduceIte]
    rw [g5', w2, ih (i + 1) out' (k - b.length - 1) (by omega) (by omega) g2 (by omega) (by
      intro t ht ht2
      exact g4 t (by omega) (by omega))]
    rw [g3, List.drop_zero, ed, Nat.pow_succ]
    simp only [Int.toNat_natCast, Nat.add_zero]
    congr 2
    generalize 1000000000 ^ i = P
    grind
theorem spec_l02Mul_ok (a b : List Int) (ha : Dig a) (hb : Dig b) (hal : a.length ≤ 1000) (hbl : b.length ≤ 1000) (k : Nat) (hk : 1010000 < k) : spec_l02Mul.f k a b = some (dg (val a * val b)) := by
  have hm : a.length * (b.length + 2) ≤ 1000 * 1002 := Nat.mul_le_mul hal (by omega)
  obtain ⟨k, rfl, hk'⟩ := fuel hk
  unfold spec_l02Mul.f
  by_cases h1 : (a.length : Int) = 0
  · have : a = [] := List.length_eq_zero_iff.mp (by omega)
    subst this
    simp [spec_l02Mul.j0, val, dg_zero]
  · by_cases h2 : (b.length : Int) = 0
    · have : b = [] := List.length_eq_zero_iff.mp (by omega)
      subst this
      simp [spec_l02Mul.j0, val, dg_zero, h1]
    · have h3 : ((b.length : Int) == 0) = false := beq_eq_false_iff_ne.mpr h2
      have w : wrap64 ((a.length : Int) + (b.length : Int)) = ((a.length + b.length : Nat) : Int) := by rw [w64 (by omega) (by omega)]; omega
      have h4 : (0 : Int) ≤ ((a.length + b.length : Nat) : Int) := by omega
      have h5 : a.length + b.length ≤ 35184372088832 := by omega
      simp only [spec_l02Mul.j0, h1, h3, w, h4, h5, ↓reduceIte, Int.toNat_natCast, Bool.false_eq_true]
      have := spec_l02Mul_l0 a b ha hb hbl hal a.length 0 (List.replicate (a.length + b.length) 0) k (by omega) (by omega) (Dig_rep _) (by simp) (by
        intro t _ ht
        rw [rd_nat, List.getD_eq_getElem?_getD]
        rw [List.length_replicate] at ht
        simp [List.getElem?_replicate, ht])
      have this' : spec_l02Mul.l0 k b (List.replicate (a.length + b.length) 0) a (a.length : Int) 0 = _ := this
      rw [this', val_rep, List.drop_zero]
      simp

theorem impl_trim_l0 (l : List Int) (hl : l.length ≤ 1152921504606846976) : ∀ (i k : Nat), i ≤ l.length → i < k → impl_trim.l0 k (l.take i) = some (trimTo l i) := by
  intro i
  induction i with
  | zero =>
    intro k _ hk
    obtain ⟨k, rfl, _⟩ := fuel hk
    simp [impl_trim.l0, trimTo]
  | succ i ih =>
    intro k hi hk
    obtain ⟨k, rfl, hk'⟩ := fuel hk
    have hlen : (l.take (i + 1)).length = i + 1 := by rw [List.length_take]; omega
    have e : (((i + 1 : Nat)) : Int) - 1 = (i : Int) := by omega
    have w : wrap64 (((i + 1 : Nat) : Int) - 1) = (i : Int) := by rw [e]; exact w64 (by omega) (by omega)
    have h1 : (((i + 1 : Nat)) : Int) > 0 := by omega
    have h2 : (0 : Int) ≤ (i : Int) := by omega
    have h3 : (i : Int) < (((i + 1 : Nat)) : Int) := by omega
    have h4 : (i : Int) ≤ (((i + 1 : Nat)) : Int) := by omega
    have r : rd (l.take (i + 1)) (i : Int) = rd l (i : Int) := rd_take l (by omega)
    simp only [impl_trim.l0, hlen, w, h1, h2, h3, h4, r, ↓reduceIte, Int.toNat_natCast, List.take_take, Nat.min_eq_left (Nat.le_succ i), trimTo]
    by_cases c : rd l (i : Int) = 0
    · simp only [c, ↓reduceIte]
      exact ih k (by omega) (by omega)
    · simp only [c, ↓reduceIte]
theorem impl_trim_ok (l : List Int) (hl : l.length ≤ 1152921504606846976) (k : Nat) (hk : l.length < k) : impl_trim.f k l = some (trim l) := by
  have := impl_trim_l0 l hl l.length k (Nat.le_refl _) hk
  rw [List.take_length] at this
  exact this

/-- One row of the product: out has a row of limbs, b from place j on times n, plus the carry, added from place i + j on. -/
theorem impl_times_l1 (a b : List Int) (hb : Dig b) (hbl : b.length ≤ 1000) (hal : a.length ≤ 1000) (n i : Nat) (hn : n ≤ 999999999) (x28 : Int) : ∀ (d j : Nat) (out : List Int) (c k : Nat), j + d = b.length → d < k → c ≤ 999999999 → Dig out → out.length ≤ 2000 → i + b.length < out.length → (∀ t, i + b.length ≤ t → t < out.length → rd out (t : Int) = 0) →
    ∃ out', out'.length = out.length ∧ Dig out' ∧ val out' = val out + (n * val (b.drop j) + c) * 1000000000 ^ (i + j) ∧ (∀ t, i + b.length < t → t < out.length → rd out' (t : Int) = 0) ∧
      impl_times.l1 k b out (i : Int) (n : Int) (c : Int) a (a.length : Int) x28 b (b.length : Int) (j : Int) = impl_times.l0 (k - d - 1) b out' a (a.length : Int) (wrap64 (x28 + 1)) := by
  intro d
  induction d with
  | zero =>
    intro j out c k hj hk hc hD hol hil hz
    obtain ⟨k, rfl, _⟩ := fuel hk
    have ej : j = b.length := by omega
    subst ej
    have h1 : ¬ ((b.length : Int) < (b.length : Int)) := by omega
    have w : wrap64 ((i : Int) + (b.length : Int)) = ((i + b.length : Nat) : Int) := by rw [w64 (by omega) (by omega)]; omega
    have h2 : (0 : Int) ≤ ((i + b.length : Nat) : Int) := by omega
    have h3 : ((i + b.length : Nat) : Int) < (out.length : Int) := by omega
    refine ⟨out.set (i + b.length) (c : Int), by rw [List.length_set], Dig_set hD _ (by omega), ?_, ?_, ?_⟩
    · have := val_set out (i + b.length) hil (c : Int)
      rw [hz (i + b.length) (Nat.le_refl _) hil] at this
      simp only [Int.toNat_zero, Nat.zero_mul, Nat.add_zero, Int.toNat_natCast] at this
      rw [this, List.drop_length]
      simp [val]
    · intro t ht ht2
      rw [rd_set_ne _ _ _ _ (by omega)]
      exact hz t (by omega) ht2
    · simp only [impl_times.l1, h1, w, h2, h3, ↓reduceIte, Int.toNat_natCast, Nat.sub_zero, Nat.add_sub_cancel]
  | succ d ih =>
    intro j out c k hj hk hc hD hol hil hz
    obtain ⟨k, rfl, hk'⟩ := fuel hk
    have h1 : (j : Int) < (b.length : Int) := by omega
    have h2 : (0 : Int) ≤ (j : Int) := by omega
    have h3 : (0 : Int) ≤ ((i + j : Nat) : Int) := by omega
    have h4 : ((i + j : Nat) : Int) < (out.length : Int) := by omega
    have h5 : i + j < out.length := by omega
    have vs := val_set out (i + j) h5
    have ro := Dig_rd hD (i + j)
    have rb := Dig_rd hb j
    have ed : val (b.drop j) = (rd b (j : Int)).toNat + 1000000000 * val (b.drop (j + 1)) := by rw [drop_rd b j (by omega)]; rfl
    obtain ⟨o, ho⟩ : ∃ o : Nat, rd out ((i + j : Nat) : Int) = o := ⟨(rd out ((i + j : Nat) : Int)).toNat, by omega⟩
    obtain ⟨m, hm⟩ : ∃ m : Nat, rd b (j : Int) = m := ⟨(rd b (j : Int)).toNat, by omega⟩
    rw [ho] at ro
    rw [hm] at rb ed
    have hm9 : m ≤ 999999999 := by omega
    have hnm : n * m ≤ 999999998000000001 := Nat.mul_le_mul hn hm9
    obtain ⟨s, hs⟩ : ∃ s, n * m = s := ⟨_, rfl⟩
    rw [hs] at hnm
    have b1 : i + j ≤ 9223372036854775807 := by omega
    have b2 : j + 1 ≤ 9223372036854775807 := by omega
    have b3 : s ≤ 9223372036854775807 := by omega
    have b4 : o + s ≤ 9223372036854775807 := by omega
    have b5 : o + s + c ≤ 9223372036854775807 := by omega
    have b6 : (o + s + c) / 1000000000 ≤ 9223372036854775807 := by omega
    have b7 : (o + s + c) / 1000000000 ≤ 999999999 := by omega
    have b8 : (0 : Int) ≤ (((o + s + c) % 1000000000 : Nat) : Int) ∧ (((o + s + c) % 1000000000 : Nat) : Int) ≤ 999999999 := by omega
    obtain ⟨out', g1, g2, g3, g4, g5⟩ := ih (j + 1) (out.set (i + j) (((o + s + c) % 1000000000 : Nat) : Int)) ((o + s + c) / 1000000000) k (by omega) (by omega) b7 (Dig_set hD _ b8) (by rw [List.length_set]; exact hol) (by rw [List.length_set]; exact hil) (by
      intro t ht ht2
      rw [List.length_set] at ht2
      rw [rd_set_ne _ _ _ _ (by omega)]
      exact hz t ht ht2)
    rw [List.length_set] at g1 g4
    refine ⟨out', g1, g2, ?_, g4, ?_⟩
    · have v := vs (((o + s + c) % 1000000000 : Nat) : Int)
      rw [ho] at v
      simp only [Int.toNat_natCast] at v ed
      rw [g3, ed]
      have hx : 1000000000 * ((o + s + c) / 1000000000) + (o + s + c) % 1000000000 = o + s + c := Nat.div_add_mod _ _
      rw [show i + (j + 1) = (i + j) + 1 by omega, Nat.pow_succ]
      generalize (o + s + c) / 1000000000 = q at *
      generalize (o + s + c) % 1000000000 = r at *
      generalize 1000000000 ^ (i + j) = P at *
      clear vs ih g5 g4 hz
      grind
    · have e4 : Int.tmod ((o + s + c : Nat) : Int) 1000000000 = (((o + s + c) % 1000000000 : Nat) : Int) := rfl
      have e5 : Int.tdiv ((o + s + c : Nat) : Int) 1000000000 = (((o + s + c) / 1000000000 : Nat) : Int) := rfl
      have e7 : k + 1 - (d + 1) - 1 = k - d - 1 := by omega
      simp only [impl_times.l1, h1, h2, wadd b1, h3, h4, ho, hm, wmul hs b3, wadd b4, wadd b5, e4, e5, wnat b6, wadd1 b2, ↓reduceIte, Int.toNat_natCast]
      rw [g5, e7]
theorem impl_times_l0 (a b : List Int) (ha : Dig a) (hb : Dig b) (hbl : b.length ≤ 1000) (hal : a.length ≤ 1000) : ∀ (d i : Nat) (out : List Int) (k : Nat), i + d = a.length → d * (b.length + 2) + 2100 < k → Dig out → out.length = a.length + b.length → (∀ t, i + b.length ≤ t → t < out.length → rd out (t : Int) = 0) →
    impl_times.l0 k b out a (a.length : Int) (i : Int) = some (dg (val out + val (a.drop i) * val b * 1000000000 ^ i)) := by
  intro d
  induction d with
  | zero =>
    intro i out k hi hk hD hol hz
    obtain ⟨k, rfl, _⟩ := fuel hk
    have ei : i = a.length := by omega
    subst ei
    have h1 : ¬ ((a.length : Int) < (a.length : Int)) := by omega
    simp only [impl_times.l0, h1, ↓reduceIte, impl_trim_ok out (by omega) k (by omega), Option.bind_some]
    rw [trim_dg_val hD, List.drop_length]
    simp [val]
  | succ d ih =>
    intro i out k hi hk hD hol hz
    obtain ⟨k, rfl, hk'⟩ := fuel hk
    have h1 : (i : Int) < (a.length : Int) := by omega
    have h2 : (0 : Int) ≤ (i : Int) := by omega
    have w2 : wrap64 ((i : Int) + 1) = ((i + 1 : Nat) : Int) := by rw [w64 (by omega) (by omega)]; omega
    have ra := Dig_rd ha i
    have ed : val (a.drop i) = (rd a (i : Int)).toNat + 1000000000 * val (a.drop (i + 1)) := by rw [drop_rd a i (by omega)]; rfl
    obtain ⟨n, hn⟩ : ∃ n : Nat, rd a (i : Int) = n := ⟨(rd a (i : Int)).toNat, by omega⟩
    rw [hn] at ra ed
    have hmul : (d + 1) * (b.length + 2) = d * (b.length + 2) + b.length + 2 := by rw [Nat.succ_mul]; omega
    obtain ⟨out', g1, g2, g3, g4, g5⟩ := impl_times_l1 a b hb hbl hal n i (by omega) (i : Int) b.length 0 out 0 k (by omega) (by omega) (by omega) hD (by omega) (by omega) hz
    have g5' : impl_times.l1 k b out (i : Int) (n : Int) 0 a (a.length : Int) (i : Int) b (b.length : Int) 0 = impl_times.l0 (k - b.length - 1) b out' a (a.length : Int) (wrap64 ((i : Int) + 1)) := g5
    simp only [impl_times.l0, h1, h2, hn, ↓reduceIte]
    rw [g5', w2, ih (i + 1) out' (k - b.length - 1) (by omega) (by omega) g2 (by omega) (by
      intro t ht ht2
      exact g4 t (by omega) (by omega))]
    rw [g3, List.drop_zero, ed, Nat.pow_succ]
    simp only [Int.toNat_natCast, Nat.add_zero]
    congr 2
    generalize 1000000000 ^ i = P
    grind
theorem impl_times_ok (a b : List Int) (ha : Dig a) (hb : Dig b) (hal : a.length ≤ 1000) (hbl : b.length ≤ 1000) (k : Nat) (hk : 1010000 < k) : impl_times.f k a b = some (dg (val a * val b)) := by
  have hm : a.length * (b.length + 2) ≤ 1000 * 1002 := Nat.mul_le_mul hal (by omega)
  obtain ⟨k, rfl, hk'⟩ := fuel hk
  unfold impl_times.f
  by_cases h1 : (a.length : Int) = 0
  · have : a = [] := List.length_eq_zero_iff.mp (by omega)
    subst this
    simp [impl_times.j0, val, dg_zero]
  · by_cases h2 : (b.length : Int) = 0
    · have : b = [] := List.length_eq_zero_iff.mp (by omega)
      subst this
      simp [impl_times.j0, val, dg_zero, h1]
    · have h3 : ((b.length : Int) == 0) = false := beq_eq_false_iff_ne.mpr h2
      have w : wrap64 ((a.length : Int) + (b.length : Int)) = ((a.length + b.length : Nat) : Int) := by rw [w64 (by omega) (by omega)]; omega
      have h4 : (0 : Int) ≤ ((a.length + b.length : Nat) : Int) := by omega
      have h5 : a.length + b.length ≤ 35184372088832 := by omega
      simp only [impl_times.j0, h1, h3, w, h4, h5, ↓reduceIte, Int.toNat_natCast, Bool.false_eq_true]
      have := impl_times_l0 a b ha hb hbl hal a.length 0 (List.replicate (a.length + b.length) 0) k (by omega) (by omega) (Dig_rep _) (by simp) (by
        intro t _ ht
        rw [rd_nat, List.getD_eq_getElem?_getD]
        rw [List.length_replicate] at ht
        simp [List.getElem?_replicate, ht])
      have this' : impl_times.l0 k b (List.replicate (a.length + b.length) 0) a (a.length : Int) 0 = _ := this
      rw [this', val_rep, List.drop_zero]
      simp

theorem spec_l02Cap_ok (l : List Int) (hl : l.length ≤ 1152921504606846976) (k : Nat) (hk : l.length < k) : spec_l02Cap.f k l = some (if (trim l).length > 60 then [] else trim l) := by
  unfold spec_l02Cap.f
  rw [spec_l02Trim_ok l hl k hk]
  simp only [Option.bind_some]
  by_cases h : (trim l).length > 60
  · rw [if_pos (by omega), if_pos h]
  · rw [if_neg (by omega), if_neg h]

theorem spec_l03Make_ok (b : Bool) (l : List Int) (hl : l.length ≤ 1152921504606846976) (k : Nat) (hk : l.length < k) :
    spec_l03Make.f k b l = some (b && decide (0 < (capped l).length), capped l) := by
  unfold spec_l03Make.f
  rw [spec_l02Cap_ok l hl k hk]
  have hc : (if (trim l).length > 60 then [] else trim l) = capped l := rfl
  have hle := capped_le l
  rw [hc]
  simp only [Option.bind_some, List.nil_append, List.length_nil]
  cases b
  · rw [if_neg (by simp), if_pos (by omega)]; rfl
  · rw [if_pos rfl, if_pos (by omega)]
    simp

theorem spec_in_ok (x : Int) : spec_l01In.f x 0 999999999 = some (inB x) := by
  unfold spec_l01In.f inB
  by_cases h : x ≥ 0
  · rw [if_pos h, decide_eq_true h, Bool.true_and]
  · rw [if_neg h, decide_eq_false h, Bool.false_and]
theorem spec_NatOk_l0 (l : List Int) (hl : l.length ≤ 1152921504606846976) : ∀ (d k i : Nat), i + d = l.length → d < k →
    spec_NatOk.l0 k l l (l.length : Int) (i : Int) = some ((l.drop i).all inB && (decide (l.length ≤ 60) && (l.isEmpty || !decide (rd l ((l.length : Int) - 1) = 0)))) := by
  intro d
  induction d with
  | zero =>
    intro k i h hk
    obtain ⟨k, rfl, _⟩ := fuel hk
    have h1 : ¬ ((i : Int) < (l.length : Int)) := by omega
    simp only [spec_NatOk.l0, h1, ↓reduceIte]
    rw [List.drop_of_length_le (by omega)]
    by_cases h2 : (l.length : Int) ≤ 60
    · have h2' : l.length ≤ 60 := by omega
      by_cases h3 : (l.length : Int) = 0
      · have : l = [] := List.length_eq_zero_iff.mp (by omega)
        subst this
        simp
      · have h4 : (0 : Int) ≤ wrap64 ((l.length : Int) - 1) := by rw [w64 (by omega) (by omega)]; omega
        have h5 : wrap64 ((l.length : Int) - 1) < (l.length : Int) := by rw [w64 (by omega) (by omega)]; omega
        have h6 : l.isEmpty = false := by cases l with | nil => simp at h3 | cons _ _ => rfl
        simp only [h2, h3, h4, h5, h6, ↓reduceIte, h2', decide_true, List.all_nil, Bool.true_and, Bool.false_or]
        rw [w64 (by omega) (by omega)]
        congr 1
    · have h2' : ¬ l.length ≤ 60 := by omega
      simp [h2, h2']
  | succ d ih =>
    intro k i h hk
    obtain ⟨k, rfl, hk'⟩ := fuel hk
    have h1 : (i : Int) < (l.length : Int) := by omega
    have h2 : (0 : Int) ≤ (i : Int) := by omega
    have w : wrap64 ((i : Int) + 1) = ((i + 1 : Nat) : Int) := by rw [w64 (by omega) (by omega)]; omega
    have e : l.drop i = rd l i :: l.drop (i + 1) := drop_rd l i (by omega)
    simp only [spec_NatOk.l0, h1, h2, ↓reduceIte, spec_in_ok, Option.bind_some, w, ih k (i + 1) (by omega) (by omega), e, List.all_cons]
    cases inB (rd l (i : Int)) <;> simp
theorem spec_NatOk_ok (l : List Int) (hl : l.length ≤ 1152921504606846976) (k : Nat) (hk : l.length < k) : spec_NatOk.f k l = some (nok l) := by
  have := spec_NatOk_l0 l hl l.length k 0 (by omega) hk
  unfold spec_NatOk.f
  refine this.trans ?_
  rw [List.drop_zero, Bool.and_comm]; rfl

theorem impl_NatOk_ok (l : List Int) : impl_NatOk.f l = some (nok l) := by
  unfold impl_NatOk.f Ext.natOkB nok
  congr 2
  rw [Bool.eq_iff_iff]
  simp only [Bool.not_eq_true', List.any_eq_false, List.all_eq_true, Ext.badB, inB, Bool.or_eq_true, Bool.and_eq_true, decide_eq_true_iff]
  constructor
  · intro h x hx
    have := h x hx
    omega
  · intro h x hx
    have := h x hx
    omega

theorem spec_BigIntOk_ok (b : Bool) (l : List Int) (hl : l.length ≤ 1048576) (k : Nat) (hk : l.length < k) : spec_BigIntOk.f k b l = some (bok b l) := by
  unfold spec_BigIntOk.f bok
  rw [spec_NatOk_ok l (by omega) k hk]
  simp only [Option.bind_some]
  cases nok l <;> cases b <;> simp
theorem impl_BigIntOk_ok (b : Bool) (l : List Int) : impl_BigIntOk.f b l = some (bok b l) := by
  unfold impl_BigIntOk.f bok
  rw [impl_NatOk_ok l]
  simp only [Option.bind_some]
  cases nok l <;> cases b
  · simp
  · simp
  · simp
  · by_cases h : l = []
    · subst h; rfl
    · have h0 : 0 < l.length := len_pos h
      have h1 : ((l.length : Int) == 0) = false := beq_eq_false_iff_ne.mpr (by omega)
      simp [h0, h1]

def rb1 (s : Bool) (n : Nat) : Bool := s && decide (0 < (capped (dg n)).length)
def rb2 (n : Nat) : List Int := capped (dg n)
theorem rb2_len (n : Nat) : (rb2 n).length ≤ 60 := capped_le _
theorem bok_nok {b : Bool} {l : List Int} (h : bok b l = true) : nok l = true := by
  unfold bok at h
  rw [Bool.and_eq_true] at h
  exact h.1
theorem mul_len {a b : List Int} (h1 : nok a = true) (h2 : nok b = true) : (dg (val a * val b)).length ≤ 120 := by
  rw [dg_len_iff]
  have l1 := nok_len h1
  have l2 := nok_len h2
  have v1 := val_lt (nok_Dig h1)
  have v2 := val_lt (nok_Dig h2)
  have p1 : (1000000000 : Nat) ^ a.length ≤ 1000000000 ^ 60 := Nat.pow_le_pow_right (by omega) l1
  have p2 : (1000000000 : Nat) ^ b.length ≤ 1000000000 ^ 60 := Nat.pow_le_pow_right (by omega) l2
  exact Nat.lt_of_lt_of_le (Nat.mul_lt_mul'' (Nat.lt_of_lt_of_le v1 p1) (Nat.lt_of_lt_of_le v2 p2)) (by rw [← Nat.pow_add]; exact Nat.le_refl _)
theorem few_dg (n : Nat) : (if (dg n).length > 60 then [] else dg n) = capped (dg n) := by
  unfold capped
  rw [trim_dg]

theorem impl_signed_ok (s : Bool) (l : List Int) : impl_signed.f s l = some (s && decide (0 < l.length), l) := by
  unfold impl_signed.f
  cases s <;> simp
theorem impl_fewer_ok (s : Bool) (n : Nat) (hl : (dg n).length ≤ 1000000) : impl_BigInt_fewer.f (s && decide (0 < (dg n).length)) (dg n) = some (rb1 s n, rb2 n) := by
  unfold impl_BigInt_fewer.f rb1 rb2
  rw [← few_dg n]
  by_cases h : (dg n).length > 60
  · rw [if_pos (by omega), if_pos h]
    simp
  · rw [if_neg (by omega), if_neg h]
    unfold slices_Clone_int_int.f
    rw [if_pos (by omega)]
    rfl

def szv (a : Int) (n : Nat) : Int := if a - n < 0 then -1 else a - n
theorem szv_nn {a : Int} {n : Nat} (h : ¬ szv a n < 0) : 0 ≤ szv a n := by omega
theorem szv_le {a : Int} {n : Nat} (h0 : 0 ≤ a) (h : a ≤ 1048576) : szv a n ≤ 1048576 := by unfold szv; split <;> omega
theorem szv_len {a : Int} {n : Nat} (h : a ≤ 1048576) (hz : ¬ szv a n < 0) : n ≤ 1048576 := by
  unfold szv at hz
  split at hz <;> omega
def kadd (a : Int) (n : Nat) : Int := a + n

def rm1 (a : Bool) (x : List Int) (b : Bool) (y : List Int) : Bool := (bok a x && bok b y) && rb1 (a != b) (val x * val y)
def rm2 (a : Bool) (x : List Int) (b : Bool) (y : List Int) : List Int := if (bok a x && bok b y) = true then rb2 (val x * val y) else []
theorem rm2_len (a : Bool) (x : List Int) (b : Bool) (y : List Int) : (rm2 a x b y).length ≤ 60 := by
  unfold rm2
  split
  · exact rb2_len _
  · simp
theorem spec_ok (a : Bool) (x : List Int) (b : Bool) (y : List Int) (hx : x.length ≤ 1048576) (hy : y.length ≤ 1048576) : spec_BigIntMul.f 1100002 a x b y = some (rm1 a x b y, rm2 a x b y) := by
  unfold spec_BigIntMul.f rm1 rm2
  rw [spec_BigIntOk_ok a x hx _ (by omega)]
  cases h1 : bok a x
  · simp [spec_BigIntMul.j0]
  · simp only [Option.bind_some, ↓reduceIte]
    rw [spec_BigIntOk_ok b y hy _ (by omega)]
    cases h2 : bok b y
    · simp [spec_BigIntMul.j0]
    · simp only [Option.bind_some, Bool.not_true, spec_BigIntMul.j0, Bool.false_eq_true, ↓reduceIte, Bool.and_self, Bool.true_and]
      have n1 := bok_nok h1
      have n2 := bok_nok h2
      have l1 := nok_len n1
      have l2 := nok_len n2
      have hl := mul_len n1 n2
      rw [spec_l02Mul_ok x y (nok_Dig n1) (nok_Dig n2) (by omega) (by omega) _ (by omega)]
      simp only [Option.bind_some]
      rw [spec_l03Make_ok _ _ (by omega) _ (by omega)]
      rfl
theorem impl_ok (a : Bool) (x : List Int) (b : Bool) (y : List Int) : impl_BigIntMul.f 1100002 a x b y = some (rm1 a x b y, rm2 a x b y) := by
  unfold impl_BigIntMul.f rm1 rm2
  rw [impl_BigIntOk_ok a x]
  cases h1 : bok a x
  · simp [impl_BigIntMul.j0]
  · simp only [Option.bind_some, ↓reduceIte]
    rw [impl_BigIntOk_ok b y]
    cases h2 : bok b y
    · simp [impl_BigIntMul.j0]
    · simp only [Option.bind_some, Bool.not_true, impl_BigIntMul.j0, Bool.false_eq_true, ↓reduceIte, Bool.and_self, Bool.true_and]
      have n1 := bok_nok h1
      have n2 := bok_nok h2
      have l1 := nok_len n1
      have l2 := nok_len n2
      have hl := mul_len n1 n2
      unfold impl_BigInt_times.f
      rw [impl_times_ok x y (nok_Dig n1) (nok_Dig n2) (by omega) (by omega) _ (by omega)]
      simp only [Option.bind_some, impl_signed_ok]
      rw [impl_fewer_ok _ _ (by omega)]
      rfl
theorem Cl.len0 {a0_0 : Bool} {l0_1 : List Int} {a1_0 : Bool} {l1_1 : List Int} (hl0_1 : l0_1.length ≤ 1048576) (hl1_1 : l1_1.length ≤ 1048576) : (rm2 a0_0 l0_1 a1_0 l1_1).length ≤ 1048576 := Nat.le_trans (rm2_len _ _ _ _) (by decide)
theorem Cl.spec (a0_0 : Bool) (Al0_1 : Option Addr) (cl0_1 : Nat) (l0_1 : List Int) (a1_0 : Bool) (Al1_1 : Option Addr) (cl1_1 : Nat) (l1_1 : List Int) (w : World) (hrl0_1 : Kd.C (Kd.int .i64) w Al0_1 l0_1.length l0_1) (hcl0_1 : l0_1.length ≤ cl0_1) (hrl1_1 : Kd.C (Kd.int .i64) w Al1_1 l1_1.length l1_1) (hcl1_1 : l1_1.length ≤ cl1_1) (hll0_1 : l0_1.length ≤ 1048576) (hll1_1 : l1_1.length ≤ 1048576) : Calls Try.prog 36 #[.agg #[.bool a0_0, .slice Al0_1 l0_1.length cl0_1], .agg #[.bool a1_0, .slice Al1_1 l1_1.length cl1_1]] w fun e w' => ∃ v, e = .returned (.agg #[.bool (rm1 a0_0 l0_1 a1_0 l1_1), v]) ∧ Kd.R (Kd.int .i64) 3 w' w.heap.size (fun _ => True) v (rm2 a0_0 l0_1 a1_0 l1_1) ∧ Below w.heap.size w w' :=
  spec_BigIntMul.calls 1100002 a0_0 _ _ l0_1 a1_0 _ _ l1_1 _ _ w hrl0_1 hcl0_1 hrl1_1 hcl1_1 (spec_ok _ _ _ _ hll0_1 hll1_1)
theorem Cl.impl (a0_0 : Bool) (Al0_1 : Option Addr) (cl0_1 : Nat) (l0_1 : List Int) (a1_0 : Bool) (Al1_1 : Option Addr) (cl1_1 : Nat) (l1_1 : List Int) (w : World) (hrl0_1 : Kd.C (Kd.int .i64) w Al0_1 l0_1.length l0_1) (hcl0_1 : l0_1.length ≤ cl0_1) (hrl1_1 : Kd.C (Kd.int .i64) w Al1_1 l1_1.length l1_1) (hcl1_1 : l1_1.length ≤ cl1_1) (hll0_1 : l0_1.length ≤ 1048576) (hll1_1 : l1_1.length ≤ 1048576) : Calls Try.prog 37 #[.agg #[.bool a0_0, .slice Al0_1 l0_1.length cl0_1], .agg #[.bool a1_0, .slice Al1_1 l1_1.length cl1_1]] w fun e w' => ∃ v, e = .returned (.agg #[.bool (rm1 a0_0 l0_1 a1_0 l1_1), v]) ∧ Kd.R (Kd.int .i64) 3 w' w.heap.size (fun _ => True) v (rm2 a0_0 l0_1 a1_0 l1_1) ∧ Below w.heap.size w w' :=
  impl_BigIntMul.calls 1100002 a0_0 _ _ l0_1 a1_0 _ _ l1_1 _ _ w hrl0_1 hcl0_1 hrl1_1 hcl1_1 (impl_ok _ _ _ _)

theorem Cl.eqBigInt (b : Bool) (A : Option Addr) (c : Nat) (B : Option Addr) (d : Nat) (l : List Int) (w : World) (hr : Kd.C (Kd.int .i64) w A l.length l) (hc : l.length ≤ c) (hr2 : Kd.C (Kd.int .i64) w B l.length l) (hc2 : l.length ≤ d) (hl : l.length ≤ 1048576) :
    Calls Try.prog 29 #[.agg #[.bool b, .slice A l.length c], .agg #[.bool b, .slice B l.length d]] w fun e w' => e = .returned (.bool true) ∧ Below w.heap.size w w' :=
  laws_eqBigInt.calls (l.length + 1) b A c l b B d l _ w hr hc hr2 hc2 (eqBigInt_same b l (by omega) _ (by omega))

theorem Cl.heldBigInt (b : Bool) (A : Option Addr) (c : Nat) (n : Nat) (a : Int) (w : World) (hr : Kd.C (Kd.int .i64) w A (mk a n).length (mk a n)) (hc : n ≤ c) (hl : n ≤ 1048576) (h0 : 0 ≤ a) (h1 : a ≤ 1152921504000000000) :
    Calls Try.prog 33 #[.agg #[.bool b, .slice A n c], .int .i64 a] w fun e w' => e = .returned (.int .i64 (kadd a n)) ∧ Below w.heap.size w w' := by
  have h := laws_heldBigInt.calls (n + 1) b A c (mk a n) a _ w hr (by rw [mk_length]; exact hc) (heldBigInt_ok b n a _ (by omega) h0 (by omega))
  rw [mk_length] at h
  exact h

theorem Cl.markBigInt (b : Bool) (P0 : Nat → Prop) (v : Value) (l : List Int) (a : Int) (w0 w : World) (hB : Below w0.heap.size w0 w) (hr : Kd.R (Kd.int .i64) 3 w w0.heap.size P0 v l) (hl : l.length ≤ 1048576) (h0 : 0 ≤ a) (h1 : a ≤ 1152921504000000000) :
    Calls Try.prog 32 #[.agg #[.bool b, v], .int .i64 a] w fun e w' => e = .returned (.int .i64 (kadd a l.length)) ∧ Kd.R (Kd.int .i64) 3 w' w0.heap.size (fun k_ => (P0 k_ ∨ w.heap.size ≤ k_)) v (mk a l.length) ∧ Below w0.heap.size w0 w' ∧ Kept w w' (fun k_ => P0 k_) :=
  laws_markBigInt.calls (l.length + 1) b P0 v l a _ _ w0 w hB hr (markBigInt_ok b l a _ (by omega) h0 (by omega) (by omega))

theorem Cl.szBigInt (b : Bool) (A : Option Addr) (c : Nat) (l : List Int) (a : Int) (w : World) (hr : Kd.C (Kd.int .i64) w A l.length l) (hc : l.length ≤ c) (hl : l.length ≤ maxLen) (h0 : 0 ≤ a) (h1 : a ≤ 1048576) :
    Calls Try.prog 25 #[.agg #[.bool b, .slice A l.length c], .int .i64 a] w fun e w' => e = .returned (.int .i64 (szv a (l.length))) ∧ Below w.heap.size w w' :=
  laws_szBigInt.calls b A c l a _ w hr hc (szBigInt_ok b l a h0 h1 hl)

theorem Cl.toBigInt (b : Bool) (A : Option Addr) (c : Nat) (l : List Int) (w : World) (hr : Kd.C (Kd.int .i64) w A l.length l) (hc : l.length ≤ c) (hl : l.length ≤ 1048576) :
    Calls Try.prog 27 #[.agg #[.bool b, .slice A l.length c]] w fun e w' => ∃ v, e = .returned (.agg #[.bool b, v]) ∧ Kd.R (Kd.int .i64) 3 w' w.heap.size (fun _ => True) v l ∧ Below w.heap.size w w' :=
  laws_toBigInt.calls (l.length + 1) b A c l _ _ w hr hc (toBigInt_ok b l hl _ (by omega))

set_option maxHeartbeats 8000000 in
set_option maxRecDepth 100000 in
theorem _root_.Go.Proofs.Ytmnahdoomnbdoaa.PFnExactBigIntMul.laws_FnExactBigIntMul.walk (a0_0 : Bool) (Al0_1 : Option Addr) (cl0_1 : Nat) (l0_1 : List Int) (a1_0 : Bool) (Al1_1 : Option Addr) (cl1_1 : Nat) (l1_1 : List Int) (w : World) (hrl0_1 : Kd.C (Kd.int .i64) w Al0_1 l0_1.length l0_1) (hcl0_1 : l0_1.length ≤ cl0_1) (hrl1_1 : Kd.C (Kd.int .i64) w Al1_1 l1_1.length l1_1) (hcl1_1 : l1_1.length ≤ cl1_1) (hml0_1 : l0_1.length ≤ maxLen) (hml1_1 : l1_1.length ≤ maxLen) :
    Calls Try.prog 9 #[.agg #[.bool a0_0, .slice Al0_1 l0_1.length cl0_1], .agg #[.bool a1_0, .slice Al1_1 l1_1.length cl1_1]] w fun e w' => e = .returned (.bool true) ∧ Below w.heap.size w w' := by
  have hu28 := Try.underlying28
  have hu31 := Try.underlying31
  have hz1a : (0 : Int) ≤ 1048576 := by decide
  have hz1b : 1048576 ≤ (1048576 : Int) := by decide
  by_cases z1 : (szv 1048576 (l0_1.length)) < 0
  · have hzd1 : decide ((szv 1048576 (l0_1.length)) < 0) = true := decide_eq_true z1
    have H := Aside0.mk (Held.none_ w)
    go_enter Try.func9, Try.ntmps9
    try go_wp2_with (first | ((with_reducible refine gate_dst (N := 2) rfl ?_); refine box_event ?hg (N := 2) ?hd (cs := #[.bool a0_0, .slice Al0_1 l0_1.length cl0_1]) (t := 28) ?hr ?_; (case hd => rfl); (case hg => rfl); (case hr => first | (go_simp; done) | (go_simp; rfl)); intro g1 hg w2 hbox hb; have H' := Aside0.mk (Held.boxed (by repeat (first | exact H.out | refine Held.drewN ?_ _ | refine Held.drew ?_)) hg hbox hb); clear H; have H := H'; clear H'; clear hbox hg hb; ) | ((with_reducible refine gate_dst (N := 3) rfl ?_); refine box_event ?hg (N := 3) ?hd (cs := #[.bool a1_0, .slice Al1_1 l1_1.length cl1_1]) (t := 28) ?hr ?_; (case hd => rfl); (case hg => rfl); (case hr => first | (go_simp; done) | (go_simp; rfl)); intro g3 hg w4 hbox hb; have H' := Aside0.mk (Held.boxed (by repeat (first | exact H.out | refine Held.drewN ?_ _ | refine Held.drew ?_)) hg hbox hb); clear H; have H := H'; clear H'; clear hbox hg hb; have f5 := H.out.cell 1 rfl 0 rfl; have f6 := H.out.cell 1 rfl 1 rfl; ) | ((with_reducible refine gate_callee (f := 25) rfl ?_); refine goesL_ (some 16) rfl rfl Try.func25 (by kernel_rfl) rfl #[.agg #[.bool a0_0, .slice Al0_1 l0_1.length cl0_1], .int .i64 1048576] rfl (by (try simp only [List.map_toArray, List.map_cons, List.map_nil]); first | done | rfl) ?_; clear f5 f6; (with_reducible refine (Cl.szBigInt a0_0 _ _ l0_1 1048576 _ (Kd.C_below hrl0_1 (Held.below (by repeat (first | exact H.out | refine Held.drewN ?_ _ | refine Held.drew ?_)))) hcl0_1 hml0_1 hz1a hz1b).mono ?_); rintro e w7 ⟨rfl, hb⟩; refine ⟨_, rfl, ?_⟩; have H' := Aside0.mk (Held.grow (by repeat (first | exact H.out | refine Held.drewN ?_ _ | refine Held.drew ?_)) hb); clear H; have H := H'; clear H'; clear hb; ))
    go_ret
    exact ⟨rfl, Held.below (by repeat (first | exact H.out | refine Held.drewN ?_ _ | refine Held.drew ?_))⟩
  have hzd1 : decide ((szv 1048576 (l0_1.length)) < 0) = false := decide_eq_false z1
  have hz2a : (0 : Int) ≤ (szv 1048576 (l0_1.length)) := szv_nn z1
  have hz2b : (szv 1048576 (l0_1.length)) ≤ (1048576 : Int) := szv_le hz1a hz1b
  by_cases z2 : (szv (szv 1048576 (l0_1.length)) (l1_1.length)) < 0
  · have hzd2 : decide ((szv (szv 1048576 (l0_1.length)) (l1_1.length)) < 0) = true := decide_eq_true z2
    have H := Aside0.mk (Held.none_ w)
    go_enter Try.func9, Try.ntmps9
    try go_wp2_with (first | ((with_reducible refine gate_dst (N := 2) rfl ?_); refine box_event ?hg (N := 2) ?hd (cs := #[.bool a0_0, .slice Al0_1 l0_1.length cl0_1]) (t := 28) ?hr ?_; (case hd => rfl); (case hg => rfl); (case hr => first | (go_simp; done) | (go_simp; rfl)); intro g8 hg w9 hbox hb; have H' := Aside0.mk (Held.boxed (by repeat (first | exact H.out | refine Held.drewN ?_ _ | refine Held.drew ?_)) hg hbox hb); clear H; have H := H'; clear H'; clear hbox hg hb; ) | ((with_reducible refine gate_dst (N := 3) rfl ?_); refine box_event ?hg (N := 3) ?hd (cs := #[.bool a1_0, .slice Al1_1 l1_1.length cl1_1]) (t := 28) ?hr ?_; (case hd => rfl); (case hg => rfl); (case hr => first | (go_simp; done) | (go_simp; rfl)); intro g10 hg w11 hbox hb; have H' := Aside0.mk (Held.boxed (by repeat (first | exact H.out | refine Held.drewN ?_ _ | refine Held.drew ?_)) hg hbox hb); clear H; have H := H'; clear H'; clear hbox hg hb; have f12 := H.out.cell 1 rfl 0 rfl; have f13 := H.out.cell 1 rfl 1 rfl; ) | ((with_reducible refine gate_callee (f := 25) rfl ?_); refine goesL_ (some 16) rfl rfl Try.func25 (by kernel_rfl) rfl #[.agg #[.bool a0_0, .slice Al0_1 l0_1.length cl0_1], .int .i64 1048576] rfl (by (try simp only [List.map_toArray, List.map_cons, List.map_nil]); first | done | rfl) ?_; clear f12 f13; (with_reducible refine (Cl.szBigInt a0_0 _ _ l0_1 1048576 _ (Kd.C_below hrl0_1 (Held.below (by repeat (first | exact H.out | refine Held.drewN ?_ _ | refine Held.drew ?_)))) hcl0_1 hml0_1 hz1a hz1b).mono ?_); rintro e w14 ⟨rfl, hb⟩; refine ⟨_, rfl, ?_⟩; have H' := Aside0.mk (Held.grow (by repeat (first | exact H.out | refine Held.drewN ?_ _ | refine Held.drew ?_)) hb); clear H; have H := H'; clear H'; clear hb; have f15 := H.out.cell 0 rfl 0 rfl; have f16 := H.out.cell 0 rfl 1 rfl; ) | ((with_reducible refine gate_callee (f := 25) rfl ?_); refine goesL_ (some 21) rfl rfl Try.func25 (by kernel_rfl) rfl #[.agg #[.bool a1_0, .slice Al1_1 l1_1.length cl1_1], .int .i64 (szv 1048576 (l0_1.length))] rfl (by (try simp only [List.map_toArray, List.map_cons, List.map_nil]); first | done | rfl) ?_; clear f15 f16; (with_reducible refine (Cl.szBigInt a1_0 _ _ l1_1 (szv 1048576 (l0_1.length)) _ (Kd.C_below hrl1_1 (Held.below (by repeat (first | exact H.out | refine Held.drewN ?_ _ | refine Held.drew ?_)))) hcl1_1 hml1_1 hz2a hz2b).mono ?_); rintro e w17 ⟨rfl, hb⟩; refine ⟨_, rfl, ?_⟩; have H' := Aside0.mk (Held.grow (by repeat (first | exact H.out | refine Held.drewN ?_ _ | refine Held.drew ?_)) hb); clear H; have H := H'; clear H'; clear hb; ))
    go_ret
    exact ⟨rfl, Held.below (by repeat (first | exact H.out | refine Held.drewN ?_ _ | refine Held.drew ?_))⟩
  have hzd2 : decide ((szv (szv 1048576 (l0_1.length)) (l1_1.length)) < 0) = false := decide_eq_false z2
  have hll0_1 : l0_1.length ≤ 1048576 := by have := szv_len hz1b z1; omega
  have hll1_1 : l1_1.length ≤ 1048576 := by have := szv_len hz2b z2; omega
  have H := Aside0.mk (Held.none_ w)
  go_enter Try.func9, Try.ntmps9
  try go_wp2_with (first | ((with_reducible refine gate_dst (N := 2) rfl ?_); refine box_event ?hg (N := 2) ?hd (cs := #[.bool a0_0, .slice Al0_1 l0_1.length cl0_1]) (t := 28) ?hr ?_; (case hd => rfl); (case hg => rfl); (case hr => first | (go_simp; done) | (go_simp; rfl)); intro g18 hg w19 hbox hb; have H' := Aside0.mk (Held.boxed (by repeat (first | exact H.out | refine Held.drewN ?_ _ | refine Held.drew ?_)) hg hbox hb); clear H; have H := H'; clear H'; clear hbox hg hb; ) | ((with_reducible refine gate_dst (N := 3) rfl ?_); refine box_event ?hg (N := 3) ?hd (cs := #[.bool a1_0, .slice Al1_1 l1_1.length cl1_1]) (t := 28) ?hr ?_; (case hd => rfl); (case hg => rfl); (case hr => first | (go_simp; done) | (go_simp; rfl)); intro g20 hg w21 hbox hb; have H' := Aside0.mk (Held.boxed (by repeat (first | exact H.out | refine Held.drewN ?_ _ | refine Held.drew ?_)) hg hbox hb); clear H; have H := H'; clear H'; clear hbox hg hb; have f22 := H.out.cell 1 rfl 0 rfl; have f23 := H.out.cell 1 rfl 1 rfl; ) | ((with_reducible refine gate_callee (f := 25) rfl ?_); refine goesL_ (some 16) rfl rfl Try.func25 (by kernel_rfl) rfl #[.agg #[.bool a0_0, .slice Al0_1 l0_1.length cl0_1], .int .i64 1048576] rfl (by (try simp only [List.map_toArray, List.map_cons, List.map_nil]); first | done | rfl) ?_; clear f22 f23; (with_reducible refine (Cl.szBigInt a0_0 _ _ l0_1 1048576 _ (Kd.C_below hrl0_1 (Held.below (by repeat (first | exact H.out | refine Held.drewN ?_ _ | refine Held.drew ?_)))) hcl0_1 hml0_1 hz1a hz1b).mono ?_); rintro e w24 ⟨rfl, hb⟩; refine ⟨_, rfl, ?_⟩; have H' := Aside0.mk (Held.grow (by repeat (first | exact H.out | refine Held.drewN ?_ _ | refine Held.drew ?_)) hb); clear H; have H := H'; clear H'; clear hb; have f25 := H.out.cell 0 rfl 0 rfl; have f26 := H.out.cell 0 rfl 1 rfl; ) | ((with_reducible refine gate_callee (f := 25) rfl ?_); refine goesL_ (some 21) rfl rfl Try.func25 (by kernel_rfl) rfl #[.agg #[.bool a1_0, .slice Al1_1 l1_1.length cl1_1], .int .i64 (szv 1048576 (l0_1.length))] rfl (by (try simp only [List.map_toArray, List.map_cons, List.map_nil]); first | done | rfl) ?_; clear f25 f26; (with_reducible refine (Cl.szBigInt a1_0 _ _ l1_1 (szv 1048576 (l0_1.length)) _ (Kd.C_below hrl1_1 (Held.below (by repeat (first | exact H.out | refine Held.drewN ?_ _ | refine Held.drew ?_)))) hcl1_1 hml1_1 hz2a hz2b).mono ?_); rintro e w27 ⟨rfl, hb⟩; refine ⟨_, rfl, ?_⟩; have H' := Aside0.mk (Held.grow (by repeat (first | exact H.out | refine Held.drewN ?_ _ | refine Held.drew ?_)) hb); clear H; have H := H'; clear H'; clear hb; ))
  have H' := Aside0.mk (Held.drew (by repeat (first | exact H.out | refine Held.drewN ?_ _ | refine Held.drew ?_))); clear H; have H := H'; clear H'
  refine start_ (n := 7) (S := fun w' => w'.cell? ⟨g18, 0, none⟩ = some (.bool a0_0) ∧ w'.cell? ⟨g18, 1, none⟩ = some (.slice Al0_1 l0_1.length cl0_1) ∧ w'.cell? ⟨g20, 0, none⟩ = some (.bool a1_0) ∧ w'.cell? ⟨g20, 1, none⟩ = some (.slice Al1_1 l1_1.length cl1_1)) (ds := []) #[false, false, false, false, false, false, false] (by kernel_rfl) rfl rfl ⟨H.out.cell 1 rfl 0 rfl, H.out.cell 1 rfl 1 rfl, H.out.cell 0 rfl 0 rfl, H.out.cell 0 rfl 1 rfl⟩ (fun hHeld => ?_)
  refine take_ (i := 0) (N := some 24) (v := ?_) (a' := ?_) #[true, false, false, false, false, false, false] rfl rfl (by kernel_rfl) (fun _ _ _ h => h) (Or.inl ⟨by rfl, ?_⟩) hHeld ?_ ?_
  rotate_left
  · rintro w' ⟨s0, s1, s2, s3⟩
    go_simp
    with_reducible rfl
  rotate_left
  · simp only [Act.put, List.setIfInBounds_toArray, List.set_cons_zero, List.set_cons_succ, i64_w, i32_w]
    rfl
  refine take_ (i := 2) (N := some 26) (v := ?_) (a' := ?_) #[true, false, true, false, false, false, false] rfl rfl (by kernel_rfl) (fun _ _ _ h => h) (Or.inl ⟨by rfl, ?_⟩) hHeld ?_ ?_
  rotate_left
  · rintro w' ⟨s0, s1, s2, s3⟩
    go_simp
    with_reducible rfl
  rotate_left
  · simp only [Act.put, List.setIfInBounds_toArray, List.set_cons_zero, List.set_cons_succ, i64_w, i32_w]
    rfl
  refine join_ (σ := (Option Addr × Nat × (Nat → Prop)) × (Option Addr × Nat × (Nat → Prop)) × (Option Addr × Nat × (Nat → Prop)) × Nat) 1 #[true, true, true, true, true, true, false] (fun s_ => [(25, .agg #[.bool a0_0, .slice s_.1.1 l0_1.length s_.1.2.1]), (27, .agg #[.bool a1_0, .slice s_.2.1.1 l1_1.length s_.2.1.2.1]), (28, .agg #[.bool (rm1 a0_0 l0_1 a1_0 l1_1), .slice s_.2.2.1.1 (rm2 a0_0 l0_1 a1_0 l1_1).length s_.2.2.1.2.1]), (6, .pointer (some ⟨s_.2.2.2, 0, none⟩))]) (fun s_ w' => Held w w' [row (Kd.int .i64) 3 w.heap.size (.slice s_.1.1 l0_1.length s_.1.2.1) l0_1 s_.1.2.2, row (Kd.int .i64) 3 w.heap.size (.slice s_.2.1.1 l1_1.length s_.2.1.2.1) l1_1 s_.2.1.2.2, row (Kd.int .i64) 3 w.heap.size (.slice s_.2.2.1.1 (rm2 a0_0 l0_1 a1_0 l1_1).length s_.2.2.1.2.1) (rm2 a0_0 l0_1 a1_0 l1_1) s_.2.2.1.2.2, box s_.2.2.2 #[.bool false, .slice none 0 0] 31, box g20 #[.bool a1_0, .slice Al1_1 l1_1.length cl1_1] 28, box g18 #[.bool a0_0, .slice Al0_1 l0_1.length cl0_1] 28]) ?_ ?_
  rotate_left
  · intro hCont
    refine two_ (i := 1) (j := 5) (Ni := some 25) (Nj := some 6) #[true, true, true, false, false, false, false] #[true, false, true, false, false, true, false] rfl rfl rfl rfl (by kernel_rfl) (by decide) (by decide) (fun K hK => ?_) (fun K hK => ?_)
    · skip
      refine goes_ Try.func27 (by kernel_rfl) rfl #[.agg #[.bool a0_0, .slice Al0_1 l0_1.length cl0_1]] (by rfl) rfl rfl (by (try simp only [List.map_toArray, List.map_cons, List.map_nil]); first | done | rfl) ?_
      with_reducible refine (Cl.toBigInt a0_0 _ _ l0_1 _ (Kd.C_below hrl0_1 (Held.below (by repeat (first | exact H.out | refine Held.drewN ?_ _ | refine Held.drew ?_)))) hcl0_1 hll0_1).mono ?_
      rintro e w28 ⟨v29, rfl, ho, hb⟩
      refine ⟨_, rfl, ?_⟩
      obtain ⟨ov29, H'⟩ := Held.fresh (by repeat (first | exact H.out | refine Held.drewN ?_ _ | refine Held.drew ?_)) ho hb
      clear ho hb H
      have H := Aside0.mk H'
      clear H'
      obtain ⟨Av29, cv29, rfl⟩ := Kd.R_slice (H.out.rowAt 0 rfl)
      refine hK.out _ _ ⟨H.out.cell 2 rfl 0 rfl, H.out.cell 2 rfl 1 rfl, H.out.cell 1 rfl 0 rfl, H.out.cell 1 rfl 1 rfl⟩ (fun hHeld => ?_)
      clear hK K
      refine norm_ (a' := ?_) ?_ ?_
      rotate_left
      · show Act.put _ (some 25) _ = _
        simp only [Act.put, List.setIfInBounds_toArray, List.set_cons_zero, List.set_cons_succ, i64_w, i32_w]
        rfl
      refine two_ (i := 3) (j := 5) (Ni := some 27) (Nj := some 6) #[true, true, true, true, false, false, false] #[true, true, true, false, false, true, false] rfl rfl rfl rfl (by kernel_rfl) (by decide) (by decide) (fun K hK => ?_) (fun K hK => ?_)
      · skip
        refine goes_ Try.func27 (by kernel_rfl) rfl #[.agg #[.bool a1_0, .slice Al1_1 l1_1.length cl1_1]] (by rfl) rfl rfl (by (try simp only [List.map_toArray, List.map_cons, List.map_nil]); first | done | rfl) ?_
        with_reducible refine (Cl.toBigInt a1_0 _ _ l1_1 _ (Kd.C_below hrl1_1 (Held.below (by repeat (first | exact H.out | refine Held.drewN ?_ _ | refine Held.drew ?_)))) hcl1_1 hll1_1).mono ?_
        rintro e w30 ⟨v31, rfl, ho, hb⟩
        refine ⟨_, rfl, ?_⟩
        obtain ⟨ov31, H'⟩ := Held.fresh (by repeat (first | exact H.out | refine Held.drewN ?_ _ | refine Held.drew ?_)) ho hb
        clear ho hb H
        have H := Aside0.mk H'
        clear H'
        obtain ⟨Av31, cv31, rfl⟩ := Kd.R_slice (H.out.rowAt 0 rfl)
        refine hK.out _ _ ⟨H.out.cell 3 rfl 0 rfl, H.out.cell 3 rfl 1 rfl, H.out.cell 2 rfl 0 rfl, H.out.cell 2 rfl 1 rfl⟩ (fun hHeld => ?_)
        clear hK K
        refine norm_ (a' := ?_) ?_ ?_
        rotate_left
        · show Act.put _ (some 27) _ = _
          simp only [Act.put, List.setIfInBounds_toArray, List.set_cons_zero, List.set_cons_succ, i64_w, i32_w]
          rfl
        refine two_ (i := 4) (j := 5) (Ni := some 28) (Nj := some 6) #[true, true, true, true, true, false, false] #[true, true, true, true, false, true, false] rfl rfl rfl rfl (by kernel_rfl) (by decide) (by decide) (fun K hK => ?_) (fun K hK => ?_)
        · skip
          refine goes_ Try.func36 (by kernel_rfl) rfl #[.agg #[.bool a0_0, .slice Av29 l0_1.length cv29], .agg #[.bool a1_0, .slice Av31 l1_1.length cv31]] (by rfl) rfl rfl (by (try simp only [List.map_toArray, List.map_cons, List.map_nil]); first | done | rfl) ?_
          with_reducible refine (Cl.spec a0_0 _ _ l0_1 a1_0 _ _ l1_1 _ (Held.reads (by repeat (first | exact H.out | refine Held.drewN ?_ _ | refine Held.drew ?_)) 1 rfl).2.2 (Held.reads (by repeat (first | exact H.out | refine Held.drewN ?_ _ | refine Held.drew ?_)) 1 rfl).2.1 (Held.reads (by repeat (first | exact H.out | refine Held.drewN ?_ _ | refine Held.drew ?_)) 0 rfl).2.2 (Held.reads (by repeat (first | exact H.out | refine Held.drewN ?_ _ | refine Held.drew ?_)) 0 rfl).2.1 hll0_1 hll1_1).mono ?_
          rintro e w32 ⟨v33, rfl, ho, hb⟩
          refine ⟨_, rfl, ?_⟩
          obtain ⟨ov33, H'⟩ := Held.fresh (by repeat (first | exact H.out | refine Held.drewN ?_ _ | refine Held.drew ?_)) ho hb
          clear ho hb H
          have H := Aside0.mk H'
          clear H'
          obtain ⟨Av33, cv33, rfl⟩ := Kd.R_slice (H.out.rowAt 0 rfl)
          refine hK.out _ _ ⟨H.out.cell 4 rfl 0 rfl, H.out.cell 4 rfl 1 rfl, H.out.cell 3 rfl 0 rfl, H.out.cell 3 rfl 1 rfl⟩ (fun hHeld => ?_)
          clear hK K
          refine norm_ (a' := ?_) ?_ ?_
          rotate_left
          · show Act.put _ (some 28) _ = _
            simp only [Act.put, List.setIfInBounds_toArray, List.set_cons_zero, List.set_cons_succ, i64_w, i32_w]
            rfl
          refine one_ (i := 5) (N := some 6) #[true, true, true, true, true, true, false] rfl rfl (by kernel_rfl) (by decide) (fun K hK => ?_)
          refine box_step (by rfl) (N := 6) ?hd (cs := #[.bool false, .slice none 0 0]) (t := 31) ?hr ?_
          (case hd => rfl)
          (case hr => first | (go_simp; done) | (go_simp; rfl))
          intro g34 hg w35 hbox hb
          have H' := Aside0.mk (Held.boxed (by repeat (first | exact H.out | refine Held.drewN ?_ _ | refine Held.drew ?_)) hg hbox hb); clear H; have H := H'; clear H'
          clear hbox hg hb
          refine hK.out _ _ ⟨H.out.cell 5 rfl 0 rfl, H.out.cell 5 rfl 1 rfl, H.out.cell 4 rfl 0 rfl, H.out.cell 4 rfl 1 rfl⟩ (fun hHeld => ?_)
          clear hK K
          refine norm_ (a' := ?_) ?_ ?_
          rotate_left
          · show Act.put _ (some 6) _ = _
            simp only [Act.put, List.setIfInBounds_toArray, List.set_cons_zero, List.set_cons_succ, i64_w, i32_w]
            rfl
          exact norm_ (by simp only [putAll, Act.put, List.setIfInBounds_toArray, List.set_cons_zero, List.set_cons_succ]) (hCont ((Av29, cv29, ov29), (Av31, cv31, ov31), (Av33, cv33, ov33), g34) _ (Held.pick H.out [3, 2, 1, 0, 4, 5] (by decide) rfl))
        · skip
          refine box_step (by rfl) (N := 6) ?hd (cs := #[.bool false, .slice none 0 0]) (t := 31) ?hr ?_
          (case hd => rfl)
          (case hr => first | (go_simp; done) | (go_simp; rfl))
          intro g36 hg w37 hbox hb
          have H' := Aside0.mk (Held.boxed (by repeat (first | exact H.out | refine Held.drewN ?_ _ | refine Held.drew ?_)) hg hbox hb); clear H; have H := H'; clear H'
          clear hbox hg hb
          refine hK.out _ _ ⟨H.out.cell 4 rfl 0 rfl, H.out.cell 4 rfl 1 rfl, H.out.cell 3 rfl 0 rfl, H.out.cell 3 rfl 1 rfl⟩ (fun hHeld => ?_)
          clear hK K
          refine norm_ (a' := ?_) ?_ ?_
          rotate_left
          · show Act.put _ (some 6) _ = _
            simp only [Act.put, List.setIfInBounds_toArray, List.set_cons_zero, List.set_cons_succ, i64_w, i32_w]
            rfl
          refine one_ (i := 4) (N := some 28) #[true, true, true, true, true, true, false] rfl rfl (by kernel_rfl) (by decide) (fun K hK => ?_)
          refine goes_ Try.func36 (by kernel_rfl) rfl #[.agg #[.bool a0_0, .slice Av29 l0_1.length cv29], .agg #[.bool a1_0, .slice Av31 l1_1.length cv31]] (by rfl) rfl rfl (by (try simp only [List.map_toArray, List.map_cons, List.map_nil]); first | done | rfl) ?_
          with_reducible refine (Cl.spec a0_0 _ _ l0_1 a1_0 _ _ l1_1 _ (Held.reads (by repeat (first | exact H.out | refine Held.drewN ?_ _ | refine Held.drew ?_)) 2 rfl).2.2 (Held.reads (by repeat (first | exact H.out | refine Held.drewN ?_ _ | refine Held.drew ?_)) 2 rfl).2.1 (Held.reads (by repeat (first | exact H.out | refine Held.drewN ?_ _ | refine Held.drew ?_)) 1 rfl).2.2 (Held.reads (by repeat (first | exact H.out | refine Held.drewN ?_ _ | refine Held.drew ?_)) 1 rfl).2.1 hll0_1 hll1_1).mono ?_
          rintro e w38 ⟨v39, rfl, ho, hb⟩
          refine ⟨_, rfl, ?_⟩
          obtain ⟨ov39, H'⟩ := Held.fresh (by repeat (first | exact H.out | refine Held.drewN ?_ _ | refine Held.drew ?_)) ho hb
          clear ho hb H
          have H := Aside0.mk H'
          clear H'
          obtain ⟨Av39, cv39, rfl⟩ := Kd.R_slice (H.out.rowAt 0 rfl)
          refine hK.out _ _ ⟨H.out.cell 5 rfl 0 rfl, H.out.cell 5 rfl 1 rfl, H.out.cell 4 rfl 0 rfl, H.out.cell 4 rfl 1 rfl⟩ (fun hHeld => ?_)
          clear hK K
          refine norm_ (a' := ?_) ?_ ?_
          rotate_left
          · show Act.put _ (some 28) _ = _
            simp only [Act.put, List.setIfInBounds_toArray, List.set_cons_zero, List.set_cons_succ, i64_w, i32_w]
            rfl
          exact norm_ (by simp only [putAll, Act.put, List.setIfInBounds_toArray, List.set_cons_zero, List.set_cons_succ]) (hCont ((Av29, cv29, ov29), (Av31, cv31, ov31), (Av39, cv39, ov39), g36) _ (Held.pick H.out [3, 2, 0, 1, 4, 5] (by decide) rfl))
      · skip
        refine box_step (by rfl) (N := 6) ?hd (cs := #[.bool false, .slice none 0 0]) (t := 31) ?hr ?_
        (case hd => rfl)
        (case hr => first | (go_simp; done) | (go_simp; rfl))
        intro g40 hg w41 hbox hb
        have H' := Aside0.mk (Held.boxed (by repeat (first | exact H.out | refine Held.drewN ?_ _ | refine Held.drew ?_)) hg hbox hb); clear H; have H := H'; clear H'
        clear hbox hg hb
        refine hK.out _ _ ⟨H.out.cell 3 rfl 0 rfl, H.out.cell 3 rfl 1 rfl, H.out.cell 2 rfl 0 rfl, H.out.cell 2 rfl 1 rfl⟩ (fun hHeld => ?_)
        clear hK K
        refine norm_ (a' := ?_) ?_ ?_
        rotate_left
        · show Act.put _ (some 6) _ = _
          simp only [Act.put, List.setIfInBounds_toArray, List.set_cons_zero, List.set_cons_succ, i64_w, i32_w]
          rfl
        refine one_ (i := 3) (N := some 27) #[true, true, true, true, false, true, false] rfl rfl (by kernel_rfl) (by decide) (fun K hK => ?_)
        refine goes_ Try.func27 (by kernel_rfl) rfl #[.agg #[.bool a1_0, .slice Al1_1 l1_1.length cl1_1]] (by rfl) rfl rfl (by (try simp only [List.map_toArray, List.map_cons, List.map_nil]); first | done | rfl) ?_
        with_reducible refine (Cl.toBigInt a1_0 _ _ l1_1 _ (Kd.C_below hrl1_1 (Held.below (by repeat (first | exact H.out | refine Held.drewN ?_ _ | refine Held.drew ?_)))) hcl1_1 hll1_1).mono ?_
        rintro e w42 ⟨v43, rfl, ho, hb⟩
        refine ⟨_, rfl, ?_⟩
        obtain ⟨ov43, H'⟩ := Held.fresh (by repeat (first | exact H.out | refine Held.drewN ?_ _ | refine Held.drew ?_)) ho hb
        clear ho hb H
        have H := Aside0.mk H'
        clear H'
        obtain ⟨Av43, cv43, rfl⟩ := Kd.R_slice (H.out.rowAt 0 rfl)
        refine hK.out _ _ ⟨H.out.cell 4 rfl 0 rfl, H.out.cell 4 rfl 1 rfl, H.out.cell 3 rfl 0 rfl, H.out.cell 3 rfl 1 rfl⟩ (fun hHeld => ?_)
        clear hK K
        refine norm_ (a' := ?_) ?_ ?_
        rotate_left
        · show Act.put _ (some 27) _ = _
          simp only [Act.put, List.setIfInBounds_toArray, List.set_cons_zero, List.set_cons_succ, i64_w, i32_w]
          rfl
        refine one_ (i := 4) (N := some 28) #[true, true, true, true, true, true, false] rfl rfl (by kernel_rfl) (by decide) (fun K hK => ?_)
        refine goes_ Try.func36 (by kernel_rfl) rfl #[.agg #[.bool a0_0, .slice Av29 l0_1.length cv29], .agg #[.bool a1_0, .slice Av43 l1_1.length cv43]] (by rfl) rfl rfl (by (try simp only [List.map_toArray, List.map_cons, List.map_nil]); first | done | rfl) ?_
        with_reducible refine (Cl.spec a0_0 _ _ l0_1 a1_0 _ _ l1_1 _ (Held.reads (by repeat (first | exact H.out | refine Held.drewN ?_ _ | refine Held.drew ?_)) 2 rfl).2.2 (Held.reads (by repeat (first | exact H.out | refine Held.drewN ?_ _ | refine Held.drew ?_)) 2 rfl).2.1 (Held.reads (by repeat (first | exact H.out | refine Held.drewN ?_ _ | refine Held.drew ?_)) 0 rfl).2.2 (Held.reads (by repeat (first | exact H.out | refine Held.drewN ?_ _ | refine Held.drew ?_)) 0 rfl).2.1 hll0_1 hll1_1).mono ?_
        rintro e w44 ⟨v45, rfl, ho, hb⟩
        refine ⟨_, rfl, ?_⟩
        obtain ⟨ov45, H'⟩ := Held.fresh (by repeat (first | exact H.out | refine Held.drewN ?_ _ | refine Held.drew ?_)) ho hb
        clear ho hb H
        have H := Aside0.mk H'
        clear H'
        obtain ⟨Av45, cv45, rfl⟩ := Kd.R_slice (H.out.rowAt 0 rfl)
        refine hK.out _ _ ⟨H.out.cell 5 rfl 0 rfl, H.out.cell 5 rfl 1 rfl, H.out.cell 4 rfl 0 rfl, H.out.cell 4 rfl 1 rfl⟩ (fun hHeld => ?_)
        clear hK K
        refine norm_ (a' := ?_) ?_ ?_
        rotate_left
        · show Act.put _ (some 28) _ = _
          simp only [Act.put, List.setIfInBounds_toArray, List.set_cons_zero, List.set_cons_succ, i64_w, i32_w]
          rfl
        exact norm_ (by simp only [putAll, Act.put, List.setIfInBounds_toArray, List.set_cons_zero, List.set_cons_succ]) (hCont ((Av29, cv29, ov29), (Av43, cv43, ov43), (Av45, cv45, ov45), g40) _ (Held.pick H.out [3, 1, 0, 2, 4, 5] (by decide) rfl))
    · skip
      refine box_step (by rfl) (N := 6) ?hd (cs := #[.bool false, .slice none 0 0]) (t := 31) ?hr ?_
      (case hd => rfl)
      (case hr => first | (go_simp; done) | (go_simp; rfl))
      intro g46 hg w47 hbox hb
      have H' := Aside0.mk (Held.boxed (by repeat (first | exact H.out | refine Held.drewN ?_ _ | refine Held.drew ?_)) hg hbox hb); clear H; have H := H'; clear H'
      clear hbox hg hb
      refine hK.out _ _ ⟨H.out.cell 2 rfl 0 rfl, H.out.cell 2 rfl 1 rfl, H.out.cell 1 rfl 0 rfl, H.out.cell 1 rfl 1 rfl⟩ (fun hHeld => ?_)
      clear hK K
      refine norm_ (a' := ?_) ?_ ?_
      rotate_left
      · show Act.put _ (some 6) _ = _
        simp only [Act.put, List.setIfInBounds_toArray, List.set_cons_zero, List.set_cons_succ, i64_w, i32_w]
        rfl
      refine one_ (i := 1) (N := some 25) #[true, true, true, false, false, true, false] rfl rfl (by kernel_rfl) (by decide) (fun K hK => ?_)
      refine goes_ Try.func27 (by kernel_rfl) rfl #[.agg #[.bool a0_0, .slice Al0_1 l0_1.length cl0_1]] (by rfl) rfl rfl (by (try simp only [List.map_toArray, List.map_cons, List.map_nil]); first | done | rfl) ?_
      with_reducible refine (Cl.toBigInt a0_0 _ _ l0_1 _ (Kd.C_below hrl0_1 (Held.below (by repeat (first | exact H.out | refine Held.drewN ?_ _ | refine Held.drew ?_)))) hcl0_1 hll0_1).mono ?_
      rintro e w48 ⟨v49, rfl, ho, hb⟩
      refine ⟨_, rfl, ?_⟩
      obtain ⟨ov49, H'⟩ := Held.fresh (by repeat (first | exact H.out | refine Held.drewN ?_ _ | refine Held.drew ?_)) ho hb
      clear ho hb H
      have H := Aside0.mk H'
      clear H'
      obtain ⟨Av49, cv49, rfl⟩ := Kd.R_slice (H.out.rowAt 0 rfl)
      refine hK.out _ _ ⟨H.out.cell 3 rfl 0 rfl, H.out.cell 3 rfl 1 rfl, H.out.cell 2 rfl 0 rfl, H.out.cell 2 rfl 1 rfl⟩ (fun hHeld => ?_)
      clear hK K
      refine norm_ (a' := ?_) ?_ ?_
      rotate_left
      · show Act.put _ (some 25) _ = _
        simp only [Act.put, List.setIfInBounds_toArray, List.set_cons_zero, List.set_cons_succ, i64_w, i32_w]
        rfl
      refine one_ (i := 3) (N := some 27) #[true, true, true, true, false, true, false] rfl rfl (by kernel_rfl) (by decide) (fun K hK => ?_)
      refine goes_ Try.func27 (by kernel_rfl) rfl #[.agg #[.bool a1_0, .slice Al1_1 l1_1.length cl1_1]] (by rfl) rfl rfl (by (try simp only [List.map_toArray, List.map_cons, List.map_nil]); first | done | rfl) ?_
      with_reducible refine (Cl.toBigInt a1_0 _ _ l1_1 _ (Kd.C_below hrl1_1 (Held.below (by repeat (first | exact H.out | refine Held.drewN ?_ _ | refine Held.drew ?_)))) hcl1_1 hll1_1).mono ?_
      rintro e w50 ⟨v51, rfl, ho, hb⟩
      refine ⟨_, rfl, ?_⟩
      obtain ⟨ov51, H'⟩ := Held.fresh (by repeat (first | exact H.out | refine Held.drewN ?_ _ | refine Held.drew ?_)) ho hb
      clear ho hb H
      have H := Aside0.mk H'
      clear H'
      obtain ⟨Av51, cv51, rfl⟩ := Kd.R_slice (H.out.rowAt 0 rfl)
      refine hK.out _ _ ⟨H.out.cell 4 rfl 0 rfl, H.out.cell 4 rfl 1 rfl, H.out.cell 3 rfl 0 rfl, H.out.cell 3 rfl 1 rfl⟩ (fun hHeld => ?_)
      clear hK K
      refine norm_ (a' := ?_) ?_ ?_
      rotate_left
      · show Act.put _ (some 27) _ = _
        simp only [Act.put, List.setIfInBounds_toArray, List.set_cons_zero, List.set_cons_succ, i64_w, i32_w]
        rfl
      refine one_ (i := 4) (N := some 28) #[true, true, true, true, true, true, false] rfl rfl (by kernel_rfl) (by decide) (fun K hK => ?_)
      refine goes_ Try.func36 (by kernel_rfl) rfl #[.agg #[.bool a0_0, .slice Av49 l0_1.length cv49], .agg #[.bool a1_0, .slice Av51 l1_1.length cv51]] (by rfl) rfl rfl (by (try simp only [List.map_toArray, List.map_cons, List.map_nil]); first | done | rfl) ?_
      with_reducible refine (Cl.spec a0_0 _ _ l0_1 a1_0 _ _ l1_1 _ (Held.reads (by repeat (first | exact H.out | refine Held.drewN ?_ _ | refine Held.drew ?_)) 1 rfl).2.2 (Held.reads (by repeat (first | exact H.out | refine Held.drewN ?_ _ | refine Held.drew ?_)) 1 rfl).2.1 (Held.reads (by repeat (first | exact H.out | refine Held.drewN ?_ _ | refine Held.drew ?_)) 0 rfl).2.2 (Held.reads (by repeat (first | exact H.out | refine Held.drewN ?_ _ | refine Held.drew ?_)) 0 rfl).2.1 hll0_1 hll1_1).mono ?_
      rintro e w52 ⟨v53, rfl, ho, hb⟩
      refine ⟨_, rfl, ?_⟩
      obtain ⟨ov53, H'⟩ := Held.fresh (by repeat (first | exact H.out | refine Held.drewN ?_ _ | refine Held.drew ?_)) ho hb
      clear ho hb H
      have H := Aside0.mk H'
      clear H'
      obtain ⟨Av53, cv53, rfl⟩ := Kd.R_slice (H.out.rowAt 0 rfl)
      refine hK.out _ _ ⟨H.out.cell 5 rfl 0 rfl, H.out.cell 5 rfl 1 rfl, H.out.cell 4 rfl 0 rfl, H.out.cell 4 rfl 1 rfl⟩ (fun hHeld => ?_)
      clear hK K
      refine norm_ (a' := ?_) ?_ ?_
      rotate_left
      · show Act.put _ (some 28) _ = _
        simp only [Act.put, List.setIfInBounds_toArray, List.set_cons_zero, List.set_cons_succ, i64_w, i32_w]
        rfl
      exact norm_ (by simp only [putAll, Act.put, List.setIfInBounds_toArray, List.set_cons_zero, List.set_cons_succ]) (hCont ((Av49, cv49, ov49), (Av51, cv51, ov51), (Av53, cv53, ov53), g46) _ (Held.pick H.out [2, 1, 0, 3, 4, 5] (by decide) rfl))
  rintro ⟨⟨Av55, cv55, ov55⟩, ⟨Av56, cv56, ov56⟩, ⟨Av57, cv57, ov57⟩, g58⟩ w59 hF
  clear hHeld H
  have H := Aside0.mk hF
  clear hF
  refine norm_ (a' := ?_) ?_ ?_
  rotate_left
  · simp only [putAll, Act.put, List.setIfInBounds_toArray, List.set_cons_zero, List.set_cons_succ]
    rfl
  refine one_ (i := 6) (N := none) #[true, true, true, true, true, true, true] rfl rfl (by kernel_rfl) (by decide) (fun K hK => ?_)
  have f61 := H.out.cell 3 rfl 0 rfl
  have f62 := H.out.frozen 3 rfl 0
  have f63 := H.out.cell 3 rfl 1 rfl
  have f64 := H.out.frozen 3 rfl 1
  refine Held.store_step H.out 3 rfl [.bool (rm1 a0_0 l0_1 a1_0 l1_1), .slice Av57 (rm2 a0_0 l0_1 a1_0 l1_1).length cv57] (by rfl) rfl ?hr rfl rfl ?_
  (case hr => first | (go_simp; done) | (go_simp; rfl))
  clear H
  intro w60 H'
  have H := Aside0.mk H'
  clear H'
  clear f61 f62 f63 f64
  refine hK.out _ _ ⟨H.out.cell 5 rfl 0 rfl, H.out.cell 5 rfl 1 rfl, H.out.cell 4 rfl 0 rfl, H.out.cell 4 rfl 1 rfl⟩ (fun hHeld => ?_)
  clear hK K hHeld
  refine done_ (by kernel_rfl) ?_
  have f65 := H.out.cell 5 rfl 0 rfl
  have f66 := H.out.cell 5 rfl 1 rfl
  try go_wp2_with (first | ((with_reducible refine gate_callee (f := 27) rfl ?_); refine goesL_ (some 30) rfl rfl Try.func27 (by kernel_rfl) rfl #[.agg #[.bool a0_0, .slice Al0_1 l0_1.length cl0_1]] rfl (by (try simp only [List.map_toArray, List.map_cons, List.map_nil]); first | done | rfl) ?_; clear f65 f66; (with_reducible refine (Cl.toBigInt a0_0 _ _ l0_1 _ (Kd.C_below hrl0_1 (Held.below (by repeat (first | exact H.out | refine Held.drewN ?_ _ | refine Held.drew ?_)))) hcl0_1 hll0_1).mono ?_); rintro e w67 ⟨v68, rfl, ho, hb⟩; refine ⟨_, rfl, ?_⟩; obtain ⟨ov68, H'⟩ := Held.fresh (by repeat (first | exact H.out | refine Held.drewN ?_ _ | refine Held.drew ?_)) ho hb; clear ho hb H; have H := Aside0.mk H'; clear H'; obtain ⟨Av68, cv68, rfl⟩ := Kd.R_slice (H.out.rowAt 0 rfl); ) | ((with_reducible refine gate_dst (N := 7) rfl ?_); refine box_event ?hg (N := 7) ?hd (cs := #[.bool false, .slice none 0 0]) (t := 31) ?hr ?_; (case hd => rfl); (case hg => rfl); (case hr => first | (go_simp; done) | (go_simp; rfl)); intro g69 hg w70 hbox hb; have H' := Aside0.mk (Held.boxed (by repeat (first | exact H.out | refine Held.drewN ?_ _ | refine Held.drew ?_)) hg hbox hb); clear H; have H := H'; clear H'; clear hbox hg hb; ) | ((with_reducible refine gate_store (t := 31) (p := 7) (v := .tmp 30) rfl ?_); have f72 := H.out.cell 0 rfl 0 rfl; have f73 := H.out.frozen 0 rfl 0; have f74 := H.out.cell 0 rfl 1 rfl; have f75 := H.out.frozen 0 rfl 1; refine Held.store_ev (F := _) (by repeat (first | exact H.out | refine Held.drewN ?_ _ | refine Held.drew ?_)) 0 rfl [.bool a0_0, .slice Av68 l0_1.length cv68] rfl rfl ?hr rfl rfl ?_; (case hr => first | (go_simp; done) | (go_simp; rfl)); clear H; intro w71 H'; have H := Aside0.mk H'; clear H'; clear f72 f73 f74 f75; have f76 := H.out.cell 6 rfl 0 rfl; have f77 := H.out.cell 6 rfl 1 rfl; ) | ((with_reducible refine gate_callee (f := 27) rfl ?_); refine goesL_ (some 32) rfl rfl Try.func27 (by kernel_rfl) rfl #[.agg #[.bool a1_0, .slice Al1_1 l1_1.length cl1_1]] rfl (by (try simp only [List.map_toArray, List.map_cons, List.map_nil]); first | done | rfl) ?_; clear f76 f77; (with_reducible refine (Cl.toBigInt a1_0 _ _ l1_1 _ (Kd.C_below hrl1_1 (Held.below (by repeat (first | exact H.out | refine Held.drewN ?_ _ | refine Held.drew ?_)))) hcl1_1 hll1_1).mono ?_); rintro e w78 ⟨v79, rfl, ho, hb⟩; refine ⟨_, rfl, ?_⟩; obtain ⟨ov79, H'⟩ := Held.fresh (by repeat (first | exact H.out | refine Held.drewN ?_ _ | refine Held.drew ?_)) ho hb; clear ho hb H; have H := Aside0.mk H'; clear H'; obtain ⟨Av79, cv79, rfl⟩ := Kd.R_slice (H.out.rowAt 0 rfl); ) | ((with_reducible refine gate_dst (N := 8) rfl ?_); refine box_event ?hg (N := 8) ?hd (cs := #[.bool false, .slice none 0 0]) (t := 31) ?hr ?_; (case hd => rfl); (case hg => rfl); (case hr => first | (go_simp; done) | (go_simp; rfl)); intro g80 hg w81 hbox hb; have H' := Aside0.mk (Held.boxed (by repeat (first | exact H.out | refine Held.drewN ?_ _ | refine Held.drew ?_)) hg hbox hb); clear H; have H := H'; clear H'; clear hbox hg hb; ) | ((with_reducible refine gate_store (t := 31) (p := 8) (v := .tmp 32) rfl ?_); have f83 := H.out.cell 0 rfl 0 rfl; have f84 := H.out.frozen 0 rfl 0; have f85 := H.out.cell 0 rfl 1 rfl; have f86 := H.out.frozen 0 rfl 1; refine Held.store_ev (F := _) (by repeat (first | exact H.out | refine Held.drewN ?_ _ | refine Held.drew ?_)) 0 rfl [.bool a1_0, .slice Av79 l1_1.length cv79] rfl rfl ?hr rfl rfl ?_; (case hr => first | (go_simp; done) | (go_simp; rfl)); clear H; intro w82 H'; have H := Aside0.mk H'; clear H'; clear f83 f84 f85 f86; have f87 := H.out.cell 2 rfl 0 rfl; have f88 := H.out.cell 2 rfl 1 rfl; have f89 := H.out.cell 0 rfl 0 rfl; have f90 := H.out.cell 0 rfl 1 rfl; ) | ((with_reducible refine gate_callee (f := 37) rfl ?_); refine goesL_ (some 35) rfl rfl Try.func37 (by kernel_rfl) rfl #[.agg #[.bool a0_0, .slice Av68 l0_1.length cv68], .agg #[.bool a1_0, .slice Av79 l1_1.length cv79]] rfl (by (try simp only [List.map_toArray, List.map_cons, List.map_nil]); first | done | rfl) ?_; clear f87 f88 f89 f90; (with_reducible refine (Cl.impl a0_0 _ _ l0_1 a1_0 _ _ l1_1 _ (Held.reads (by repeat (first | exact H.out | refine Held.drewN ?_ _ | refine Held.drew ?_)) 3 rfl).2.2 (Held.reads (by repeat (first | exact H.out | refine Held.drewN ?_ _ | refine Held.drew ?_)) 3 rfl).2.1 (Held.reads (by repeat (first | exact H.out | refine Held.drewN ?_ _ | refine Held.drew ?_)) 1 rfl).2.2 (Held.reads (by repeat (first | exact H.out | refine Held.drewN ?_ _ | refine Held.drew ?_)) 1 rfl).2.1 hll0_1 hll1_1).mono ?_); rintro e w91 ⟨v92, rfl, ho, hb⟩; refine ⟨_, rfl, ?_⟩; obtain ⟨ov92, H'⟩ := Held.fresh (by repeat (first | exact H.out | refine Held.drewN ?_ _ | refine Held.drew ?_)) ho hb; clear ho hb H; have H := Aside0.mk H'; clear H'; obtain ⟨Av92, cv92, rfl⟩ := Kd.R_slice (H.out.rowAt 0 rfl); ) | ((with_reducible refine gate_dst (N := 9) rfl ?_); refine box_event ?hg (N := 9) ?hd (cs := #[.bool false, .slice none 0 0]) (t := 31) ?hr ?_; (case hd => rfl); (case hg => rfl); (case hr => first | (go_simp; done) | (go_simp; rfl)); intro g93 hg w94 hbox hb; have H' := Aside0.mk (Held.boxed (by repeat (first | exact H.out | refine Held.drewN ?_ _ | refine Held.drew ?_)) hg hbox hb); clear H; have H := H'; clear H'; clear hbox hg hb; ) | ((with_reducible refine gate_store (t := 31) (p := 9) (v := .tmp 35) rfl ?_); have f96 := H.out.cell 0 rfl 0 rfl; have f97 := H.out.frozen 0 rfl 0; have f98 := H.out.cell 0 rfl 1 rfl; have f99 := H.out.frozen 0 rfl 1; refine Held.store_ev (F := _) (by repeat (first | exact H.out | refine Held.drewN ?_ _ | refine Held.drew ?_)) 0 rfl [.bool (rm1 a0_0 l0_1 a1_0 l1_1), .slice Av92 (rm2 a0_0 l0_1 a1_0 l1_1).length cv92] rfl rfl ?hr rfl rfl ?_; (case hr => first | (go_simp; done) | (go_simp; rfl)); clear H; intro w95 H'; have H := Aside0.mk H'; clear H'; clear f96 f97 f98 f99; have f100 := H.out.cell 0 rfl 0 rfl; have f101 := H.out.cell 0 rfl 1 rfl; have f102 := H.out.cell 9 rfl 0 rfl; have f103 := H.out.cell 9 rfl 1 rfl; ) | ((with_reducible refine gate_callee (f := 29) rfl ?_); refine goesL_ (some 38) rfl rfl Try.func29 (by kernel_rfl) rfl #[.agg #[.bool (rm1 a0_0 l0_1 a1_0 l1_1), .slice Av92 (rm2 a0_0 l0_1 a1_0 l1_1).length cv92], .agg #[.bool (rm1 a0_0 l0_1 a1_0 l1_1), .slice Av57 (rm2 a0_0 l0_1 a1_0 l1_1).length cv57]] rfl (by (try simp only [List.map_toArray, List.map_cons, List.map_nil]); first | done | rfl) ?_; clear f100 f101 f102 f103; (with_reducible refine (Cl.eqBigInt (rm1 a0_0 l0_1 a1_0 l1_1) _ _ _ _ (rm2 a0_0 l0_1 a1_0 l1_1) _ (Held.reads (by repeat (first | exact H.out | refine Held.drewN ?_ _ | refine Held.drew ?_)) 1 rfl).2.2 (Held.reads (by repeat (first | exact H.out | refine Held.drewN ?_ _ | refine Held.drew ?_)) 1 rfl).2.1 (Held.reads (by repeat (first | exact H.out | refine Held.drewN ?_ _ | refine Held.drew ?_)) 8 rfl).2.2 (Held.reads (by repeat (first | exact H.out | refine Held.drewN ?_ _ | refine Held.drew ?_)) 8 rfl).2.1 (Cl.len0 hll0_1 hll1_1)).mono ?_); rintro e w104 ⟨rfl, hb⟩; refine ⟨_, rfl, ?_⟩; have H' := Aside0.mk (Held.grow (by repeat (first | exact H.out | refine Held.drewN ?_ _ | refine Held.drew ?_)) hb); clear H; have H := H'; clear H'; clear hb; ))
  have H' := Aside0.mk (Held.drew (by repeat (first | exact H.out | refine Held.drewN ?_ _ | refine Held.drew ?_))); clear H; have H := H'; clear H'
  refine start_ (n := 5) (S := fun w' => w'.cell? ⟨g69, 0, none⟩ = some (.bool a0_0) ∧ w'.cell? ⟨g69, 1, none⟩ = some (.slice Av68 l0_1.length cv68) ∧ w'.cell? ⟨g18, 0, none⟩ = some (.bool a0_0) ∧ w'.cell? ⟨g18, 1, none⟩ = some (.slice Al0_1 l0_1.length cl0_1)) (ds := []) #[false, false, false, false, false] (by kernel_rfl) rfl rfl ⟨H.out.cell 4 rfl 0 rfl, H.out.cell 4 rfl 1 rfl, H.out.cell 11 rfl 0 rfl, H.out.cell 11 rfl 1 rfl⟩ (fun hHeld => ?_)
  refine take_ (i := 0) (N := some 40) (v := ?_) (a' := ?_) #[true, false, false, false, false] rfl rfl (by kernel_rfl) (fun _ _ _ h => h) (Or.inl ⟨by rfl, ?_⟩) hHeld ?_ ?_
  rotate_left
  · rintro w' ⟨s0, s1, s2, s3⟩
    go_simp
    with_reducible rfl
  rotate_left
  · simp only [Act.put, List.setIfInBounds_toArray, List.set_cons_zero, List.set_cons_succ, i64_w, i32_w]
    rfl
  refine take_ (i := 1) (N := some 41) (v := ?_) (a' := ?_) #[true, true, false, false, false] rfl rfl (by kernel_rfl) (fun _ _ _ h => h) (Or.inl ⟨by rfl, ?_⟩) hHeld ?_ ?_
  rotate_left
  · rintro w' ⟨s0, s1, s2, s3⟩
    go_simp
    with_reducible rfl
  rotate_left
  · simp only [Act.put, List.setIfInBounds_toArray, List.set_cons_zero, List.set_cons_succ, i64_w, i32_w]
    rfl
  refine one_ (i := 2) (N := some 42) #[true, true, true, false, false] rfl rfl (by kernel_rfl) (by decide) (fun K hK => ?_)
  refine goes_ Try.func27 (by kernel_rfl) rfl #[.agg #[.bool a0_0, .slice Al0_1 l0_1.length cl0_1]] (by rfl) rfl rfl (by (try simp only [List.map_toArray, List.map_cons, List.map_nil]); first | done | rfl) ?_
  with_reducible refine (Cl.toBigInt a0_0 _ _ l0_1 _ (Kd.C_below hrl0_1 (Held.below (by repeat (first | exact H.out | refine Held.drewN ?_ _ | refine Held.drew ?_)))) hcl0_1 hll0_1).mono ?_
  rintro e w105 ⟨v106, rfl, ho, hb⟩
  refine ⟨_, rfl, ?_⟩
  obtain ⟨ov106, H'⟩ := Held.fresh (by repeat (first | exact H.out | refine Held.drewN ?_ _ | refine Held.drew ?_)) ho hb
  clear ho hb H
  have H := Aside0.mk H'
  clear H'
  obtain ⟨Av106, cv106, rfl⟩ := Kd.R_slice (H.out.rowAt 0 rfl)
  refine hK.out _ _ ⟨H.out.cell 5 rfl 0 rfl, H.out.cell 5 rfl 1 rfl, H.out.cell 12 rfl 0 rfl, H.out.cell 12 rfl 1 rfl⟩ (fun hHeld => ?_)
  clear hK K
  refine norm_ (a' := ?_) ?_ ?_
  rotate_left
  · show Act.put _ (some 42) _ = _
    simp only [Act.put, List.setIfInBounds_toArray, List.set_cons_zero, List.set_cons_succ, i64_w, i32_w]
    rfl
  refine one_ (i := 3) (N := some 43) #[true, true, true, true, false] rfl rfl (by kernel_rfl) (by decide) (fun K hK => ?_)
  refine goes_ Try.func29 (by kernel_rfl) rfl #[.agg #[.bool a0_0, .slice Av68 l0_1.length cv68], .agg #[.bool a0_0, .slice Av106 l0_1.length cv106]] (by rfl) rfl rfl (by (try simp only [List.map_toArray, List.map_cons, List.map_nil]); first | done | rfl) ?_
  with_reducible refine (Cl.eqBigInt a0_0 _ _ _ _ l0_1 _ (Held.reads (by repeat (first | exact H.out | refine Held.drewN ?_ _ | refine Held.drew ?_)) 6 rfl).2.2 (Held.reads (by repeat (first | exact H.out | refine Held.drewN ?_ _ | refine Held.drew ?_)) 6 rfl).2.1 (Held.reads (by repeat (first | exact H.out | refine Held.drewN ?_ _ | refine Held.drew ?_)) 0 rfl).2.2 (Held.reads (by repeat (first | exact H.out | refine Held.drewN ?_ _ | refine Held.drew ?_)) 0 rfl).2.1 hll0_1).mono ?_
  rintro e w107 ⟨rfl, hb⟩
  refine ⟨_, rfl, ?_⟩
  have H' := Aside0.mk (Held.grow (by repeat (first | exact H.out | refine Held.drewN ?_ _ | refine Held.drew ?_)) hb)
  clear H
  have H := H'
  clear H'
  clear hb
  refine hK.out _ _ ⟨H.out.cell 5 rfl 0 rfl, H.out.cell 5 rfl 1 rfl, H.out.cell 12 rfl 0 rfl, H.out.cell 12 rfl 1 rfl⟩ (fun hHeld => ?_)
  clear hK K
  refine norm_ (a' := ?_) ?_ ?_
  rotate_left
  · show Act.put _ (some 43) _ = _
    simp only [Act.put, List.setIfInBounds_toArray, List.set_cons_zero, List.set_cons_succ, i64_w, i32_w]
    rfl
  refine pure_ (i := 4) (N := some 44) (v := ?_) (a' := ?_) #[true, true, true, true, true] rfl rfl (by kernel_rfl) (fun _ _ _ h => h) (Or.inl ⟨by rfl, ?_⟩) ?_ ?_
  rotate_left
  · intro w'
    go_simp
    with_reducible rfl
  rotate_left
  · simp only [Act.put, List.setIfInBounds_toArray, List.set_cons_zero, List.set_cons_succ, i64_w, i32_w]
    rfl
  refine done_ (by kernel_rfl) ?_
  try go_wp2
  have H' := Aside0.mk (Held.drew (by repeat (first | exact H.out | refine Held.drewN ?_ _ | refine Held.drew ?_))); clear H; have H := H'; clear H'
  refine start_ (n := 5) (S := fun w' => w'.cell? ⟨g80, 0, none⟩ = some (.bool a1_0) ∧ w'.cell? ⟨g80, 1, none⟩ = some (.slice Av79 l1_1.length cv79) ∧ w'.cell? ⟨g20, 0, none⟩ = some (.bool a1_0) ∧ w'.cell? ⟨g20, 1, none⟩ = some (.slice Al1_1 l1_1.length cl1_1)) (ds := []) #[false, false, false, false, false] (by kernel_rfl) rfl rfl ⟨H.out.cell 3 rfl 0 rfl, H.out.cell 3 rfl 1 rfl, H.out.cell 11 rfl 0 rfl, H.out.cell 11 rfl 1 rfl⟩ (fun hHeld => ?_)
  refine take_ (i := 0) (N := some 45) (v := ?_) (a' := ?_) #[true, false, false, false, false] rfl rfl (by kernel_rfl) (fun _ _ _ h => h) (Or.inl ⟨by rfl, ?_⟩) hHeld ?_ ?_
  rotate_left
  · rintro w' ⟨s0, s1, s2, s3⟩
    go_simp
    with_reducible rfl
  rotate_left
  · simp only [Act.put, List.setIfInBounds_toArray, List.set_cons_zero, List.set_cons_succ, i64_w, i32_w]
    rfl
  refine take_ (i := 1) (N := some 46) (v := ?_) (a' := ?_) #[true, true, false, false, false] rfl rfl (by kernel_rfl) (fun _ _ _ h => h) (Or.inl ⟨by rfl, ?_⟩) hHeld ?_ ?_
  rotate_left
  · rintro w' ⟨s0, s1, s2, s3⟩
    go_simp
    with_reducible rfl
  rotate_left
  · simp only [Act.put, List.setIfInBounds_toArray, List.set_cons_zero, List.set_cons_succ, i64_w, i32_w]
    rfl
  refine one_ (i := 2) (N := some 47) #[true, true, true, false, false] rfl rfl (by kernel_rfl) (by decide) (fun K hK => ?_)
  refine goes_ Try.func27 (by kernel_rfl) rfl #[.agg #[.bool a1_0, .slice Al1_1 l1_1.length cl1_1]] (by rfl) rfl rfl (by (try simp only [List.map_toArray, List.map_cons, List.map_nil]); first | done | rfl) ?_
  with_reducible refine (Cl.toBigInt a1_0 _ _ l1_1 _ (Kd.C_below hrl1_1 (Held.below (by repeat (first | exact H.out | refine Held.drewN ?_ _ | refine Held.drew ?_)))) hcl1_1 hll1_1).mono ?_
  rintro e w108 ⟨v109, rfl, ho, hb⟩
  refine ⟨_, rfl, ?_⟩
  obtain ⟨ov109, H'⟩ := Held.fresh (by repeat (first | exact H.out | refine Held.drewN ?_ _ | refine Held.drew ?_)) ho hb
  clear ho hb H
  have H := Aside0.mk H'
  clear H'
  obtain ⟨Av109, cv109, rfl⟩ := Kd.R_slice (H.out.rowAt 0 rfl)
  refine hK.out _ _ ⟨H.out.cell 4 rfl 0 rfl, H.out.cell 4 rfl 1 rfl, H.out.cell 12 rfl 0 rfl, H.out.cell 12 rfl 1 rfl⟩ (fun hHeld => ?_)
  clear hK K
  refine norm_ (a' := ?_) ?_ ?_
  rotate_left
  · show Act.put _ (some 47) _ = _
    simp only [Act.put, List.setIfInBounds_toArray, List.set_cons_zero, List.set_cons_succ, i64_w, i32_w]
    rfl
  refine one_ (i := 3) (N := some 48) #[true, true, true, true, false] rfl rfl (by kernel_rfl) (by decide) (fun K hK => ?_)
  refine goes_ Try.func29 (by kernel_rfl) rfl #[.agg #[.bool a1_0, .slice Av79 l1_1.length cv79], .agg #[.bool a1_0, .slice Av109 l1_1.length cv109]] (by rfl) rfl rfl (by (try simp only [List.map_toArray, List.map_cons, List.map_nil]); first | done | rfl) ?_
  with_reducible refine (Cl.eqBigInt a1_0 _ _ _ _ l1_1 _ (Held.reads (by repeat (first | exact H.out | refine Held.drewN ?_ _ | refine Held.drew ?_)) 5 rfl).2.2 (Held.reads (by repeat (first | exact H.out | refine Held.drewN ?_ _ | refine Held.drew ?_)) 5 rfl).2.1 (Held.reads (by repeat (first | exact H.out | refine Held.drewN ?_ _ | refine Held.drew ?_)) 0 rfl).2.2 (Held.reads (by repeat (first | exact H.out | refine Held.drewN ?_ _ | refine Held.drew ?_)) 0 rfl).2.1 hll1_1).mono ?_
  rintro e w110 ⟨rfl, hb⟩
  refine ⟨_, rfl, ?_⟩
  have H' := Aside0.mk (Held.grow (by repeat (first | exact H.out | refine Held.drewN ?_ _ | refine Held.drew ?_)) hb)
  clear H
  have H := H'
  clear H'
  clear hb
  refine hK.out _ _ ⟨H.out.cell 4 rfl 0 rfl, H.out.cell 4 rfl 1 rfl, H.out.cell 12 rfl 0 rfl, H.out.cell 12 rfl 1 rfl⟩ (fun hHeld => ?_)
  clear hK K
  refine norm_ (a' := ?_) ?_ ?_
  rotate_left
  · show Act.put _ (some 48) _ = _
    simp only [Act.put, List.setIfInBounds_toArray, List.set_cons_zero, List.set_cons_succ, i64_w, i32_w]
    rfl
  refine pure_ (i := 4) (N := some 49) (v := ?_) (a' := ?_) #[true, true, true, true, true] rfl rfl (by kernel_rfl) (fun _ _ _ h => h) (Or.inl ⟨by rfl, ?_⟩) ?_ ?_
  rotate_left
  · intro w'
    go_simp
    with_reducible rfl
  rotate_left
  · simp only [Act.put, List.setIfInBounds_toArray, List.set_cons_zero, List.set_cons_succ, i64_w, i32_w]
    rfl
  refine done_ (by kernel_rfl) ?_
  have f111 := H.out.cell 6 rfl 0 rfl
  have f112 := H.out.cell 6 rfl 1 rfl
  have hd123 : decide (kadd (kadd 1 l0_1.length) l1_1.length < 0) = false := decide_eq_false (by unfold kadd; omega)
  have hd132 : decide (kadd 1 (rm2 a0_0 l0_1 a1_0 l1_1).length < 0) = false := decide_eq_false (by unfold kadd; omega)
  try go_wp2_with (first | ((with_reducible refine gate_callee (f := 32) rfl ?_); refine goesL_ (some 52) rfl rfl Try.func32 (by kernel_rfl) rfl #[.agg #[.bool a0_0, .slice Av68 l0_1.length cv68], .int .i64 1] rfl (by (try simp only [List.map_toArray, List.map_cons, List.map_nil]); first | done | rfl) ?_; clear f111 f112; (with_reducible refine (Cl.markBigInt a0_0 _ _ l0_1 1 _ _ (Held.below (by repeat (first | exact H.out | refine Held.drewN ?_ _ | refine Held.drew ?_))) (Held.rowAt (by repeat (first | exact H.out | refine Held.drewN ?_ _ | refine Held.drew ?_)) 7 rfl) hll0_1 (by decide) (by decide)).mono ?_); rintro e w113 ⟨rfl, ho, hb, hk⟩; refine ⟨_, rfl, ?_⟩; obtain ⟨o114, H'⟩ := Held.kept (by repeat (first | exact H.out | refine Held.drewN ?_ _ | refine Held.drew ?_)) 7 rfl ho hb hk; clear ho hb hk H; have H : Aside0 (Held w w113 [row (Kd.int .i64) 3 w.heap.size (.slice Av109 l1_1.length cv109) l1_1 ov109, row (Kd.int .i64) 3 w.heap.size (.slice Av106 l0_1.length cv106) l0_1 ov106, box g93 #[.bool (rm1 a0_0 l0_1 a1_0 l1_1), .slice Av92 (rm2 a0_0 l0_1 a1_0 l1_1).length cv92] 31, row (Kd.int .i64) 3 w.heap.size (.slice Av92 (rm2 a0_0 l0_1 a1_0 l1_1).length cv92) (rm2 a0_0 l0_1 a1_0 l1_1) ov92, box g80 #[.bool a1_0, .slice Av79 l1_1.length cv79] 31, row (Kd.int .i64) 3 w.heap.size (.slice Av79 l1_1.length cv79) l1_1 ov79, box g69 #[.bool a0_0, .slice Av68 l0_1.length cv68] 31, row (Kd.int .i64) 3 w.heap.size (.slice Av68 l0_1.length cv68) (mk 1 l0_1.length) o114, row (Kd.int .i64) 3 w.heap.size (.slice Av55 l0_1.length cv55) l0_1 ov55, row (Kd.int .i64) 3 w.heap.size (.slice Av56 l1_1.length cv56) l1_1 ov56, row (Kd.int .i64) 3 w.heap.size (.slice Av57 (rm2 a0_0 l0_1 a1_0 l1_1).length cv57) (rm2 a0_0 l0_1 a1_0 l1_1) ov57, box g58 #[.bool (rm1 a0_0 l0_1 a1_0 l1_1), .slice Av57 (rm2 a0_0 l0_1 a1_0 l1_1).length cv57] 31, box g20 #[.bool a1_0, .slice Al1_1 l1_1.length cl1_1] 28, box g18 #[.bool a0_0, .slice Al0_1 l0_1.length cl0_1] 28]) := ⟨H'⟩; clear H'; have f115 := H.out.cell 4 rfl 0 rfl; have f116 := H.out.cell 4 rfl 1 rfl; ) | ((with_reducible refine gate_callee (f := 32) rfl ?_); refine goesL_ (some 55) rfl rfl Try.func32 (by kernel_rfl) rfl #[.agg #[.bool a1_0, .slice Av79 l1_1.length cv79], .int .i64 (kadd 1 l0_1.length)] rfl (by (try simp only [List.map_toArray, List.map_cons, List.map_nil]); first | done | rfl) ?_; clear f115 f116; (with_reducible refine (Cl.markBigInt a1_0 _ _ l1_1 (kadd 1 l0_1.length) _ _ (Held.below (by repeat (first | exact H.out | refine Held.drewN ?_ _ | refine Held.drew ?_))) (Held.rowAt (by repeat (first | exact H.out | refine Held.drewN ?_ _ | refine Held.drew ?_)) 5 rfl) hll1_1 (by unfold kadd; omega) (by unfold kadd; omega)).mono ?_); rintro e w117 ⟨rfl, ho, hb, hk⟩; refine ⟨_, rfl, ?_⟩; obtain ⟨o118, H'⟩ := Held.kept (by repeat (first | exact H.out | refine Held.drewN ?_ _ | refine Held.drew ?_)) 5 rfl ho hb hk; clear ho hb hk H; have H : Aside0 (Held w w117 [row (Kd.int .i64) 3 w.heap.size (.slice Av109 l1_1.length cv109) l1_1 ov109, row (Kd.int .i64) 3 w.heap.size (.slice Av106 l0_1.length cv106) l0_1 ov106, box g93 #[.bool (rm1 a0_0 l0_1 a1_0 l1_1), .slice Av92 (rm2 a0_0 l0_1 a1_0 l1_1).length cv92] 31, row (Kd.int .i64) 3 w.heap.size (.slice Av92 (rm2 a0_0 l0_1 a1_0 l1_1).length cv92) (rm2 a0_0 l0_1 a1_0 l1_1) ov92, box g80 #[.bool a1_0, .slice Av79 l1_1.length cv79] 31, row (Kd.int .i64) 3 w.heap.size (.slice Av79 l1_1.length cv79) (mk (kadd 1 l0_1.length) l1_1.length) o118, box g69 #[.bool a0_0, .slice Av68 l0_1.length cv68] 31, row (Kd.int .i64) 3 w.heap.size (.slice Av68 l0_1.length cv68) (mk 1 l0_1.length) o114, row (Kd.int .i64) 3 w.heap.size (.slice Av55 l0_1.length cv55) l0_1 ov55, row (Kd.int .i64) 3 w.heap.size (.slice Av56 l1_1.length cv56) l1_1 ov56, row (Kd.int .i64) 3 w.heap.size (.slice Av57 (rm2 a0_0 l0_1 a1_0 l1_1).length cv57) (rm2 a0_0 l0_1 a1_0 l1_1) ov57, box g58 #[.bool (rm1 a0_0 l0_1 a1_0 l1_1), .slice Av57 (rm2 a0_0 l0_1 a1_0 l1_1).length cv57] 31, box g20 #[.bool a1_0, .slice Al1_1 l1_1.length cl1_1] 28, box g18 #[.bool a0_0, .slice Al0_1 l0_1.length cl0_1] 28]) := ⟨H'⟩; clear H'; have f119 := H.out.cell 2 rfl 0 rfl; have f120 := H.out.cell 2 rfl 1 rfl; have f121 := H.out.cell 11 rfl 0 rfl; have f122 := H.out.cell 11 rfl 1 rfl; ) | ((with_reducible refine gate_callee (f := 32) rfl ?_); refine goesL_ (some 66) rfl rfl Try.func32 (by kernel_rfl) rfl #[.agg #[.bool (rm1 a0_0 l0_1 a1_0 l1_1), .slice Av92 (rm2 a0_0 l0_1 a1_0 l1_1).length cv92], .int .i64 1] rfl (by (try simp only [List.map_toArray, List.map_cons, List.map_nil]); first | done | rfl) ?_; clear f125 f126; (with_reducible refine (Cl.markBigInt (rm1 a0_0 l0_1 a1_0 l1_1) _ _ (rm2 a0_0 l0_1 a1_0 l1_1) 1 _ _ (Held.below (by repeat (first | exact H.out | refine Held.drewN ?_ _ | refine Held.drew ?_))) (Held.rowAt (by repeat (first | exact H.out | refine Held.drewN ?_ _ | refine Held.drew ?_)) 3 rfl) (Cl.len0 hll0_1 hll1_1) (by decide) (by decide)).mono ?_); rintro e w127 ⟨rfl, ho, hb, hk⟩; refine ⟨_, rfl, ?_⟩; obtain ⟨o128, H'⟩ := Held.kept (by repeat (first | exact H.out | refine Held.drewN ?_ _ | refine Held.drew ?_)) 3 rfl ho hb hk; clear ho hb hk H; have H : Aside0 (Held w w127 [row (Kd.int .i64) 3 w.heap.size (.slice Av109 l1_1.length cv109) l1_1 ov109, row (Kd.int .i64) 3 w.heap.size (.slice Av106 l0_1.length cv106) l0_1 ov106, box g93 #[.bool (rm1 a0_0 l0_1 a1_0 l1_1), .slice Av92 (rm2 a0_0 l0_1 a1_0 l1_1).length cv92] 31, row (Kd.int .i64) 3 w.heap.size (.slice Av92 (rm2 a0_0 l0_1 a1_0 l1_1).length cv92) (mk 1 (rm2 a0_0 l0_1 a1_0 l1_1).length) o128, box g80 #[.bool a1_0, .slice Av79 l1_1.length cv79] 31, row (Kd.int .i64) 3 w.heap.size (.slice Av79 l1_1.length cv79) (mk (kadd 1 l0_1.length) l1_1.length) o118, box g69 #[.bool a0_0, .slice Av68 l0_1.length cv68] 31, row (Kd.int .i64) 3 w.heap.size (.slice Av68 l0_1.length cv68) (mk 1 l0_1.length) o114, row (Kd.int .i64) 3 w.heap.size (.slice Av55 l0_1.length cv55) l0_1 ov55, row (Kd.int .i64) 3 w.heap.size (.slice Av56 l1_1.length cv56) l1_1 ov56, row (Kd.int .i64) 3 w.heap.size (.slice Av57 (rm2 a0_0 l0_1 a1_0 l1_1).length cv57) (rm2 a0_0 l0_1 a1_0 l1_1) ov57, box g58 #[.bool (rm1 a0_0 l0_1 a1_0 l1_1), .slice Av57 (rm2 a0_0 l0_1 a1_0 l1_1).length cv57] 31, box g20 #[.bool a1_0, .slice Al1_1 l1_1.length cl1_1] 28, box g18 #[.bool a0_0, .slice Al0_1 l0_1.length cl0_1] 28]) := ⟨H'⟩; clear H'; have f129 := H.out.cell 2 rfl 0 rfl; have f130 := H.out.cell 2 rfl 1 rfl; ) | ((with_reducible refine gate_callee (f := 33) rfl ?_); refine goesL_ (some 69) rfl rfl Try.func33 (by kernel_rfl) rfl #[.agg #[.bool (rm1 a0_0 l0_1 a1_0 l1_1), .slice Av92 (rm2 a0_0 l0_1 a1_0 l1_1).length cv92], .int .i64 1] rfl (by (try simp only [List.map_toArray, List.map_cons, List.map_nil]); first | done | rfl) ?_; clear f129 f130; (with_reducible refine (Cl.heldBigInt (rm1 a0_0 l0_1 a1_0 l1_1) _ _ (rm2 a0_0 l0_1 a1_0 l1_1).length 1 _ (Held.reads (by repeat (first | exact H.out | refine Held.drewN ?_ _ | refine Held.drew ?_)) 3 rfl).2.2 (Held.reads (by repeat (first | exact H.out | refine Held.drewN ?_ _ | refine Held.drew ?_)) 3 rfl).2.1 (Cl.len0 hll0_1 hll1_1) (by decide) (by decide)).mono ?_); rintro e w131 ⟨rfl, hb⟩; refine ⟨_, rfl, ?_⟩; have H' := Aside0.mk (Held.grow (by repeat (first | exact H.out | refine Held.drewN ?_ _ | refine Held.drew ?_)) hb); clear H; have H := H'; clear H'; clear hb; ) | (go_at_call 29; clear f119 f120 f121 f122; (with_reducible refine (Cl.eqBigInt (rm1 a0_0 l0_1 a1_0 l1_1) _ _ _ _ (rm2 a0_0 l0_1 a1_0 l1_1) _ (Held.reads (by repeat (first | exact H.out | refine Held.drewN ?_ _ | refine Held.drew ?_)) 3 rfl).2.2 (Held.reads (by repeat (first | exact H.out | refine Held.drewN ?_ _ | refine Held.drew ?_)) 3 rfl).2.1 (Held.reads (by repeat (first | exact H.out | refine Held.drewN ?_ _ | refine Held.drew ?_)) 10 rfl).2.2 (Held.reads (by repeat (first | exact H.out | refine Held.drewN ?_ _ | refine Held.drew ?_)) 10 rfl).2.1 (Cl.len0 hll0_1 hll1_1)).mono ?_); rintro e w124 ⟨rfl, hb⟩; have H' := Aside0.mk (Held.grow (by repeat (first | exact H.out | refine Held.drewN ?_ _ | refine Held.drew ?_)) hb); clear H; have H := H'; clear H'; clear hb; have f125 := H.out.cell 2 rfl 0 rfl; have f126 := H.out.cell 2 rfl 1 rfl; ))
  have H' := Aside0.mk (Held.drew (by repeat (first | exact H.out | refine Held.drewN ?_ _ | refine Held.drew ?_))); clear H; have H := H'; clear H'
  refine start_ (n := 7) (S := fun w' => w'.cell? ⟨g18, 0, none⟩ = some (.bool a0_0) ∧ w'.cell? ⟨g18, 1, none⟩ = some (.slice Al0_1 l0_1.length cl0_1) ∧ w'.cell? ⟨g20, 0, none⟩ = some (.bool a1_0) ∧ w'.cell? ⟨g20, 1, none⟩ = some (.slice Al1_1 l1_1.length cl1_1)) (ds := []) #[false, false, false, false, false, false, false] (by kernel_rfl) rfl rfl ⟨H.out.cell 13 rfl 0 rfl, H.out.cell 13 rfl 1 rfl, H.out.cell 12 rfl 0 rfl, H.out.cell 12 rfl 1 rfl⟩ (fun hHeld => ?_)
  refine take_ (i := 0) (N := some 75) (v := ?_) (a' := ?_) #[true, false, false, false, false, false, false] rfl rfl (by kernel_rfl) (fun _ _ _ h => h) (Or.inl ⟨by rfl, ?_⟩) hHeld ?_ ?_
  rotate_left
  · rintro w' ⟨s0, s1, s2, s3⟩
    go_simp
    with_reducible rfl
  rotate_left
  · simp only [Act.put, List.setIfInBounds_toArray, List.set_cons_zero, List.set_cons_succ, i64_w, i32_w]
    rfl
  refine take_ (i := 2) (N := some 77) (v := ?_) (a' := ?_) #[true, false, true, false, false, false, false] rfl rfl (by kernel_rfl) (fun _ _ _ h => h) (Or.inl ⟨by rfl, ?_⟩) hHeld ?_ ?_
  rotate_left
  · rintro w' ⟨s0, s1, s2, s3⟩
    go_simp
    with_reducible rfl
  rotate_left
  · simp only [Act.put, List.setIfInBounds_toArray, List.set_cons_zero, List.set_cons_succ, i64_w, i32_w]
    rfl
  refine join_ (σ := (Option Addr × Nat × (Nat → Prop)) × (Option Addr × Nat × (Nat → Prop)) × (Option Addr × Nat × (Nat → Prop)) × Nat) 1 #[true, true, true, true, true, true, false] (fun s_ => [(76, .agg #[.bool a0_0, .slice s_.1.1 l0_1.length s_.1.2.1]), (78, .agg #[.bool a1_0, .slice s_.2.1.1 l1_1.length s_.2.1.2.1]), (79, .agg #[.bool (rm1 a0_0 l0_1 a1_0 l1_1), .slice s_.2.2.1.1 (rm2 a0_0 l0_1 a1_0 l1_1).length s_.2.2.1.2.1]), (13, .pointer (some ⟨s_.2.2.2, 0, none⟩))]) (fun s_ w' => Held w w' [row (Kd.int .i64) 3 w.heap.size (.slice s_.1.1 l0_1.length s_.1.2.1) l0_1 s_.1.2.2, row (Kd.int .i64) 3 w.heap.size (.slice s_.2.1.1 l1_1.length s_.2.1.2.1) l1_1 s_.2.1.2.2, row (Kd.int .i64) 3 w.heap.size (.slice s_.2.2.1.1 (rm2 a0_0 l0_1 a1_0 l1_1).length s_.2.2.1.2.1) (rm2 a0_0 l0_1 a1_0 l1_1) s_.2.2.1.2.2, box s_.2.2.2 #[.bool false, .slice none 0 0] 31, row (Kd.int .i64) 3 w.heap.size (.slice Av109 l1_1.length cv109) l1_1 ov109, row (Kd.int .i64) 3 w.heap.size (.slice Av106 l0_1.length cv106) l0_1 ov106, box g93 #[.bool (rm1 a0_0 l0_1 a1_0 l1_1), .slice Av92 (rm2 a0_0 l0_1 a1_0 l1_1).length cv92] 31, row (Kd.int .i64) 3 w.heap.size (.slice Av92 (rm2 a0_0 l0_1 a1_0 l1_1).length cv92) (mk 1 (rm2 a0_0 l0_1 a1_0 l1_1).length) o128, box g80 #[.bool a1_0, .slice Av79 l1_1.length cv79] 31, row (Kd.int .i64) 3 w.heap.size (.slice Av79 l1_1.length cv79) (mk (kadd 1 l0_1.length) l1_1.length) o118, box g69 #[.bool a0_0, .slice Av68 l0_1.length cv68] 31, row (Kd.int .i64) 3 w.heap.size (.slice Av68 l0_1.length cv68) (mk 1 l0_1.length) o114, row (Kd.int .i64) 3 w.heap.size (.slice Av55 l0_1.length cv55) l0_1 ov55, row (Kd.int .i64) 3 w.heap.size (.slice Av56 l1_1.length cv56) l1_1 ov56, row (Kd.int .i64) 3 w.heap.size (.slice Av57 (rm2 a0_0 l0_1 a1_0 l1_1).length cv57) (rm2 a0_0 l0_1 a1_0 l1_1) ov57, box g58 #[.bool (rm1 a0_0 l0_1 a1_0 l1_1), .slice Av57 (rm2 a0_0 l0_1 a1_0 l1_1).length cv57] 31, box g20 #[.bool a1_0, .slice Al1_1 l1_1.length cl1_1] 28, box g18 #[.bool a0_0, .slice Al0_1 l0_1.length cl0_1] 28]) ?_ ?_
  rotate_left
  · intro hCont
    refine two_ (i := 1) (j := 5) (Ni := some 76) (Nj := some 13) #[true, true, true, false, false, false, false] #[true, false, true, false, false, true, false] rfl rfl rfl rfl (by kernel_rfl) (by decide) (by decide) (fun K hK => ?_) (fun K hK => ?_)
    · skip
      refine goes_ Try.func27 (by kernel_rfl) rfl #[.agg #[.bool a0_0, .slice Al0_1 l0_1.length cl0_1]] (by rfl) rfl rfl (by (try simp only [List.map_toArray, List.map_cons, List.map_nil]); first | done | rfl) ?_
      with_reducible refine (Cl.toBigInt a0_0 _ _ l0_1 _ (Kd.C_below hrl0_1 (Held.below (by repeat (first | exact H.out | refine Held.drewN ?_ _ | refine Held.drew ?_)))) hcl0_1 hll0_1).mono ?_
      rintro e w133 ⟨v134, rfl, ho, hb⟩
      refine ⟨_, rfl, ?_⟩
      obtain ⟨ov134, H'⟩ := Held.fresh (by repeat (first | exact H.out | refine Held.drewN ?_ _ | refine Held.drew ?_)) ho hb
      clear ho hb H
      have H := Aside0.mk H'
      clear H'
      obtain ⟨Av134, cv134, rfl⟩ := Kd.R_slice (H.out.rowAt 0 rfl)
      refine hK.out _ _ ⟨H.out.cell 14 rfl 0 rfl, H.out.cell 14 rfl 1 rfl, H.out.cell 13 rfl 0 rfl, H.out.cell 13 rfl 1 rfl⟩ (fun hHeld => ?_)
      clear hK K
      refine norm_ (a' := ?_) ?_ ?_
      rotate_left
      · show Act.put _ (some 76) _ = _
        simp only [Act.put, List.setIfInBounds_toArray, List.set_cons_zero, List.set_cons_succ, i64_w, i32_w]
        rfl
      refine two_ (i := 3) (j := 5) (Ni := some 78) (Nj := some 13) #[true, true, true, true, false, false, false] #[true, true, true, false, false, true, false] rfl rfl rfl rfl (by kernel_rfl) (by decide) (by decide) (fun K hK => ?_) (fun K hK => ?_)
      · skip
        refine goes_ Try.func27 (by kernel_rfl) rfl #[.agg #[.bool a1_0, .slice Al1_1 l1_1.length cl1_1]] (by rfl) rfl rfl (by (try simp only [List.map_toArray, List.map_cons, List.map_nil]); first | done | rfl) ?_
        with_reducible refine (Cl.toBigInt a1_0 _ _ l1_1 _ (Kd.C_below hrl1_1 (Held.below (by repeat (first | exact H.out | refine Held.drewN ?_ _ | refine Held.drew ?_)))) hcl1_1 hll1_1).mono ?_
        rintro e w135 ⟨v136, rfl, ho, hb⟩
        refine ⟨_, rfl, ?_⟩
        obtain ⟨ov136, H'⟩ := Held.fresh (by repeat (first | exact H.out | refine Held.drewN ?_ _ | refine Held.drew ?_)) ho hb
        clear ho hb H
        have H := Aside0.mk H'
        clear H'
        obtain ⟨Av136, cv136, rfl⟩ := Kd.R_slice (H.out.rowAt 0 rfl)
        refine hK.out _ _ ⟨H.out.cell 15 rfl 0 rfl, H.out.cell 15 rfl 1 rfl, H.out.cell 14 rfl 0 rfl, H.out.cell 14 rfl 1 rfl⟩ (fun hHeld => ?_)
        clear hK K
        refine norm_ (a' := ?_) ?_ ?_
        rotate_left
        · show Act.put _ (some 78) _ = _
          simp only [Act.put, List.setIfInBounds_toArray, List.set_cons_zero, List.set_cons_succ, i64_w, i32_w]
          rfl
        refine two_ (i := 4) (j := 5) (Ni := some 79) (Nj := some 13) #[true, true, true, true, true, false, false] #[true, true, true, true, false, true, false] rfl rfl rfl rfl (by kernel_rfl) (by decide) (by decide) (fun K hK => ?_) (fun K hK => ?_)
        · skip
          refine goes_ Try.func37 (by kernel_rfl) rfl #[.agg #[.bool a0_0, .slice Av134 l0_1.length cv134], .agg #[.bool a1_0, .slice Av136 l1_1.length cv136]] (by rfl) rfl rfl (by (try simp only [List.map_toArray, List.map_cons, List.map_nil]); first | done | rfl) ?_
          with_reducible refine (Cl.impl a0_0 _ _ l0_1 a1_0 _ _ l1_1 _ (Held.reads (by repeat (first | exact H.out | refine Held.drewN ?_ _ | refine Held.drew ?_)) 1 rfl).2.2 (Held.reads (by repeat (first | exact H.out | refine Held.drewN ?_ _ | refine Held.drew ?_)) 1 rfl).2.1 (Held.reads (by repeat (first | exact H.out | refine Held.drewN ?_ _ | refine Held.drew ?_)) 0 rfl).2.2 (Held.reads (by repeat (first | exact H.out | refine Held.drewN ?_ _ | refine Held.drew ?_)) 0 rfl).2.1 hll0_1 hll1_1).mono ?_
          rintro e w137 ⟨v138, rfl, ho, hb⟩
          refine ⟨_, rfl, ?_⟩
          obtain ⟨ov138, H'⟩ := Held.fresh (by repeat (first | exact H.out | refine Held.drewN ?_ _ | refine Held.drew ?_)) ho hb
          clear ho hb H
          have H := Aside0.mk H'
          clear H'
          obtain ⟨Av138, cv138, rfl⟩ := Kd.R_slice (H.out.rowAt 0 rfl)
          refine hK.out _ _ ⟨H.out.cell 16 rfl 0 rfl, H.out.cell 16 rfl 1 rfl, H.out.cell 15 rfl 0 rfl, H.out.cell 15 rfl 1 rfl⟩ (fun hHeld => ?_)
          clear hK K
          refine norm_ (a' := ?_) ?_ ?_
          rotate_left
          · show Act.put _ (some 79) _ = _
            simp only [Act.put, List.setIfInBounds_toArray, List.set_cons_zero, List.set_cons_succ, i64_w, i32_w]
            rfl
          refine one_ (i := 5) (N := some 13) #[true, true, true, true, true, true, false] rfl rfl (by kernel_rfl) (by decide) (fun K hK => ?_)
          refine box_step (by rfl) (N := 13) ?hd (cs := #[.bool false, .slice none 0 0]) (t := 31) ?hr ?_
          (case hd => rfl)
          (case hr => first | (go_simp; done) | (go_simp; rfl))
          intro g139 hg w140 hbox hb
          have H' := Aside0.mk (Held.boxed (by repeat (first | exact H.out | refine Held.drewN ?_ _ | refine Held.drew ?_)) hg hbox hb); clear H; have H := H'; clear H'
          clear hbox hg hb
          refine hK.out _ _ ⟨H.out.cell 17 rfl 0 rfl, H.out.cell 17 rfl 1 rfl, H.out.cell 16 rfl 0 rfl, H.out.cell 16 rfl 1 rfl⟩ (fun hHeld => ?_)
          clear hK K
          refine norm_ (a' := ?_) ?_ ?_
          rotate_left
          · show Act.put _ (some 13) _ = _
            simp only [Act.put, List.setIfInBounds_toArray, List.set_cons_zero, List.set_cons_succ, i64_w, i32_w]
            rfl
          exact norm_ (by simp only [putAll, Act.put, List.setIfInBounds_toArray, List.set_cons_zero, List.set_cons_succ]) (hCont ((Av134, cv134, ov134), (Av136, cv136, ov136), (Av138, cv138, ov138), g139) _ (Held.pick H.out [3, 2, 1, 0, 4, 5, 6, 7, 8, 9, 10, 11, 12, 13, 14, 15, 16, 17] (by decide) rfl))
        · skip
          refine box_step (by rfl) (N := 13) ?hd (cs := #[.bool false, .slice none 0 0]) (t := 31) ?hr ?_
          (case hd => rfl)
          (case hr => first | (go_simp; done) | (go_simp; rfl))
          intro g141 hg w142 hbox hb
          have H' := Aside0.mk (Held.boxed (by repeat (first | exact H.out | refine Held.drewN ?_ _ | refine Held.drew ?_)) hg hbox hb); clear H; have H := H'; clear H'
          clear hbox hg hb
          refine hK.out _ _ ⟨H.out.cell 16 rfl 0 rfl, H.out.cell 16 rfl 1 rfl, H.out.cell 15 rfl 0 rfl, H.out.cell 15 rfl 1 rfl⟩ (fun hHeld => ?_)
          clear hK K
          refine norm_ (a' := ?_) ?_ ?_
          rotate_left
          · show Act.put _ (some 13) _ = _
            simp only [Act.put, List.setIfInBounds_toArray, List.set_cons_zero, List.set_cons_succ, i64_w, i32_w]
            rfl
          refine one_ (i := 4) (N := some 79) #[true, true, true, true, true, true, false] rfl rfl (by kernel_rfl) (by decide) (fun K hK => ?_)
          refine goes_ Try.func37 (by kernel_rfl) rfl #[.agg #[.bool a0_0, .slice Av134 l0_1.length cv134], .agg #[.bool a1_0, .slice Av136 l1_1.length cv136]] (by rfl) rfl rfl (by (try simp only [List.map_toArray, List.map_cons, List.map_nil]); first | done | rfl) ?_
          with_reducible refine (Cl.impl a0_0 _ _ l0_1 a1_0 _ _ l1_1 _ (Held.reads (by repeat (first | exact H.out | refine Held.drewN ?_ _ | refine Held.drew ?_)) 2 rfl).2.2 (Held.reads (by repeat (first | exact H.out | refine Held.drewN ?_ _ | refine Held.drew ?_)) 2 rfl).2.1 (Held.reads (by repeat (first | exact H.out | refine Held.drewN ?_ _ | refine Held.drew ?_)) 1 rfl).2.2 (Held.reads (by repeat (first | exact H.out | refine Held.drewN ?_ _ | refine Held.drew ?_)) 1 rfl).2.1 hll0_1 hll1_1).mono ?_
          rintro e w143 ⟨v144, rfl, ho, hb⟩
          refine ⟨_, rfl, ?_⟩
          obtain ⟨ov144, H'⟩ := Held.fresh (by repeat (first | exact H.out | refine Held.drewN ?_ _ | refine Held.drew ?_)) ho hb
          clear ho hb H
          have H := Aside0.mk H'
          clear H'
          obtain ⟨Av144, cv144, rfl⟩ := Kd.R_slice (H.out.rowAt 0 rfl)
          refine hK.out _ _ ⟨H.out.cell 17 rfl 0 rfl, H.out.cell 17 rfl 1 rfl, H.out.cell 16 rfl 0 rfl, H.out.cell 16 rfl 1 rfl⟩ (fun hHeld => ?_)
          clear hK K
          refine norm_ (a' := ?_) ?_ ?_
          rotate_left
          · show Act.put _ (some 79) _ = _
            simp only [Act.put, List.setIfInBounds_toArray, List.set_cons_zero, List.set_cons_succ, i64_w, i32_w]
            rfl
          exact norm_ (by simp only [putAll, Act.put, List.setIfInBounds_toArray, List.set_cons_zero, List.set_cons_succ]) (hCont ((Av134, cv134, ov134), (Av136, cv136, ov136), (Av144, cv144, ov144), g141) _ (Held.pick H.out [3, 2, 0, 1, 4, 5, 6, 7, 8, 9, 10, 11, 12, 13, 14, 15, 16, 17] (by decide) rfl))
      · skip
        refine box_step (by rfl) (N := 13) ?hd (cs := #[.bool false, .slice none 0 0]) (t := 31) ?hr ?_
        (case hd => rfl)
        (case hr => first | (go_simp; done) | (go_simp; rfl))
        intro g145 hg w146 hbox hb
        have H' := Aside0.mk (Held.boxed (by repeat (first | exact H.out | refine Held.drewN ?_ _ | refine Held.drew ?_)) hg hbox hb); clear H; have H := H'; clear H'
        clear hbox hg hb
        refine hK.out _ _ ⟨H.out.cell 15 rfl 0 rfl, H.out.cell 15 rfl 1 rfl, H.out.cell 14 rfl 0 rfl, H.out.cell 14 rfl 1 rfl⟩ (fun hHeld => ?_)
        clear hK K
        refine norm_ (a' := ?_) ?_ ?_
        rotate_left
        · show Act.put _ (some 13) _ = _
          simp only [Act.put, List.setIfInBounds_toArray, List.set_cons_zero, List.set_cons_succ, i64_w, i32_w]
          rfl
        refine one_ (i := 3) (N := some 78) #[true, true, true, true, false, true, false] rfl rfl (by kernel_rfl) (by decide) (fun K hK => ?_)
        refine goes_ Try.func27 (by kernel_rfl) rfl #[.agg #[.bool a1_0, .slice Al1_1 l1_1.length cl1_1]] (by rfl) rfl rfl (by (try simp only [List.map_toArray, List.map_cons, List.map_nil]); first | done | rfl) ?_
        with_reducible refine (Cl.toBigInt a1_0 _ _ l1_1 _ (Kd.C_below hrl1_1 (Held.below (by repeat (first | exact H.out | refine Held.drewN ?_ _ | refine Held.drew ?_)))) hcl1_1 hll1_1).mono ?_
        rintro e w147 ⟨v148, rfl, ho, hb⟩
        refine ⟨_, rfl, ?_⟩
        obtain ⟨ov148, H'⟩ := Held.fresh (by repeat (first | exact H.out | refine Held.drewN ?_ _ | refine Held.drew ?_)) ho hb
        clear ho hb H
        have H := Aside0.mk H'
        clear H'
        obtain ⟨Av148, cv148, rfl⟩ := Kd.R_slice (H.out.rowAt 0 rfl)
        refine hK.out _ _ ⟨H.out.cell 16 rfl 0 rfl, H.out.cell 16 rfl 1 rfl, H.out.cell 15 rfl 0 rfl, H.out.cell 15 rfl 1 rfl⟩ (fun hHeld => ?_)
        clear hK K
        refine norm_ (a' := ?_) ?_ ?_
        rotate_left
        · show Act.put _ (some 78) _ = _
          simp only [Act.put, List.setIfInBounds_toArray, List.set_cons_zero, List.set_cons_succ, i64_w, i32_w]
          rfl
        refine one_ (i := 4) (N := some 79) #[true, true, true, true, true, true, false] rfl rfl (by kernel_rfl) (by decide) (fun K hK => ?_)
        refine goes_ Try.func37 (by kernel_rfl) rfl #[.agg #[.bool a0_0, .slice Av134 l0_1.length cv134], .agg #[.bool a1_0, .slice Av148 l1_1.length cv148]] (by rfl) rfl rfl (by (try simp only [List.map_toArray, List.map_cons, List.map_nil]); first | done | rfl) ?_
        with_reducible refine (Cl.impl a0_0 _ _ l0_1 a1_0 _ _ l1_1 _ (Held.reads (by repeat (first | exact H.out | refine Held.drewN ?_ _ | refine Held.drew ?_)) 2 rfl).2.2 (Held.reads (by repeat (first | exact H.out | refine Held.drewN ?_ _ | refine Held.drew ?_)) 2 rfl).2.1 (Held.reads (by repeat (first | exact H.out | refine Held.drewN ?_ _ | refine Held.drew ?_)) 0 rfl).2.2 (Held.reads (by repeat (first | exact H.out | refine Held.drewN ?_ _ | refine Held.drew ?_)) 0 rfl).2.1 hll0_1 hll1_1).mono ?_
        rintro e w149 ⟨v150, rfl, ho, hb⟩
        refine ⟨_, rfl, ?_⟩
        obtain ⟨ov150, H'⟩ := Held.fresh (by repeat (first | exact H.out | refine Held.drewN ?_ _ | refine Held.drew ?_)) ho hb
        clear ho hb H
        have H := Aside0.mk H'
        clear H'
        obtain ⟨Av150, cv150, rfl⟩ := Kd.R_slice (H.out.rowAt 0 rfl)
        refine hK.out _ _ ⟨H.out.cell 17 rfl 0 rfl, H.out.cell 17 rfl 1 rfl, H.out.cell 16 rfl 0 rfl, H.out.cell 16 rfl 1 rfl⟩ (fun hHeld => ?_)
        clear hK K
        refine norm_ (a' := ?_) ?_ ?_
        rotate_left
        · show Act.put _ (some 79) _ = _
          simp only [Act.put, List.setIfInBounds_toArray, List.set_cons_zero, List.set_cons_succ, i64_w, i32_w]
          rfl
        exact norm_ (by simp only [putAll, Act.put, List.setIfInBounds_toArray, List.set_cons_zero, List.set_cons_succ]) (hCont ((Av134, cv134, ov134), (Av148, cv148, ov148), (Av150, cv150, ov150), g145) _ (Held.pick H.out [3, 1, 0, 2, 4, 5, 6, 7, 8, 9, 10, 11, 12, 13, 14, 15, 16, 17] (by decide) rfl))
    · skip
      refine box_step (by rfl) (N := 13) ?hd (cs := #[.bool false, .slice none 0 0]) (t := 31) ?hr ?_
      (case hd => rfl)
      (case hr => first | (go_simp; done) | (go_simp; rfl))
      intro g151 hg w152 hbox hb
      have H' := Aside0.mk (Held.boxed (by repeat (first | exact H.out | refine Held.drewN ?_ _ | refine Held.drew ?_)) hg hbox hb); clear H; have H := H'; clear H'
      clear hbox hg hb
      refine hK.out _ _ ⟨H.out.cell 14 rfl 0 rfl, H.out.cell 14 rfl 1 rfl, H.out.cell 13 rfl 0 rfl, H.out.cell 13 rfl 1 rfl⟩ (fun hHeld => ?_)
      clear hK K
      refine norm_ (a' := ?_) ?_ ?_
      rotate_left
      · show Act.put _ (some 13) _ = _
        simp only [Act.put, List.setIfInBounds_toArray, List.set_cons_zero, List.set_cons_succ, i64_w, i32_w]
        rfl
      refine one_ (i := 1) (N := some 76) #[true, true, true, false, false, true, false] rfl rfl (by kernel_rfl) (by decide) (fun K hK => ?_)
      refine goes_ Try.func27 (by kernel_rfl) rfl #[.agg #[.bool a0_0, .slice Al0_1 l0_1.length cl0_1]] (by rfl) rfl rfl (by (try simp only [List.map_toArray, List.map_cons, List.map_nil]); first | done | rfl) ?_
      with_reducible refine (Cl.toBigInt a0_0 _ _ l0_1 _ (Kd.C_below hrl0_1 (Held.below (by repeat (first | exact H.out | refine Held.drewN ?_ _ | refine Held.drew ?_)))) hcl0_1 hll0_1).mono ?_
      rintro e w153 ⟨v154, rfl, ho, hb⟩
      refine ⟨_, rfl, ?_⟩
      obtain ⟨ov154, H'⟩ := Held.fresh (by repeat (first | exact H.out | refine Held.drewN ?_ _ | refine Held.drew ?_)) ho hb
      clear ho hb H
      have H := Aside0.mk H'
      clear H'
      obtain ⟨Av154, cv154, rfl⟩ := Kd.R_slice (H.out.rowAt 0 rfl)
      refine hK.out _ _ ⟨H.out.cell 15 rfl 0 rfl, H.out.cell 15 rfl 1 rfl, H.out.cell 14 rfl 0 rfl, H.out.cell 14 rfl 1 rfl⟩ (fun hHeld => ?_)
      clear hK K
      refine norm_ (a' := ?_) ?_ ?_
      rotate_left
      · show Act.put _ (some 76) _ = _
        simp only [Act.put, List.setIfInBounds_toArray, List.set_cons_zero, List.set_cons_succ, i64_w, i32_w]
        rfl
      refine one_ (i := 3) (N := some 78) #[true, true, true, true, false, true, false] rfl rfl (by kernel_rfl) (by decide) (fun K hK => ?_)
      refine goes_ Try.func27 (by kernel_rfl) rfl #[.agg #[.bool a1_0, .slice Al1_1 l1_1.length cl1_1]] (by rfl) rfl rfl (by (try simp only [List.map_toArray, List.map_cons, List.map_nil]); first | done | rfl) ?_
      with_reducible refine (Cl.toBigInt a1_0 _ _ l1_1 _ (Kd.C_below hrl1_1 (Held.below (by repeat (first | exact H.out | refine Held.drewN ?_ _ | refine Held.drew ?_)))) hcl1_1 hll1_1).mono ?_
      rintro e w155 ⟨v156, rfl, ho, hb⟩
      refine ⟨_, rfl, ?_⟩
      obtain ⟨ov156, H'⟩ := Held.fresh (by repeat (first | exact H.out | refine Held.drewN ?_ _ | refine Held.drew ?_)) ho hb
      clear ho hb H
      have H := Aside0.mk H'
      clear H'
      obtain ⟨Av156, cv156, rfl⟩ := Kd.R_slice (H.out.rowAt 0 rfl)
      refine hK.out _ _ ⟨H.out.cell 16 rfl 0 rfl, H.out.cell 16 rfl 1 rfl, H.out.cell 15 rfl 0 rfl, H.out.cell 15 rfl 1 rfl⟩ (fun hHeld => ?_)
      clear hK K
      refine norm_ (a' := ?_) ?_ ?_
      rotate_left
      · show Act.put _ (some 78) _ = _
        simp only [Act.put, List.setIfInBounds_toArray, List.set_cons_zero, List.set_cons_succ, i64_w, i32_w]
        rfl
      refine one_ (i := 4) (N := some 79) #[true, true, true, true, true, true, false] rfl rfl (by kernel_rfl) (by decide) (fun K hK => ?_)
      refine goes_ Try.func37 (by kernel_rfl) rfl #[.agg #[.bool a0_0, .slice Av154 l0_1.length cv154], .agg #[.bool a1_0, .slice Av156 l1_1.length cv156]] (by rfl) rfl rfl (by (try simp only [List.map_toArray, List.map_cons, List.map_nil]); first | done | rfl) ?_
      with_reducible refine (Cl.impl a0_0 _ _ l0_1 a1_0 _ _ l1_1 _ (Held.reads (by repeat (first | exact H.out | refine Held.drewN ?_ _ | refine Held.drew ?_)) 1 rfl).2.2 (Held.reads (by repeat (first | exact H.out | refine Held.drewN ?_ _ | refine Held.drew ?_)) 1 rfl).2.1 (Held.reads (by repeat (first | exact H.out | refine Held.drewN ?_ _ | refine Held.drew ?_)) 0 rfl).2.2 (Held.reads (by repeat (first | exact H.out | refine Held.drewN ?_ _ | refine Held.drew ?_)) 0 rfl).2.1 hll0_1 hll1_1).mono ?_
      rintro e w157 ⟨v158, rfl, ho, hb⟩
      refine ⟨_, rfl, ?_⟩
      obtain ⟨ov158, H'⟩ := Held.fresh (by repeat (first | exact H.out | refine Held.drewN ?_ _ | refine Held.drew ?_)) ho hb
      clear ho hb H
      have H := Aside0.mk H'
      clear H'
      obtain ⟨Av158, cv158, rfl⟩ := Kd.R_slice (H.out.rowAt 0 rfl)
      refine hK.out _ _ ⟨H.out.cell 17 rfl 0 rfl, H.out.cell 17 rfl 1 rfl, H.out.cell 16 rfl 0 rfl, H.out.cell 16 rfl 1 rfl⟩ (fun hHeld => ?_)
      clear hK K
      refine norm_ (a' := ?_) ?_ ?_
      rotate_left
      · show Act.put _ (some 79) _ = _
        simp only [Act.put, List.setIfInBounds_toArray, List.set_cons_zero, List.set_cons_succ, i64_w, i32_w]
        rfl
      exact norm_ (by simp only [putAll, Act.put, List.setIfInBounds_toArray, List.set_cons_zero, List.set_cons_succ]) (hCont ((Av154, cv154, ov154), (Av156, cv156, ov156), (Av158, cv158, ov158), g151) _ (Held.pick H.out [2, 1, 0, 3, 4, 5, 6, 7, 8, 9, 10, 11, 12, 13, 14, 15, 16, 17] (by decide) rfl))
  rintro ⟨⟨Av160, cv160, ov160⟩, ⟨Av161, cv161, ov161⟩, ⟨Av162, cv162, ov162⟩, g163⟩ w164 hF
  clear hHeld H
  have H := Aside0.mk hF
  clear hF
  refine norm_ (a' := ?_) ?_ ?_
  rotate_left
  · simp only [putAll, Act.put, List.setIfInBounds_toArray, List.set_cons_zero, List.set_cons_succ]
    rfl
  refine one_ (i := 6) (N := none) #[true, true, true, true, true, true, true] rfl rfl (by kernel_rfl) (by decide) (fun K hK => ?_)
  have f166 := H.out.cell 3 rfl 0 rfl
  have f167 := H.out.frozen 3 rfl 0
  have f168 := H.out.cell 3 rfl 1 rfl
  have f169 := H.out.frozen 3 rfl 1
  refine Held.store_step H.out 3 rfl [.bool (rm1 a0_0 l0_1 a1_0 l1_1), .slice Av162 (rm2 a0_0 l0_1 a1_0 l1_1).length cv162] (by rfl) rfl ?hr rfl rfl ?_
  (case hr => first | (go_simp; done) | (go_simp; rfl))
  clear H
  intro w165 H'
  have H := Aside0.mk H'
  clear H'
  clear f166 f167 f168 f169
  refine hK.out _ _ ⟨H.out.cell 17 rfl 0 rfl, H.out.cell 17 rfl 1 rfl, H.out.cell 16 rfl 0 rfl, H.out.cell 16 rfl 1 rfl⟩ (fun hHeld => ?_)
  clear hK K hHeld
  refine done_ (by kernel_rfl) ?_
  have f170 := H.out.cell 3 rfl 0 rfl
  have f171 := H.out.cell 3 rfl 1 rfl
  have f172 := H.out.cell 15 rfl 0 rfl
  have f173 := H.out.cell 15 rfl 1 rfl
  have hd178 : decide (kadd 1 (rm2 a0_0 l0_1 a1_0 l1_1).length < 0) = false := decide_eq_false (by unfold kadd; omega)
  try go_wp2_with (first | ((with_reducible refine gate_callee (f := 29) rfl ?_); refine goesL_ (some 82) rfl rfl Try.func29 (by kernel_rfl) rfl #[.agg #[.bool (rm1 a0_0 l0_1 a1_0 l1_1), .slice Av162 (rm2 a0_0 l0_1 a1_0 l1_1).length cv162], .agg #[.bool (rm1 a0_0 l0_1 a1_0 l1_1), .slice Av57 (rm2 a0_0 l0_1 a1_0 l1_1).length cv57]] rfl (by (try simp only [List.map_toArray, List.map_cons, List.map_nil]); first | done | rfl) ?_; clear f170 f171 f172 f173; (with_reducible refine (Cl.eqBigInt (rm1 a0_0 l0_1 a1_0 l1_1) _ _ _ _ (rm2 a0_0 l0_1 a1_0 l1_1) _ (Held.reads (by repeat (first | exact H.out | refine Held.drewN ?_ _ | refine Held.drew ?_)) 2 rfl).2.2 (Held.reads (by repeat (first | exact H.out | refine Held.drewN ?_ _ | refine Held.drew ?_)) 2 rfl).2.1 (Held.reads (by repeat (first | exact H.out | refine Held.drewN ?_ _ | refine Held.drew ?_)) 14 rfl).2.2 (Held.reads (by repeat (first | exact H.out | refine Held.drewN ?_ _ | refine Held.drew ?_)) 14 rfl).2.1 (Cl.len0 hll0_1 hll1_1)).mono ?_); rintro e w174 ⟨rfl, hb⟩; refine ⟨_, rfl, ?_⟩; have H' := Aside0.mk (Held.grow (by repeat (first | exact H.out | refine Held.drewN ?_ _ | refine Held.drew ?_)) hb); clear H; have H := H'; clear H'; clear hb; have f175 := H.out.cell 6 rfl 0 rfl; have f176 := H.out.cell 6 rfl 1 rfl; ) | ((with_reducible refine gate_callee (f := 33) rfl ?_); refine goesL_ (some 86) rfl rfl Try.func33 (by kernel_rfl) rfl #[.agg #[.bool (rm1 a0_0 l0_1 a1_0 l1_1), .slice Av92 (rm2 a0_0 l0_1 a1_0 l1_1).length cv92], .int .i64 1] rfl (by (try simp only [List.map_toArray, List.map_cons, List.map_nil]); first | done | rfl) ?_; clear f175 f176; (with_reducible refine (Cl.heldBigInt (rm1 a0_0 l0_1 a1_0 l1_1) _ _ (rm2 a0_0 l0_1 a1_0 l1_1).length 1 _ (Held.reads (by repeat (first | exact H.out | refine Held.drewN ?_ _ | refine Held.drew ?_)) 7 rfl).2.2 (Held.reads (by repeat (first | exact H.out | refine Held.drewN ?_ _ | refine Held.drew ?_)) 7 rfl).2.1 (Cl.len0 hll0_1 hll1_1) (by decide) (by decide)).mono ?_); rintro e w177 ⟨rfl, hb⟩; refine ⟨_, rfl, ?_⟩; have H' := Aside0.mk (Held.grow (by repeat (first | exact H.out | refine Held.drewN ?_ _ | refine Held.drew ?_)) hb); clear H; have H := H'; clear H'; clear hb; ))
  go_ret
  exact ⟨rfl, Held.below (by repeat (first | exact H.out | refine Held.drewN ?_ _ | refine Held.drew ?_))⟩

theorem _root_.Go.Proofs.Ytmnahdoomnbdoaa.PFnExactBigIntMul.laws_FnExactBigIntMul.calls (a0_0 : Bool) (Al0_1 : Option Addr) (cl0_1 : Nat) (l0_1 : List Int) (a1_0 : Bool) (Al1_1 : Option Addr) (cl1_1 : Nat) (l1_1 : List Int) (w : World) (hrl0_1 : Kd.C (Kd.int .i64) w Al0_1 l0_1.length l0_1) (hcl0_1 : l0_1.length ≤ cl0_1) (hrl1_1 : Kd.C (Kd.int .i64) w Al1_1 l1_1.length l1_1) (hcl1_1 : l1_1.length ≤ cl1_1) (h : laws_FnExactBigIntMul.f a0_0 l0_1 a1_0 l1_1 = some true) :
    Calls Try.prog 9 #[.agg #[.bool a0_0, .slice Al0_1 l0_1.length cl0_1], .agg #[.bool a1_0, .slice Al1_1 l1_1.length cl1_1]] w fun e w' => e = .returned (.bool true) ∧ Below w.heap.size w w' := by
  unfold laws_FnExactBigIntMul.f at h
  split at h
  · rename_i hg
    obtain ⟨⟨_, ⟨_, hml0_1⟩⟩, ⟨_, ⟨_, hml1_1⟩⟩⟩ := hg
    exact laws_FnExactBigIntMul.walk a0_0 Al0_1 cl0_1 l0_1 a1_0 Al1_1 cl1_1 l1_1 w hrl0_1 hcl0_1 hrl1_1 hcl1_1 hml0_1 hml1_1
  · exact absurd h (by simp)
theorem FnExactBigIntMul : laws_FnExactBigIntMul.Pure := by
  intro x0 x1 h0 h1
  unfold laws_FnExactBigIntMul.f
  exact if_pos ⟨h0, h1⟩

end Go.Proofs.Ytmnahdoomnbdoaa.Pure
