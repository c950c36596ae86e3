/- The program's BigIntAdd returns what the reference's returns, for every two numbers with a sign; no condition. -/
import Derived.Test.YtmnahdoomnbdoaaPFnExactBigIntAddx0
import Derived.Test.YtmnahdoomnbdoaaPFnExactBigIntAddx1
import Derived.Test.YtmnahdoomnbdoaaPFnExactBigIntAddx2
import Derived.Test.YtmnahdoomnbdoaaPFnExactBigIntAddx3
import Derived.Test.YtmnahdoomnbdoaaPFnExactBigIntAddx4
import Derived.Test.YtmnahdoomnbdoaaPFnExactBigIntAddx5
import Derived.Test.YtmnahdoomnbdoaaPFnExactBigIntAddx6
import Derived.Test.YtmnahdoomnbdoaaPFnExactBigIntAddx7
import Derived.Test.YtmnahdoomnbdoaaLb
import Derived.Test.YtmnahdoomnbdoaaBu
import Derived.Test.YtmnahdoomnbdoaaNu
set_option linter.unusedVariables false
set_option linter.unusedSimpArgs false
namespace Go.Proofs.Ytmnahdoomnbdoaa.Pure
open Go.RowKit Go.Proofs.Ytmnahdoomnbdoaa.PFnExactBigIntAdd Go.Proofs.YtmnahdoomnbdoaaW.PrintWords Go.Proofs.YtmnahdoomnbdoaaW.PrintLast Go.Proofs.YtmnahdoomnbdoaaW.PrintMore Go.Proofs.Ytmnahdoomnbdoaa.Lb Go.Proofs.Ytmnahdoomnbdoaa.Bu
attribute [local go_sem] max2_int min2_int max_two min_two max_three min_three max_four min_four   -- for this text's walks alone

theorem eqIntS_l0 (l : List Int) (hl : l.length ≤ 1152921504606846976) : ∀ (d k i : Nat), i + d = l.length → d < k →
    laws_eqIntS.l0 k l l (i : Int) = some true := by
  intro d
  induction d with
  | zero =>
    intro k i h hk
    obtain ⟨k, rfl, _⟩ := fuel hk
    simp only [laws_eqIntS.l0]
    rw [if_neg (by omega)]
  | succ d ih =>
    intro k i h hk
    obtain ⟨k, rfl, hk'⟩ := fuel hk
    simp only [laws_eqIntS.l0]
    rw [if_pos (by omega), if_pos (by omega), if_pos (by omega), if_pos trivial, w64 (by omega) (by omega)]
    exact ih k (i + 1) (by omega) (by omega)
theorem eqIntS_same (l : List Int) (hl : l.length ≤ 1152921504606846976) (k : Nat) (hk : l.length < k) : laws_eqIntS.f k l l = some true := by
  unfold laws_eqIntS.f
  rw [if_pos rfl]
  exact eqIntS_l0 l hl l.length k 0 (by omega) hk

theorem markIntS_l0 : ∀ (s p : List Int) (a : Int) (k : Nat), s.length < k → p.length + s.length ≤ 1152921504606846976 → 0 ≤ a → a + s.length ≤ 1152921504606846976 →
    laws_markIntS.l0 k (p ++ s) a (p.length : Int) = some (a + s.length, p ++ mk a s.length) := by
  intro s
  induction s with
  | nil =>
    intro p a k hk _ _ _
    obtain ⟨k, rfl, _⟩ := fuel hk
    simp only [laws_markIntS.l0]
    rw [if_neg (by simp)]
    simp [mk]
  | cons x s ih =>
    intro p a k hk hl h0 h1
    obtain ⟨k, rfl, hk'⟩ := fuel hk
    simp only [List.length_cons] at hl h1 hk'
    simp only [laws_markIntS.l0]
    rw [if_pos (by rw [List.length_append, List.length_cons]; omega), if_pos (by omega), w64 (by omega) (by omega), w64 (by omega) (by omega), Int.toNat_natCast, set_mid, ← len_snoc p a,
      ih (p ++ [a]) (a + 1) k (by omega) (by rw [List.length_append]; simp; omega) (by omega) (by omega)]
    simp only [List.length_cons, mk, List.append_assoc, List.singleton_append]
    congr 2
    omega
theorem markIntS_ok (l : List Int) (a : Int) (k : Nat) (hk : l.length < k) (h0 : 0 ≤ a) (h1 : a + l.length ≤ 1152921504606846976) (hl : l.length ≤ 1152921504606846976) :
    laws_markIntS.f k l a = some (a + l.length, mk a l.length) := by
  have := markIntS_l0 l [] a k hk (by simpa using hl) h0 h1
  simpa [laws_markIntS.f] using this

theorem heldIntS_l0 : ∀ (n : Nat) (p : List Int) (a : Int) (k : Nat), n < k → p.length + n ≤ 1152921504606846976 → 0 ≤ a → a + n ≤ 1152921504606846976 →
    laws_heldIntS.l0 k (p ++ mk a n) a (p.length : Int) = some (a + n) := by
  intro n
  induction n with
  | zero =>
    intro p a k hk _ _ _
    obtain ⟨k, rfl, _⟩ := fuel hk
    have h1 : ¬ ((p.length : Int) < ((p ++ mk a 0).length : Int)) := by simp [mk]
    simp only [laws_heldIntS.l0, h1, ↓reduceIte]
    simp
  | succ n ih =>
    intro p a k hk hl h0 h1
    obtain ⟨k, rfl, hk'⟩ := fuel hk
    have e : p ++ mk a (n + 1) = (p ++ [a]) ++ mk (a + 1) n := by simp [mk]
    have h1 : (p.length : Int) < ((p ++ mk a (n + 1)).length : Int) := by rw [List.length_append, mk_length]; omega
    have h2 : rd (p ++ mk a (n + 1)) (p.length : Int) = a := rd_mid _ _ _
    have h3 : (0 : Int) ≤ (p.length : Int) := by omega
    simp only [laws_heldIntS.l0, h1, h2, h3, ↓reduceIte]
    rw [w64 (by omega) (by omega), w64 (by omega) (by omega), ← len_snoc p a, e, ih (p ++ [a]) (a + 1) k (by omega) (by rw [List.length_append]; simp; omega) (by omega) (by omega)]
    congr 1
    omega
theorem heldIntS_ok (n : Nat) (a : Int) (k : Nat) (hk : n < k) (h0 : 0 ≤ a) (h1 : a + n ≤ 1152921504606846976) :
    laws_heldIntS.f k (mk a n) a = some (a + n) := by
  have := heldIntS_l0 n [] a k hk (by simp; omega) h0 h1
  simpa [laws_heldIntS.f] using this

theorem eqBigInt_same (b : Bool) (l : List Int) (hl : l.length ≤ 1152921504606846976) (k : Nat) (hk : l.length < k) : laws_eqBigInt.f k b l b l = some true := by
  unfold laws_eqBigInt.f
  rw [if_neg (by simp), eqIntS_same l hl k hk]; rfl
theorem markBigInt_ok (b : Bool) (l : List Int) (a : Int) (k : Nat) (hk : l.length < k) (h0 : 0 ≤ a) (h1 : a + l.length ≤ 1152921504606846976) (hl : l.length ≤ 1152921504606846976) :
    laws_markBigInt.f k b l a = some (a + l.length, mk a l.length) := by
  unfold laws_markBigInt.f
  rw [markIntS_ok l a k hk h0 h1 hl]; rfl
theorem heldBigInt_ok (b : Bool) (n : Nat) (a : Int) (k : Nat) (hk : n < k) (h0 : 0 ≤ a) (h1 : a + n ≤ 1152921504606846976) :
    laws_heldBigInt.f k b (mk a n) a = some (a + n) := by
  unfold laws_heldBigInt.f
  rw [heldIntS_ok n a k hk h0 h1]
  simp only [Option.bind_some]
  rw [if_neg (by omega)]

theorem toIntS_l0 (l : List Int) (hl : l.length ≤ 1099511627776) : ∀ (d k i : Nat), i + d = l.length → d < k →
    laws_toIntS.l0 k l (l.take i ++ List.replicate d 0) (i : Int) = some l := by
  intro d
  induction d with
  | zero =>
    intro k i h hk
    obtain ⟨k, rfl, _⟩ := fuel hk
    simp only [laws_toIntS.l0]
    rw [if_neg (by omega)]
    simp [List.take_of_length_le (show l.length ≤ i by omega)]
  | succ d ih =>
    intro k i h hk
    obtain ⟨k, rfl, hk'⟩ := fuel hk
    simp only [laws_toIntS.l0]
    rw [if_pos (by omega), if_pos (by omega), if_pos (by rw [List.length_append, List.length_take, List.length_replicate]; omega)]
    rw [w64 (by omega) (by omega), Int.toNat_natCast, copy_step l i d h]
    exact ih k (i + 1) (by omega) (by omega)
theorem toIntS_ok (l : List Int) (hl : l.length ≤ 1099511627776) (k : Nat) (hk : l.length < k) : laws_toIntS.f k l = some l := by
  unfold laws_toIntS.f
  rw [if_pos (by omega), if_pos (by omega)]
  have := toIntS_l0 l hl l.length k 0 (by omega) hk
  simpa using this

theorem toBigInt_ok (b : Bool) (l : List Int) (hl : l.length ≤ 1048576) (k : Nat) (hk : l.length < k) : laws_toBigInt.f k b l = some (b, l) := by
  unfold laws_toBigInt.f
  simp [toIntS_ok l (by omega) k hk]

theorem szIntS_ok (l : List Int) (a : Int) (h0 : 0 ≤ a) (h1 : a ≤ 1048576) (hl : l.length ≤ maxLen) : laws_szIntS.f l a = some (if a - l.length < 0 then -1 else a - l.length) := by
  unfold laws_szIntS.f
  simp only [maxLen] at hl
  rw [w64 (by omega) (by omega)]
  by_cases h : a - (l.length : Int) < 0
  · simp only [h, ↓reduceIte]
  · simp only [h, ↓reduceIte]
theorem szBigInt_ok (b : Bool) (l : List Int) (a : Int) (h0 : 0 ≤ a) (h1 : a ≤ 1048576) (hl : l.length ≤ maxLen) : laws_szBigInt.f b l a = some (if a - l.length < 0 then -1 else a - l.length) := by
  unfold laws_szBigInt.f
  rw [szIntS_ok l a h0 h1 hl]
  simp only [Option.bind_some]
  by_cases h : a - (l.length : Int) < 0
  · simp [h]
  · simp only [h, ↓reduceIte]

theorem spec_l02Trim_l0 (l : List Int) (hl : l.length ≤ 1152921504606846976) : ∀ (i k : Nat), i ≤ l.length → i < k → spec_l02Trim.l0 k l (i : Int) = some (trimTo l i) := by
  intro i
  induction i with
  | zero =>
    intro k _ hk
    obtain ⟨k, rfl, _⟩ := fuel hk
    simp only [spec_l02Trim.l0, trimTo]
    rw [if_neg (by omega), if_pos (by omega), if_pos (by omega)]
    simp
  | succ i ih =>
    intro k hi hk
    obtain ⟨k, rfl, hk'⟩ := fuel hk
    simp only [spec_l02Trim.l0, trimTo]
    have e : ((i + 1 : Nat) : Int) - 1 = (i : Int) := by omega
    rw [if_pos (by omega), e, w64 (by omega) (by omega), if_pos (by omega), if_pos (by omega)]
    by_cases h0 : rd l (i : Int) = 0
    · rw [if_pos h0, if_pos h0]
      exact ih k (by omega) (by omega)
    · rw [if_neg h0, if_neg h0, if_pos (by omega), if_pos (by omega)]
      rfl
theorem spec_l02Trim_ok (l : List Int) (hl : l.length ≤ 1152921504606846976) (k : Nat) (hk : l.length < k) : spec_l02Trim.f k l = some (trim l) :=
  spec_l02Trim_l0 l hl l.length k (Nat.le_refl _) hk

theorem spec_l02Cap_ok (l : List Int) (hl : l.length ≤ 1152921504606846976) (k : Nat) (hk : l.length < k) : spec_l02Cap.f k l = some (if (trim l).length > 60 then [] else trim l) := by
  unfold spec_l02Cap.f
  rw [spec_l02Trim_ok l hl k hk]
  simp only [Option.bind_some]
  by_cases h : (trim l).length > 60
  · rw [if_pos (by omega), if_pos h]
  · rw [if_neg (by omega), if_neg h]

theorem spec_l03Make_ok (b : Bool) (l : List Int) (hl : l.length ≤ 1152921504606846976) (k : Nat) (hk : l.length < k) :
    spec_l03Make.f k b l = some (b && decide (0 < (capped l).length), capped l) := by
  unfold spec_l03Make.f
  rw [spec_l02Cap_ok l hl k hk]
  have hc : (if (trim l).length > 60 then [] else trim l) = capped l := rfl
  have hle := capped_le l
  rw [hc]
  simp only [Option.bind_some, List.nil_append, List.length_nil]
  cases b
  · rw [if_neg (by simp), if_pos (by omega)]; rfl
  · rw [if_pos rfl, if_pos (by omega)]
    simp

theorem spec_in_ok (x : Int) : spec_l01In.f x 0 999999999 = some (inB x) := by
  unfold spec_l01In.f inB
  by_cases h : x ≥ 0
  · rw [if_pos h, decide_eq_true h, Bool.true_and]
  · rw [if_neg h, decide_eq_false h, Bool.false_and]
theorem spec_NatOk_l0 (l : List Int) (hl : l.length ≤ 1152921504606846976) : ∀ (d k i : Nat), i + d = l.length → d < k →
    spec_NatOk.l0 k l l (l.length : Int) (i : Int) = some ((l.drop i).all inB && (decide (l.length ≤ 60) && (l.isEmpty || !decide (rd l ((l.length : Int) - 1) = 0)))) := by
  intro d
  induction d with
  | zero =>
    intro k i h hk
    obtain ⟨k, rfl, _⟩ := fuel hk
    have h1 : ¬ ((i : Int) < (l.length : Int)) := by omega
    simp only [spec_NatOk.l0, h1, ↓reduceIte]
    rw [List.drop_of_length_le (by omega)]
    by_cases h2 : (l.length : Int) ≤ 60
    · have h2' : l.length ≤ 60 := by omega
      by_cases h3 : (l.length : Int) = 0
      · have : l = [] := List.length_eq_zero_iff.mp (by omega)
        subst this
        simp
      · have h4 : (0 : Int) ≤ wrap64 ((l.length : Int) - 1) := by rw [w64 (by omega) (by omega)]; omega
        have h5 : wrap64 ((l.length : Int) - 1) < (l.length : Int) := by rw [w64 (by omega) (by omega)]; omega
        have h6 : l.isEmpty = false := by cases l with | nil => simp at h3 | cons _ _ => rfl
        simp only [h2, h3, h4, h5, h6, ↓reduceIte, h2', decide_true, List.all_nil, Bool.true_and, Bool.false_or]
        rw [w64 (by omega) (by omega)]
        congr 1
    · have h2' : ¬ l.length ≤ 60 := by omega
      simp [h2, h2']
  | succ d ih =>
    intro k i h hk
    obtain ⟨k, rfl, hk'⟩ := fuel hk
    have h1 : (i : Int) < (l.length : Int) := by omega
    have h2 : (0 : Int) ≤ (i : Int) := by omega
    have w : wrap64 ((i : Int) + 1) = ((i + 1 : Nat) : Int) := by rw [w64 (by omega) (by omega)]; omega
    have e : l.drop i = rd l i :: l.drop (i + 1) := drop_rd l i (by omega)
    simp only [spec_NatOk.l0, h1, h2, ↓reduceIte, spec_in_ok, Option.bind_some, w, ih k (i + 1) (by omega) (by omega), e, List.all_cons]
    cases inB (rd l (i : Int)) <;> simp
theorem spec_NatOk_ok (l : List Int) (hl : l.length ≤ 1152921504606846976) (k : Nat) (hk : l.length < k) : spec_NatOk.f k l = some (nok l) := by
  have := spec_NatOk_l0 l hl l.length k 0 (by omega) hk
  unfold spec_NatOk.f
  refine this.trans ?_
  rw [List.drop_zero, Bool.and_comm]; rfl

theorem impl_NatOk_ok (l : List Int) : impl_NatOk.f l = some (nok l) := by
  unfold impl_NatOk.f Ext.natOkB nok
  congr 2
  rw [Bool.eq_iff_iff]
  simp only [Bool.not_eq_true', List.any_eq_false, List.all_eq_true, Ext.badB, inB, Bool.or_eq_true, Bool.and_eq_true, decide_eq_true_iff]
  constructor
  · intro h x hx
    have := h x hx
    omega
  · intro h x hx
    have := h x hx
    omega

theorem spec_BigIntOk_ok (b : Bool) (l : List Int) (hl : l.length ≤ 1048576) (k : Nat) (hk : l.length < k) : spec_BigIntOk.f k b l = some (bok b l) := by
  unfold spec_BigIntOk.f bok
  rw [spec_NatOk_ok l (by omega) k hk]
  simp only [Option.bind_some]
  cases nok l <;> cases b <;> simp
theorem impl_BigIntOk_ok (b : Bool) (l : List Int) : impl_BigIntOk.f b l = some (bok b l) := by
  unfold impl_BigIntOk.f bok
  rw [impl_NatOk_ok l]
  simp only [Option.bind_some]
  cases nok l <;> cases b
  · simp
  · simp
  · simp
  · by_cases h : l = []
    · subst h; rfl
    · have h0 : 0 < l.length := len_pos h
      have h1 : ((l.length : Int) == 0) = false := beq_eq_false_iff_ne.mpr (by omega)
      simp [h0, h1]

def rb1 (s : Bool) (n : Nat) : Bool := s && decide (0 < (capped (dg n)).length)
def rb2 (n : Nat) : List Int := capped (dg n)
theorem rb2_len (n : Nat) : (rb2 n).length ≤ 60 := capped_le _
theorem bok_nok {b : Bool} {l : List Int} (h : bok b l = true) : nok l = true := by
  unfold bok at h
  rw [Bool.and_eq_true] at h
  exact h.1
theorem mul_len {a b : List Int} (h1 : nok a = true) (h2 : nok b = true) : (dg (val a * val b)).length ≤ 120 := by
  rw [dg_len_iff]
  have l1 := nok_len h1
  have l2 := nok_len h2
  have v1 := val_lt (nok_Dig h1)
  have v2 := val_lt (nok_Dig h2)
  have p1 : (1000000000 : Nat) ^ a.length ≤ 1000000000 ^ 60 := Nat.pow_le_pow_right (by omega) l1
  have p2 : (1000000000 : Nat) ^ b.length ≤ 1000000000 ^ 60 := Nat.pow_le_pow_right (by omega) l2
  exact Nat.lt_of_lt_of_le (Nat.mul_lt_mul'' (Nat.lt_of_lt_of_le v1 p1) (Nat.lt_of_lt_of_le v2 p2)) (by rw [← Nat.pow_add]; exact Nat.le_refl _)
theorem few_dg (n : Nat) : (if (dg n).length > 60 then [] else dg n) = capped (dg n) := by
  unfold capped
  rw [trim_dg]

theorem cmp_ge {x y : List Int} (hx : dg (val x) = x) (hy : dg (val y) = y) : (cmpL x y ≥ 0) ↔ val y ≤ val x := by
  have h := cmpL_dg (val x) (val y)
  rw [hx, hy] at h
  rw [h]
  constructor
  · intro h1
    by_cases h2 : val x < val y
    · rw [if_pos h2] at h1; omega
    · omega
  · intro h1
    rw [if_neg (by omega)]
    split <;> omega
theorem len_le {x y : List Int} (hx : dg (val x) = x) (hy : dg (val y) = y) (h : val y ≤ val x) : y.length ≤ x.length := by
  have := dg_len_mono h
  rwa [hx, hy] at this
def aS (a : Bool) (x : Nat) (b : Bool) (y : Nat) : Bool := if (a == b) = true then a else if y ≤ x then a else b
def aN (a : Bool) (x : Nat) (b : Bool) (y : Nat) : Nat := if (a == b) = true then x + y else if y ≤ x then x - y else y - x
theorem add_dg_len {x y : Nat} {n : Nat} (hx : x < 1000000000 ^ n) (hy : y < 1000000000 ^ n) : (dg (x + y)).length ≤ n + 1 := by
  rw [dg_len_iff, Nat.pow_succ]
  omega
theorem aN_len {a : Bool} {x : Nat} {b : Bool} {y : Nat} {n : Nat} (hx : x < 1000000000 ^ n) (hy : y < 1000000000 ^ n) : (dg (aN a x b y)).length ≤ n + 1 := by
  refine Nat.le_trans (dg_len_mono (?_ : aN a x b y ≤ x + y)) (add_dg_len hx hy)
  unfold aN
  split
  · exact Nat.le_refl _
  · split <;> omega
theorem val_lt' {l : List Int} {n : Nat} (h : Dig l) (hl : l.length ≤ n) : val l < 1000000000 ^ n := Nat.lt_of_lt_of_le (val_lt h) (Nat.pow_le_pow_right (by omega) hl)

/-- One limb of a sum. -/
theorem add_step (a b : List Int) (ha : Dig a) (hb : Dig b) (i : Nat) (p : List Int) (hp : p.length = i) (hD : Dig p) (c : Nat) (hc : c ≤ 1) (hv : val p + c * 1000000000 ^ i = val (a.take i) + val (b.take i)) (x y : Nat) (hx : (x : Int) = if i < a.length then rd a (i : Int) else 0) (hy : (y : Int) = if i < b.length then rd b (i : Int) else 0) :
    x ≤ 999999999 ∧ y ≤ 999999999 ∧ (x + y + c) / 1000000000 ≤ 1 ∧ Dig (p ++ [(((x + y + c) % 1000000000 : Nat) : Int)]) ∧
      val (p ++ [(((x + y + c) % 1000000000 : Nat) : Int)]) + ((x + y + c) / 1000000000) * 1000000000 ^ (i + 1) = val (a.take (i + 1)) + val (b.take (i + 1)) := by
  have ra := Dig_rd ha i
  have rb := Dig_rd hb i
  have va : val (a.take (i + 1)) = val (a.take i) + 1000000000 ^ i * x := by
    by_cases h : i < a.length
    · rw [if_pos h] at hx; rw [val_take a i h, ← hx]; simp
    · rw [if_neg h] at hx
      have : x = 0 := by omega
      subst this
      rw [List.take_of_length_le (by omega), List.take_of_length_le (by omega)]; simp
  have vb : val (b.take (i + 1)) = val (b.take i) + 1000000000 ^ i * y := by
    by_cases h : i < b.length
    · rw [if_pos h] at hy; rw [val_take b i h, ← hy]; simp
    · rw [if_neg h] at hy
      have : y = 0 := by omega
      subst this
      rw [List.take_of_length_le (by omega), List.take_of_length_le (by omega)]; simp
  have hx9 : x ≤ 999999999 := by
    by_cases h : i < a.length
    · rw [if_pos h] at hx; omega
    · rw [if_neg h] at hx; omega
  have hy9 : y ≤ 999999999 := by
    by_cases h : i < b.length
    · rw [if_pos h] at hy; omega
    · rw [if_neg h] at hy; omega
  refine ⟨hx9, hy9, by omega, Dig_append.mpr ⟨hD, Dig_cons.mpr ⟨by omega, Dig_nil⟩⟩, ?_⟩
  rw [val_snoc, hp, va, vb, Nat.pow_succ]
  have hd : 1000000000 * ((x + y + c) / 1000000000) + (x + y + c) % 1000000000 = x + y + c := Nat.div_add_mod _ _
  generalize (x + y + c) / 1000000000 = q at *
  generalize (x + y + c) % 1000000000 = r at *
  simp only [Int.toNat_natCast]
  generalize 1000000000 ^ i = P at *
  clear hx hy va vb ra rb
  grind

theorem spec_l02Add_l0 (a b : List Int) (ha : Dig a) (hb : Dig b) (hal : a.length ≤ 1000) (hbl : b.length ≤ 1000) : ∀ (d i : Nat) (p : List Int) (c k : Nat), i + d = 1001 → p.length = i → 2 * d + 10 < k → c ≤ 1 → Dig p → (1000 < i → c = 0) → val p + c * 1000000000 ^ i = val (a.take i) + val (b.take i) →
    ∃ q, Dig q ∧ q.length ≤ 1001 ∧ val q = val a + val b ∧ spec_l02Add.l0 k a b p (c : Int) (i : Int) = some q := by
  intro d
  induction d with
  | zero =>
    intro i p c k hi hp hk hc hD hz hv
    obtain ⟨k, rfl, hk'⟩ := fuel hk
    obtain ⟨k, rfl, _⟩ := fuel (show 8 < k by omega)
    have hc0 : c = 0 := hz (by omega)
    subst hc0
    have h1 : ¬ ((i : Int) < (a.length : Int)) := by omega
    have h2 : ¬ ((i : Int) < (b.length : Int)) := by omega
    rw [List.take_of_length_le (by omega), List.take_of_length_le (by omega)] at hv
    refine ⟨p, hD, by omega, by omega, ?_⟩
    have h3 : decide (((0 : Nat) : Int) > 0) = false := by decide
    simp only [spec_l02Add.l0, spec_l02Add.j1, h1, h2, h3, ↓reduceIte, Bool.false_eq_true]
  | succ d ih =>
    intro i p c k hi hp hk hc hD hz hv
    obtain ⟨k, rfl, hk'⟩ := fuel hk
    obtain ⟨k, rfl, hk''⟩ := fuel (show 2 * d + 11 < k by omega)
    have h0 : (0 : Int) ≤ (i : Int) := by omega
    have hpl : p.length < 17592186044416 := by omega
    have ra := Dig_rd ha i
    have rb := Dig_rd hb i
    have bw : i + 1 ≤ 9223372036854775807 := by omega
    obtain ⟨x, hx⟩ : ∃ x : Nat, (x : Int) = if i < a.length then rd a (i : Int) else 0 := ⟨(if i < a.length then rd a (i : Int) else 0).toNat, by split <;> omega⟩
    obtain ⟨y, hy⟩ : ∃ y : Nat, (y : Int) = if i < b.length then rd b (i : Int) else 0 := ⟨(if i < b.length then rd b (i : Int) else 0).toNat, by split <;> omega⟩
    obtain ⟨hx9, hy9, g0, g1, g2⟩ := add_step a b ha hb i p hp hD c hc hv x y hx hy
    have hz' : 1000 < i + 1 → (x + y + c) / 1000000000 = 0 := by
      intro h
      rw [if_neg (by omega)] at hx
      rw [if_neg (by omega)] at hy
      omega
    have hgo := ih (i + 1) (p ++ [(((x + y + c) % 1000000000 : Nat) : Int)]) ((x + y + c) / 1000000000) k (by omega) (by simp [hp]) (by omega) g0 g1 hz' g2
    obtain ⟨q, q1, q2, q3, q4⟩ := hgo
    have b1 : c + x ≤ 9223372036854775807 := by omega
    have b2 : c + x + y ≤ 9223372036854775807 := by omega
    have b4 : c + y ≤ 9223372036854775807 := by omega
    have b3 : (x + y + c) / 1000000000 ≤ 9223372036854775807 := by omega
    by_cases ha1 : i < a.length
    · have h1 : (i : Int) < (a.length : Int) := by omega
      rw [if_pos ha1] at hx
      by_cases hb1 : i < b.length
      · have h2 : (i : Int) < (b.length : Int) := by omega
        rw [if_pos hb1] at hy
        have e0 : c + x + y = x + y + c := by omega
        have e4 : Int.tmod ((x + y + c : Nat) : Int) 1000000000 = (((x + y + c) % 1000000000 : Nat) : Int) := rfl
        have e5 : Int.tdiv ((x + y + c : Nat) : Int) 1000000000 = (((x + y + c) / 1000000000 : Nat) : Int) := rfl
        refine ⟨q, q1, q2, q3, ?_⟩
        simp only [spec_l02Add.l0, spec_l02Add.j1, h0, h1, h2, hpl, ← hx, ← hy, wadd b1, wadd b2, e0, e4, e5, wnat b3, wadd1 bw, ↓reduceIte]
        exact q4
      · have h2 : ¬ ((i : Int) < (b.length : Int)) := by omega
        rw [if_neg hb1] at hy
        have hy0 : y = 0 := by omega
        subst hy0
        have e0 : c + x = x + 0 + c := by omega
        have e4 : Int.tmod ((x + 0 + c : Nat) : Int) 1000000000 = (((x + 0 + c) % 1000000000 : Nat) : Int) := rfl
        have e5 : Int.tdiv ((x + 0 + c : Nat) : Int) 1000000000 = (((x + 0 + c) / 1000000000 : Nat) : Int) := rfl
        refine ⟨q, q1, q2, q3, ?_⟩
        simp only [spec_l02Add.l0, spec_l02Add.j1, h0, h1, h2, hpl, ← hx, wadd b1, e0, e4, e5, wnat b3, wadd1 bw, ↓reduceIte]
        exact q4
    · have h1 : ¬ ((i : Int) < (a.length : Int)) := by omega
      rw [if_neg ha1] at hx
      have hx0 : x = 0 := by omega
      subst hx0
      by_cases hb1 : i < b.length
      · have h2 : (i : Int) < (b.length : Int) := by omega
        rw [if_pos hb1] at hy
        have e0 : c + y = 0 + y + c := by omega
        have e4 : Int.tmod ((0 + y + c : Nat) : Int) 1000000000 = (((0 + y + c) % 1000000000 : Nat) : Int) := rfl
        have e5 : Int.tdiv ((0 + y + c : Nat) : Int) 1000000000 = (((0 + y + c) / 1000000000 : Nat) : Int) := rfl
        refine ⟨q, q1, q2, q3, ?_⟩
        simp only [spec_l02Add.l0, spec_l02Add.j1, h0, h1, h2, hpl, ← hy, wadd b4, e0, e4, e5, wnat b3, wadd1 bw, ↓reduceIte]
        exact q4
      · have h2 : ¬ ((i : Int) < (b.length : Int)) := by omega
        rw [if_neg hb1] at hy
        have hy0 : y = 0 := by omega
        subst hy0
        rw [List.take_of_length_le (show a.length ≤ i by omega), List.take_of_length_le (show b.length ≤ i by omega)] at hv
        by_cases hc0 : c = 0
        · subst hc0
          refine ⟨p, hD, by omega, by omega, ?_⟩
          have h3 : decide (((0 : Nat) : Int) > 0) = false := by decide
          simp only [spec_l02Add.l0, spec_l02Add.j1, h1, h2, h3, ↓reduceIte, Bool.false_eq_true]
        · have hc1 : c = 1 := by omega
          subst hc1
          have h3 : decide (((1 : Nat) : Int) > 0) = true := by decide
          have e4 : Int.tmod ((1 : Nat) : Int) 1000000000 = (((0 + 0 + 1) % 1000000000 : Nat) : Int) := rfl
          have e5 : Int.tdiv ((1 : Nat) : Int) 1000000000 = (((0 + 0 + 1) / 1000000000 : Nat) : Int) := rfl
          refine ⟨q, q1, q2, q3, ?_⟩
          simp only [spec_l02Add.l0, spec_l02Add.j1, h1, h2, h3, hpl, e4, e5, wnat b3, wadd1 bw, ↓reduceIte]
          exact q4
theorem spec_l02Add_ok (a b : List Int) (ha : Dig a) (hb : Dig b) (hal : a.length ≤ 1000) (hbl : b.length ≤ 1000) (k : Nat) (hk : 2200 < k) : ∃ q, Dig q ∧ q.length ≤ 1001 ∧ val q = val a + val b ∧ spec_l02Add.f k a b = some q := by
  have := spec_l02Add_l0 a b ha hb hal hbl 1001 0 [] 0 k (by omega) rfl (by omega) (by omega) Dig_nil (by omega) (by simp [val])
  exact this

/-- One limb of a difference: x minus y minus a borrow. -/
theorem sub_step (a b : List Int) (ha : Dig a) (hb : Dig b) (i : Nat) (hi : i < a.length) (p : List Int) (hp : p.length = i) (hD : Dig p) (c : Nat) (hc : c ≤ 1) (hv : val p + val (b.take i) = val (a.take i) + c * 1000000000 ^ i) (y : Int) (hy : y = if i < b.length then rd b (i : Int) else 0) :
    ∃ (e : Nat), e ≤ 1 ∧ (e = if rd a (i : Int) - c - y < 0 then 1 else 0) ∧ 0 ≤ rd a (i : Int) - c - y + e * 1000000000 ∧ rd a (i : Int) - c - y + e * 1000000000 ≤ 999999999 ∧
      val (p ++ [rd a (i : Int) - c - y + e * 1000000000]) + val (b.take (i + 1)) = val (a.take (i + 1)) + e * 1000000000 ^ (i + 1) := by
  have ra := Dig_rd ha i
  have rb := Dig_rd hb i
  have va := val_take a i hi
  have vb : val (b.take (i + 1)) = val (b.take i) + 1000000000 ^ i * y.toNat := by
    by_cases h : i < b.length
    · rw [if_pos h] at hy; subst hy; exact val_take b i h
    · rw [if_neg h] at hy; subst hy
      rw [List.take_of_length_le (by omega), List.take_of_length_le (by omega)]; simp
  have hy0 : 0 ≤ y ∧ y ≤ 999999999 := by
    by_cases h : i < b.length
    · rw [if_pos h] at hy; omega
    · rw [if_neg h] at hy; omega
  generalize rd a (i : Int) = x at *
  refine ⟨if x - c - y < 0 then 1 else 0, by split <;> omega, rfl, by split <;> omega, by split <;> omega, ?_⟩
  rw [val_snoc, hp, va, vb, Nat.pow_succ]
  obtain ⟨X, rfl⟩ : ∃ n : Nat, x = n := ⟨x.toNat, by omega⟩
  obtain ⟨Y, rfl⟩ : ∃ n : Nat, y = n := ⟨y.toNat, by omega⟩
  simp only [Int.toNat_natCast]
  by_cases h : (X : Int) - c - Y < 0
  · rw [if_pos h]
    obtain ⟨Z, hZ⟩ : ∃ Z : Nat, (X : Int) - c - Y + ((1 : Nat) : Int) * 1000000000 = Z := ⟨((X : Int) - c - Y + ((1 : Nat) : Int) * 1000000000).toNat, by omega⟩
    rw [hZ]
    have hz : Z + c + Y = X + 1000000000 := by omega
    simp only [Int.toNat_natCast]
    generalize 1000000000 ^ i = P at *
    grind
  · rw [if_neg h]
    obtain ⟨Z, hZ⟩ : ∃ Z : Nat, (X : Int) - c - Y + ((0 : Nat) : Int) * 1000000000 = Z := ⟨((X : Int) - c - Y + ((0 : Nat) : Int) * 1000000000).toNat, by omega⟩
    rw [hZ]
    have hz : Z + c + Y = X := by omega
    simp only [Int.toNat_natCast]
    generalize 1000000000 ^ i = P at *
    grind
/-- A difference's limbs, at the end: nothing is borrowed. -/
theorem sub_end (a b : List Int) (ha : Dig a) (q : List Int) (hq : q.length = a.length) (hD : Dig q) (hbl : b.length ≤ a.length) (c : Nat) (hc : c ≤ 1) (hv : val q + val (b.take a.length) = val (a.take a.length) + c * 1000000000 ^ a.length) (hle : val b ≤ val a) : trim q = dg (val a - val b) := by
  rw [List.take_of_length_le hbl, List.take_length] at hv
  have l1 := val_lt hD
  rw [hq] at l1
  rw [trim_dg_val hD]
  congr 1
  have : c = 0 := by
    rcases Nat.lt_or_ge 0 c with h | h
    · have : c = 1 := by omega
      subst this
      omega
    · omega
  subst this
  omega

/-- the reference's, from limb i on: p has the limbs so far, c what is borrowed. -/
theorem spec_l02Sub_l0 (a b : List Int) (ha : Dig a) (hb : Dig b) (hal : a.length ≤ 1000) (hbl : b.length ≤ a.length) (hle : val b ≤ val a) : ∀ (d i : Nat) (p : List Int) (c k : Nat), i + d = a.length → p.length = i → d + 1100 < k → c ≤ 1 → Dig p → val p + val (b.take i) = val (a.take i) + c * 1000000000 ^ i →
    spec_l02Sub.l0 k a b p (c : Int) (a.length : Int) (i : Int) = some (dg (val a - val b)) := by
  intro d
  induction d with
  | zero =>
    intro i p c k hi hp hk hc hD hv
    obtain ⟨k, rfl, _⟩ := fuel hk
    have ei : i = a.length := by omega
    subst ei
    have h1 : ¬ ((a.length : Int) < (a.length : Int)) := by omega
    simp only [spec_l02Sub.l0, h1, ↓reduceIte, spec_l02Trim_ok p (by omega) k (by omega), Option.bind_some]
    rw [sub_end a b ha p hp hD hbl c hc hv hle]
  | succ d ih =>
    intro i p c k hi hp hk hc hD hv
    obtain ⟨k, rfl, hk'⟩ := fuel hk
    have h1 : (i : Int) < (a.length : Int) := by omega
    have h2 : (0 : Int) ≤ (i : Int) := by omega
    have h3 : p.length < 17592186044416 := by omega
    have ra := Dig_rd ha i
    have rb := Dig_rd hb i
    have bw : i + 1 ≤ 9223372036854775807 := by omega
    obtain ⟨e, he, hee, g0, g1, g2⟩ := sub_step a b ha hb i (by omega) p hp hD c hc hv (if i < b.length then rd b (i : Int) else 0) rfl
    have hgo : ∀ z : Int, z = rd a (i : Int) - c - (if i < b.length then rd b (i : Int) else 0) + e * 1000000000 → spec_l02Sub.l0 k a b (p ++ [z]) (e : Int) (a.length : Int) ((i + 1 : Nat) : Int) = some (dg (val a - val b)) := by
      intro z hz
      rw [hz]
      exact ih (i + 1) _ e k (by omega) (by simp [hp]) (by omega) he (Dig_append.mpr ⟨hD, Dig_cons.mpr ⟨⟨g0, g1⟩, Dig_nil⟩⟩) g2
    have w1 : wrap64 (rd a (i : Int) - (c : Int)) = rd a (i : Int) - (c : Int) := w64 (by omega) (by omega)
    by_cases hb1 : i < b.length
    · have h4 : (i : Int) < (b.length : Int) := by omega
      rw [if_pos hb1] at hee hgo g0 g1
      have r1 : -9223372036854775808 ≤ rd a (i : Int) - (c : Int) - rd b (i : Int) := by clear w1; omega
      have r2 : rd a (i : Int) - (c : Int) - rd b (i : Int) ≤ 9223372036854775807 := by clear w1; omega
      by_cases hn : rd a (i : Int) - (c : Int) - rd b (i : Int) < 0
      · rw [if_pos hn] at hee
        subst hee
        have w3 : wrap64 (rd a (i : Int) - (c : Int) - rd b (i : Int) + 1000000000) = rd a (i : Int) - (c : Int) - rd b (i : Int) + 1000000000 := by clear w1; exact w64 (by omega) (by omega)
        have := hgo (rd a (i : Int) - (c : Int) - rd b (i : Int) + 1000000000) (by clear w1 w3; omega)
        simp only [spec_l02Sub.l0, h1, h2, h3, h4, hn, w1, w64 r1 r2, w3, ↓reduceIte, wadd1 bw]
        exact this
      · rw [if_neg hn] at hee
        subst hee
        have := hgo (rd a (i : Int) - (c : Int) - rd b (i : Int)) (by clear w1; omega)
        simp only [spec_l02Sub.l0, h1, h2, h3, h4, hn, w1, w64 r1 r2, ↓reduceIte, wadd1 bw]
        exact this
    · have h4 : ¬ ((i : Int) < (b.length : Int)) := by omega
      rw [if_neg hb1] at hee hgo g0 g1
      rw [Int.sub_zero] at hee
      by_cases hn : rd a (i : Int) - (c : Int) < 0
      · rw [if_pos hn] at hee
        subst hee
        have w3 : wrap64 (rd a (i : Int) - (c : Int) + 1000000000) = rd a (i : Int) - (c : Int) + 1000000000 := by clear w1; exact w64 (by omega) (by omega)
        have := hgo (rd a (i : Int) - (c : Int) + 1000000000) (by clear w1 w3; omega)
        simp only [spec_l02Sub.l0, h1, h2, h3, h4, hn, w1, w3, ↓reduceIte, wadd1 bw]
        exact this
      · rw [if_neg hn] at hee
        subst hee
        have := hgo (rd a (i : Int) - (c : Int)) (by clear w1; omega)
        simp only [spec_l02Sub.l0, h1, h2, h3, h4, hn, w1, ↓reduceIte, wadd1 bw]
        exact this
theorem spec_l02Sub_ok (a b : List Int) (ha : Dig a) (hb : Dig b) (hal : a.length ≤ 1000) (hbl : b.length ≤ a.length) (hle : val b ≤ val a) (k : Nat) (hk : 2200 < k) : spec_l02Sub.f k a b = some (dg (val a - val b)) := by
  have := spec_l02Sub_l0 a b ha hb hal hbl hle a.length 0 [] 0 k (by omega) rfl (by omega) (by omega) Dig_nil (by simp [val])
  exact this

theorem spec_l02Cmp_l0 (a b : List Int) (hl : a.length = b.length) (hb : a.length ≤ 1152921504606846976) : ∀ (i k : Nat), i ≤ a.length → i < k → spec_l02Cmp.l0 k a b ((i : Int) - 1) = some (cmpI a b i) := by
  intro i
  induction i with
  | zero =>
    intro k _ hk
    obtain ⟨k, rfl, _⟩ := fuel hk
    have h1 : ¬ (((0 : Nat) : Int) - 1 ≥ 0) := by omega
    simp only [spec_l02Cmp.l0, h1, ↓reduceIte, cmpI]
  | succ i ih =>
    intro k hi hk
    obtain ⟨k, rfl, hk'⟩ := fuel hk
    have e : ((i + 1 : Nat) : Int) - 1 = (i : Int) := by omega
    have h1 : (i : Int) ≥ 0 := by omega
    have h2 : (0 : Int) ≤ (i : Int) := by omega
    have h3 : (i : Int) < (a.length : Int) := by omega
    have h4 : (i : Int) < (b.length : Int) := by omega
    have w : wrap64 ((i : Int) - 1) = (i : Int) - 1 := w64 (by omega) (by omega)
    rw [e]
    simp only [spec_l02Cmp.l0, h1, h2, h3, h4, w, ↓reduceIte, cmpI, ih k (by omega) (by omega)]
    by_cases c1 : rd a (i : Int) < rd b (i : Int)
    · simp only [c1, ↓reduceIte]
    · by_cases c2 : rd a (i : Int) > rd b (i : Int)
      · simp only [c1, c2, ↓reduceIte]
      · simp only [c1, c2, ↓reduceIte]
theorem spec_l02Cmp_ok (a b : List Int) (hb : a.length ≤ 1152921504606846976) (k : Nat) (hk : a.length < k) : spec_l02Cmp.f k a b = some (cmpL a b) := by
  unfold spec_l02Cmp.f cmpL
  by_cases c1 : a.length = b.length
  · have c1' : (a.length : Int) = (b.length : Int) := by omega
    simp only [c1, c1', ↓reduceIte]
    rw [w64 (by omega) (by omega), ← c1', spec_l02Cmp_l0 a b c1 hb a.length k (Nat.le_refl _) hk, c1]
  · have c1' : ¬ (a.length : Int) = (b.length : Int) := by omega
    simp only [c1, c1', ↓reduceIte]
    by_cases c2 : a.length < b.length
    · have c2' : (a.length : Int) < (b.length : Int) := by omega
      simp only [c2, c2', ↓reduceIte]
    · have c2' : ¬ (a.length : Int) < (b.length : Int) := by omega
      simp only [c2, c2', ↓reduceIte]

theorem spec_l03Add_ok (a : Bool) (x : List Int) (b : Bool) (y : List Int) (dx : Dig x) (dy : Dig y) (gx : dg (val x) = x) (gy : dg (val y) = y) (lx : x.length ≤ 200) (ly : y.length ≤ 200) (k : Nat) (hk : 5000 < k) :
    spec_l03Add.f k a x b y = some (rb1 (aS a (val x) b (val y)) (aN a (val x) b (val y)), rb2 (aN a (val x) b (val y))) := by
  have hl : (dg (aN a (val x) b (val y))).length ≤ 201 := aN_len (val_lt' dx lx) (val_lt' dy ly)
  unfold spec_l03Add.f rb1 rb2
  by_cases h : (a == b) = true
  · have e1 : aS a (val x) b (val y) = a := if_pos h
    have e2 : aN a (val x) b (val y) = val x + val y := if_pos h
    rw [e1, e2, if_pos h]
    obtain ⟨q, q1, q2, q3, q4⟩ := spec_l02Add_ok x y dx dy (by omega) (by omega) k (by omega)
    rw [q4]
    simp only [Option.bind_some]
    rw [spec_l03Make_ok _ _ (by omega) k (by omega)]
    simp only [Option.bind_some]
    have e3 : capped q = capped (dg (val x + val y)) := by
      unfold capped
      rw [trim_dg_val q1, q3, trim_dg]
    rw [e3]
  · rw [if_neg h, spec_l02Cmp_ok x y (by omega) k (by omega)]
    simp only [Option.bind_some]
    by_cases h2 : val y ≤ val x
    · have e1 : aS a (val x) b (val y) = a := by unfold aS; rw [if_neg h, if_pos h2]
      have e2 : aN a (val x) b (val y) = val x - val y := by unfold aN; rw [if_neg h, if_pos h2]
      rw [e1, e2, if_pos ((cmp_ge gx gy).mpr h2), spec_l02Sub_ok x y dx dy (by omega) (len_le gx gy h2) h2 k (by omega)]
      simp only [Option.bind_some]
      rw [e2] at hl
      rw [spec_l03Make_ok _ _ (by omega) k (by omega)]
      rfl
    · have e1 : aS a (val x) b (val y) = b := by unfold aS; rw [if_neg h, if_neg h2]
      have e2 : aN a (val x) b (val y) = val y - val x := by unfold aN; rw [if_neg h, if_neg h2]
      have h3 : val x ≤ val y := by omega
      rw [e1, e2, if_neg (fun h4 => h2 ((cmp_ge gx gy).mp h4)), spec_l02Sub_ok y x dy dx (by omega) (len_le gy gx h3) h3 k (by omega)]
      simp only [Option.bind_some]
      rw [e2] at hl
      rw [spec_l03Make_ok _ _ (by omega) k (by omega)]
      rfl

theorem impl_signed_ok (s : Bool) (l : List Int) : impl_signed.f s l = some (s && decide (0 < l.length), l) := by
  unfold impl_signed.f
  cases s <;> simp
theorem impl_fewer_ok (s : Bool) (n : Nat) (hl : (dg n).length ≤ 1000000) : impl_BigInt_fewer.f (s && decide (0 < (dg n).length)) (dg n) = some (rb1 s n, rb2 n) := by
  unfold impl_BigInt_fewer.f rb1 rb2
  rw [← few_dg n]
  by_cases h : (dg n).length > 60
  · rw [if_pos (by omega), if_pos h]
    simp
  · rw [if_neg (by omega), if_neg h]
    unfold slices_Clone_int_int.f
    rw [if_pos (by omega)]
    rfl

theorem impl_compare_l0 (a b : List Int) (hl : a.length = b.length) (hb : a.length ≤ 1152921504606846976) : ∀ (i k : Nat), i ≤ a.length → i < k → impl_compare.l0 k a b ((i : Int) - 1) = some (cmpI a b i) := by
  intro i
  induction i with
  | zero =>
    intro k _ hk
    obtain ⟨k, rfl, _⟩ := fuel hk
    have h1 : ¬ (((0 : Nat) : Int) - 1 ≥ 0) := by omega
    simp only [impl_compare.l0, h1, ↓reduceIte, cmpI]
  | succ i ih =>
    intro k hi hk
    obtain ⟨k, rfl, hk'⟩ := fuel hk
    have e : ((i + 1 : Nat) : Int) - 1 = (i : Int) := by omega
    have h1 : (i : Int) ≥ 0 := by omega
    have h2 : (0 : Int) ≤ (i : Int) := by omega
    have h3 : (i : Int) < (a.length : Int) := by omega
    have h4 : (i : Int) < (b.length : Int) := by omega
    have w : wrap64 ((i : Int) - 1) = (i : Int) - 1 := w64 (by omega) (by omega)
    rw [e]
    simp only [impl_compare.l0, h1, h2, h3, h4, w, ↓reduceIte, cmpI, ih k (by omega) (by omega)]
    by_cases c1 : rd a (i : Int) < rd b (i : Int)
    · simp only [c1, ↓reduceIte]
    · by_cases c2 : rd a (i : Int) > rd b (i : Int)
      · simp only [c1, c2, ↓reduceIte]
      · simp only [c1, c2, ↓reduceIte]
theorem impl_compare_ok (a b : List Int) (hb : a.length ≤ 1152921504606846976) (k : Nat) (hk : a.length < k) : impl_compare.f k a b = some (cmpL a b) := by
  unfold impl_compare.f cmpL
  by_cases c1 : a.length = b.length
  · have c1' : (a.length : Int) = (b.length : Int) := by omega
    simp only [c1, c1', ↓reduceIte]
    rw [w64 (by omega) (by omega), ← c1', impl_compare_l0 a b c1 hb a.length k (Nat.le_refl _) hk, c1]
  · have c1' : ¬ (a.length : Int) = (b.length : Int) := by omega
    simp only [c1, c1', ↓reduceIte]
    by_cases c2 : a.length < b.length
    · have c2' : (a.length : Int) < (b.length : Int) := by omega
      simp only [c2, c2', ↓reduceIte]
    · have c2' : ¬ (a.length : Int) < (b.length : Int) := by omega
      simp only [c2, c2', ↓reduceIte]

theorem impl_trim_l0 (l : List Int) (hl : l.length ≤ 1152921504606846976) : ∀ (i k : Nat), i ≤ l.length → i < k → impl_trim.l0 k (l.take i) = some (trimTo l i) := by
  intro i
  induction i with
  | zero =>
    intro k _ hk
    obtain ⟨k, rfl, _⟩ := fuel hk
    simp [impl_trim.l0, trimTo]
  | succ i ih =>
    intro k hi hk
    obtain ⟨k, rfl, hk'⟩ := fuel hk
    have hlen : (l.take (i + 1)).length = i + 1 := by rw [List.length_take]; omega
    have e : (((i + 1 : Nat)) : Int) - 1 = (i : Int) := by omega
    have w : wrap64 (((i + 1 : Nat) : Int) - 1) = (i : Int) := by rw [e]; exact w64 (by omega) (by omega)
    have h1 : (((i + 1 : Nat)) : Int) > 0 := by omega
    have h2 : (0 : Int) ≤ (i : Int) := by omega
    have h3 : (i : Int) < (((i + 1 : Nat)) : Int) := by omega
    have h4 : (i : Int) ≤ (((i + 1 : Nat)) : Int) := by omega
    have r : rd (l.take (i + 1)) (i : Int) = rd l (i : Int) := rd_take l (by omega)
    simp only [impl_trim.l0, hlen, w, h1, h2, h3, h4, r, ↓reduceIte, Int.toNat_natCast, List.take_take, Nat.min_eq_left (Nat.le_succ i), trimTo]
    by_cases c : rd l (i : Int) = 0
    · simp only [c, ↓reduceIte]
      exact ih k (by omega) (by omega)
    · simp only [c, ↓reduceIte]
theorem impl_trim_ok (l : List Int) (hl : l.length ≤ 1152921504606846976) (k : Nat) (hk : l.length < k) : impl_trim.f k l = some (trim l) := by
  have := impl_trim_l0 l hl l.length k (Nat.le_refl _) hk
  rw [List.take_length] at this
  exact this

theorem impl_plusA_l0 (a b : List Int) (ha : Dig a) (hb : Dig b) (hal : a.length ≤ 1000) (hbl : b.length ≤ a.length) : ∀ (d i : Nat) (p : List Int) (c k : Nat), i + d = a.length → p.length = i → d + 1100 < k → c ≤ 1 → Dig p → val p + c * 1000000000 ^ i = val (a.take i) + val (b.take i) →
    impl_plusA.l0 k a b (p ++ List.replicate (d + 1) 0) (c : Int) a (a.length : Int) (i : Int) = some (dg (val a + val b)) := by
  intro d
  induction d with
  | zero =>
    intro i p c k hi hp hk hc hD hv
    obtain ⟨k, rfl, _⟩ := fuel hk
    have ei : i = a.length := by omega
    subst ei
    have h1 : ¬ ((a.length : Int) < (a.length : Int)) := by omega
    have h2 : (0 : Int) ≤ (a.length : Int) := by omega
    have h3 : (a.length : Int) < (((p ++ List.replicate (0 + 1) 0).length : Nat) : Int) := by rw [List.length_append, List.length_replicate, hp]; omega
    have hset : (p ++ List.replicate (0 + 1) 0).set a.length (c : Int) = p ++ [(c : Int)] := by
      have := set_mid p [] 0 (c : Int)
      rw [hp] at this
      simpa using this
    have hDc : Dig (p ++ [(c : Int)]) := Dig_append.mpr ⟨hD, Dig_cons.mpr ⟨by omega, Dig_nil⟩⟩
    have hl : (p ++ [(c : Int)]).length = a.length + 1 := by simp [hp]
    simp only [impl_plusA.l0, h1, h2, h3, ↓reduceIte, Int.toNat_natCast, hset, impl_trim_ok (p ++ [(c : Int)]) (by omega) k (by omega), Option.bind_some]
    rw [trim_dg_val hDc, val_snoc, hp]
    rw [List.take_length, List.take_of_length_le hbl] at hv
    congr 2
    rw [← hv]
    simp [Nat.mul_comm]
  | succ d ih =>
    intro i p c k hi hp hk hc hD hv
    obtain ⟨k, rfl, hk'⟩ := fuel hk
    have h1 : (i : Int) < (a.length : Int) := by omega
    have h2 : (0 : Int) ≤ (i : Int) := by omega
    have h3 : (i : Int) < (((p ++ List.replicate (d + 1 + 1) 0).length : Nat) : Int) := by rw [List.length_append, List.length_replicate]; omega
    have ra := Dig_rd ha i
    have rb := Dig_rd hb i
    have bw : i + 1 ≤ 9223372036854775807 := by omega
    obtain ⟨x, hx⟩ : ∃ x : Nat, rd a (i : Int) = x := ⟨(rd a (i : Int)).toNat, by omega⟩
    obtain ⟨y, hy⟩ : ∃ y : Nat, (y : Int) = if i < b.length then rd b (i : Int) else 0 := ⟨(if i < b.length then rd b (i : Int) else 0).toNat, by split <;> omega⟩
    obtain ⟨hx9, hy9, g0, g1, g2⟩ := add_step a b ha hb i p hp hD c hc hv x y (by rw [if_pos (by omega), hx]) hy
    have hset : ∀ z : Int, (p ++ List.replicate (d + 1 + 1) 0).set i z = (p ++ [z]) ++ List.replicate (d + 1) 0 := by
      intro z
      have := set_mid p (List.replicate (d + 1) 0) 0 z
      rw [hp] at this
      rw [List.replicate_succ, this]
    have hgo := ih (i + 1) (p ++ [(((x + y + c) % 1000000000 : Nat) : Int)]) ((x + y + c) / 1000000000) k (by omega) (by simp [hp]) (by omega) g0 g1 g2
    have b1 : x + c ≤ 9223372036854775807 := by omega
    have b2 : x + c + y ≤ 9223372036854775807 := by omega
    have b3 : (x + y + c) / 1000000000 ≤ 9223372036854775807 := by omega
    have e0 : x + c + y = x + y + c := by omega
    by_cases hb1 : i < b.length
    · have h4 : (i : Int) < (b.length : Int) := by omega
      rw [if_pos hb1] at hy
      have e4 : Int.tmod ((x + y + c : Nat) : Int) 1000000000 = (((x + y + c) % 1000000000 : Nat) : Int) := rfl
      have e5 : Int.tdiv ((x + y + c : Nat) : Int) 1000000000 = (((x + y + c) / 1000000000 : Nat) : Int) := rfl
      simp only [impl_plusA.l0, h1, h2, h3, h4, hx, ← hy, wadd b1, wadd b2, e0, e4, e5, wnat b3, wadd1 bw, ↓reduceIte, Int.toNat_natCast, hset]
      exact hgo
    · have h4 : ¬ ((i : Int) < (b.length : Int)) := by omega
      rw [if_neg hb1] at hy
      have hy0 : y = 0 := by omega
      subst hy0
      have e4 : Int.tmod ((x + c : Nat) : Int) 1000000000 = (((x + 0 + c) % 1000000000 : Nat) : Int) := rfl
      have e5 : Int.tdiv ((x + c : Nat) : Int) 1000000000 = (((x + 0 + c) / 1000000000 : Nat) : Int) := rfl
      simp only [impl_plusA.l0, h1, h2, h3, h4, hx, wadd b1, e4, e5, wnat b3, wadd1 bw, ↓reduceIte, Int.toNat_natCast, hset]
      exact hgo
theorem impl_plusB_l0 (a b : List Int) (ha : Dig a) (hb : Dig b) (hal : a.length ≤ 1000) (hbl : b.length ≤ a.length) : ∀ (d i : Nat) (p : List Int) (c k : Nat), i + d = a.length → p.length = i → d + 1100 < k → c ≤ 1 → Dig p → val p + c * 1000000000 ^ i = val (a.take i) + val (b.take i) →
    impl_plusB.l0 k a b (p ++ List.replicate (d + 1) 0) (c : Int) a (a.length : Int) (i : Int) = some (dg (val a + val b)) := by
  intro d
  induction d with
  | zero =>
    intro i p c k hi hp hk hc hD hv
    obtain ⟨k, rfl, _⟩ := fuel hk
    have ei : i = a.length := by omega
    subst ei
    have h1 : ¬ ((a.length : Int) < (a.length : Int)) := by omega
    have h2 : (0 : Int) ≤ (a.length : Int) := by omega
    have h3 : (a.length : Int) < (((p ++ List.replicate (0 + 1) 0).length : Nat) : Int) := by rw [List.length_append, List.length_replicate, hp]; omega
    have hset : (p ++ List.replicate (0 + 1) 0).set a.length (c : Int) = p ++ [(c : Int)] := by
      have := set_mid p [] 0 (c : Int)
      rw [hp] at this
      simpa using this
    have hDc : Dig (p ++ [(c : Int)]) := Dig_append.mpr ⟨hD, Dig_cons.mpr ⟨by omega, Dig_nil⟩⟩
    have hl : (p ++ [(c : Int)]).length = a.length + 1 := by simp [hp]
    simp only [impl_plusB.l0, h1, h2, h3, ↓reduceIte, Int.toNat_natCast, hset, impl_trim_ok (p ++ [(c : Int)]) (by omega) k (by omega), Option.bind_some]
    rw [trim_dg_val hDc, val_snoc, hp]
    rw [List.take_length, List.take_of_length_le hbl] at hv
    congr 2
    rw [← hv]
    simp [Nat.mul_comm]
  | succ d ih =>
    intro i p c k hi hp hk hc hD hv
    obtain ⟨k, rfl, hk'⟩ := fuel hk
    have h1 : (i : Int) < (a.length : Int) := by omega
    have h2 : (0 : Int) ≤ (i : Int) := by omega
    have h3 : (i : Int) < (((p ++ List.replicate (d + 1 + 1) 0).length : Nat) : Int) := by rw [List.length_append, List.length_replicate]; omega
    have ra := Dig_rd ha i
    have rb := Dig_rd hb i
    have bw : i + 1 ≤ 9223372036854775807 := by omega
    obtain ⟨x, hx⟩ : ∃ x : Nat, rd a (i : Int) = x := ⟨(rd a (i : Int)).toNat, by omega⟩
    obtain ⟨y, hy⟩ : ∃ y : Nat, (y : Int) = if i < b.length then rd b (i : Int) else 0 := ⟨(if i < b.length then rd b (i : Int) else 0).toNat, by split <;> omega⟩
    obtain ⟨hx9, hy9, g0, g1, g2⟩ := add_step a b ha hb i p hp hD c hc hv x y (by rw [if_pos (by omega), hx]) hy
    have hset : ∀ z : Int, (p ++ List.replicate (d + 1 + 1) 0).set i z = (p ++ [z]) ++ List.replicate (d + 1) 0 := by
      intro z
      have := set_mid p (List.replicate (d + 1) 0) 0 z
      rw [hp] at this
      rw [List.replicate_succ, this]
    have hgo := ih (i + 1) (p ++ [(((x + y + c) % 1000000000 : Nat) : Int)]) ((x + y + c) / 1000000000) k (by omega) (by simp [hp]) (by omega) g0 g1 g2
    have b1 : x + c ≤ 9223372036854775807 := by omega
    have b2 : x + c + y ≤ 9223372036854775807 := by omega
    have b3 : (x + y + c) / 1000000000 ≤ 9223372036854775807 := by omega
    have e0 : x + c + y = x + y + c := by omega
    by_cases hb1 : i < b.length
    · have h4 : (i : Int) < (b.length : Int) := by omega
      rw [if_pos hb1] at hy
      have e4 : Int.tmod ((x + y + c : Nat) : Int) 1000000000 = (((x + y + c) % 1000000000 : Nat) : Int) := rfl
      have e5 : Int.tdiv ((x + y + c : Nat) : Int) 1000000000 = (((x + y + c) / 1000000000 : Nat) : Int) := rfl
      simp only [impl_plusB.l0, h1, h2, h3, h4, hx, ← hy, wadd b1, wadd b2, e0, e4, e5, wnat b3, wadd1 bw, ↓reduceIte, Int.toNat_natCast, hset]
      exact hgo
    · have h4 : ¬ ((i : Int) < (b.length : Int)) := by omega
      rw [if_neg hb1] at hy
      have hy0 : y = 0 := by omega
      subst hy0
      have e4 : Int.tmod ((x + c : Nat) : Int) 1000000000 = (((x + 0 + c) % 1000000000 : Nat) : Int) := rfl
      have e5 : Int.tdiv ((x + c : Nat) : Int) 1000000000 = (((x + 0 + c) / 1000000000 : Nat) : Int) := rfl
      simp only [impl_plusB.l0, h1, h2, h3, h4, hx, wadd b1, e4, e5, wnat b3, wadd1 bw, ↓reduceIte, Int.toNat_natCast, hset]
      exact hgo

theorem impl_plus_ok (a b : List Int) (ha : Dig a) (hb : Dig b) (hal : a.length ≤ 1000) (hbl : b.length ≤ 1000) (k : Nat) (hk : 2200 < k) : impl_plus.f k a b = some (dg (val a + val b)) := by
  unfold impl_plus.f
  by_cases h : (a.length : Int) < (b.length : Int)
  · have h1 : (0 : Int) ≤ ((b.length + 1 : Nat) : Int) := by omega
    have h2 : b.length + 1 ≤ 35184372088832 := by omega
    have b1 : b.length + 1 ≤ 9223372036854775807 := by omega
    have := impl_plusB_l0 b a hb ha hbl (by omega) b.length 0 [] 0 k (by omega) rfl (by omega) (by omega) Dig_nil (by simp [val])
    have this' : impl_plusB.l0 k b a (List.replicate (b.length + 1) 0) 0 b (b.length : Int) 0 = some (dg (val b + val a)) := this
    simp only [h, impl_plusB.f, wadd1 b1, h1, h2, ↓reduceIte, Int.toNat_natCast, this']
    rw [Nat.add_comm]
  · have h1 : (0 : Int) ≤ ((a.length + 1 : Nat) : Int) := by omega
    have h2 : a.length + 1 ≤ 35184372088832 := by omega
    have b1 : a.length + 1 ≤ 9223372036854775807 := by omega
    have := impl_plusA_l0 a b ha hb hal (by omega) a.length 0 [] 0 k (by omega) rfl (by omega) (by omega) Dig_nil (by simp [val])
    have this' : impl_plusA.l0 k a b (List.replicate (a.length + 1) 0) 0 a (a.length : Int) 0 = some (dg (val a + val b)) := this
    simp only [h, impl_plusA.f, wadd1 b1, h1, h2, ↓reduceIte, Int.toNat_natCast, this']

/-- minus, from limb i on: p has the limbs so far, c what is borrowed. -/
theorem impl_minus_l0 (a b : List Int) (ha : Dig a) (hb : Dig b) (hal : a.length ≤ 1000) (hbl : b.length ≤ a.length) (hle : val b ≤ val a) : ∀ (d i : Nat) (p : List Int) (c k : Nat), i + d = a.length → p.length = i → d + 1100 < k → c ≤ 1 → Dig p → val p + val (b.take i) = val (a.take i) + c * 1000000000 ^ i →
    impl_minus.l0 k b (p ++ List.replicate d 0) (c : Int) a (a.length : Int) (i : Int) = some (dg (val a - val b)) := by
  intro d
  induction d with
  | zero =>
    intro i p c k hi hp hk hc hD hv
    obtain ⟨k, rfl, _⟩ := fuel hk
    have ei : i = a.length := by omega
    subst ei
    have h1 : ¬ ((a.length : Int) < (a.length : Int)) := by omega
    simp only [impl_minus.l0, h1, ↓reduceIte, List.replicate_zero, List.append_nil, impl_trim_ok p (by omega) k (by omega), Option.bind_some]
    rw [sub_end a b ha p hp hD hbl c hc hv hle]
  | succ d ih =>
    intro i p c k hi hp hk hc hD hv
    obtain ⟨k, rfl, hk'⟩ := fuel hk
    have h1 : (i : Int) < (a.length : Int) := by omega
    have h2 : (0 : Int) ≤ (i : Int) := by omega
    have h3 : (i : Int) < (((p ++ List.replicate (d + 1) 0).length : Nat) : Int) := by rw [List.length_append, List.length_replicate]; omega
    have ra := Dig_rd ha i
    have rb := Dig_rd hb i
    have bw : i + 1 ≤ 9223372036854775807 := by omega
    obtain ⟨e, he, hee, g0, g1, g2⟩ := sub_step a b ha hb i (by omega) p hp hD c hc hv (if i < b.length then rd b (i : Int) else 0) rfl
    have hset : ∀ z : Int, (p ++ List.replicate (d + 1) 0).set i z = (p ++ [z]) ++ List.replicate d 0 := by
      intro z
      have := set_mid p (List.replicate d 0) 0 z
      rw [hp] at this
      rw [List.replicate_succ, this]
    have hgo : ∀ z : Int, z = rd a (i : Int) - c - (if i < b.length then rd b (i : Int) else 0) + e * 1000000000 → impl_minus.l0 k b ((p ++ [z]) ++ List.replicate d 0) (e : Int) a (a.length : Int) ((i + 1 : Nat) : Int) = some (dg (val a - val b)) := by
      intro z hz
      rw [hz]
      exact ih (i + 1) _ e k (by omega) (by simp [hp]) (by omega) he (Dig_append.mpr ⟨hD, Dig_cons.mpr ⟨⟨g0, g1⟩, Dig_nil⟩⟩) g2
    have w1 : wrap64 (rd a (i : Int) - (c : Int)) = rd a (i : Int) - (c : Int) := w64 (by omega) (by omega)
    by_cases hb1 : i < b.length
    · have h4 : (i : Int) < (b.length : Int) := by omega
      rw [if_pos hb1] at hee hgo g0 g1
      have r1 : -9223372036854775808 ≤ rd a (i : Int) - (c : Int) - rd b (i : Int) := by clear w1; omega
      have r2 : rd a (i : Int) - (c : Int) - rd b (i : Int) ≤ 9223372036854775807 := by clear w1; omega
      by_cases hn : rd a (i : Int) - (c : Int) - rd b (i : Int) < 0
      · rw [if_pos hn] at hee
        subst hee
        have w3 : wrap64 (rd a (i : Int) - (c : Int) - rd b (i : Int) + 1000000000) = rd a (i : Int) - (c : Int) - rd b (i : Int) + 1000000000 := by clear w1; exact w64 (by omega) (by omega)
        have := hgo (rd a (i : Int) - (c : Int) - rd b (i : Int) + 1000000000) (by clear w1 w3; omega)
        simp only [impl_minus.l0, h1, h2, h3, h4, hn, w1, w64 r1 r2, w3, ↓reduceIte, Int.toNat_natCast, hset, wadd1 bw]
        exact this
      · rw [if_neg hn] at hee
        subst hee
        have := hgo (rd a (i : Int) - (c : Int) - rd b (i : Int)) (by clear w1; omega)
        simp only [impl_minus.l0, h1, h2, h3, h4, hn, w1, w64 r1 r2, ↓reduceIte, Int.toNat_natCast, hset, wadd1 bw]
        exact this
    · have h4 : ¬ ((i : Int) < (b.length : Int)) := by omega
      rw [if_neg hb1] at hee hgo g0 g1
      rw [Int.sub_zero] at hee
      by_cases hn : rd a (i : Int) - (c : Int) < 0
      · rw [if_pos hn] at hee
        subst hee
        have w3 : wrap64 (rd a (i : Int) - (c : Int) + 1000000000) = rd a (i : Int) - (c : Int) + 1000000000 := by clear w1; exact w64 (by omega) (by omega)
        have := hgo (rd a (i : Int) - (c : Int) + 1000000000) (by clear w1 w3; omega)
        simp only [impl_minus.l0, h1, h2, h3, h4, hn, w1, w3, ↓reduceIte, Int.toNat_natCast, hset, wadd1 bw]
        exact this
      · rw [if_neg hn] at hee
        subst hee
        have := hgo (rd a (i : Int) - (c : Int)) (by clear w1; omega)
        simp only [impl_minus.l0, h1, h2, h3, h4, hn, w1, ↓reduceIte, Int.toNat_natCast, hset, wadd1 bw]
        exact this
theorem impl_minus_ok (a b : List Int) (ha : Dig a) (hb : Dig b) (hal : a.length ≤ 1000) (hbl : b.length ≤ a.length) (hle : val b ≤ val a) (k : Nat) (hk : 2200 < k) : impl_minus.f k a b = some (dg (val a - val b)) := by
  have h1 : (0 : Int) ≤ (a.length : Int) := by omega
  have h2 : a.length ≤ 35184372088832 := by omega
  unfold impl_minus.f
  simp only [h1, h2, ↓reduceIte, Int.toNat_natCast]
  have := impl_minus_l0 a b ha hb hal hbl hle a.length 0 [] 0 k (by omega) rfl (by omega) (by omega) Dig_nil (by simp [val])
  exact this

theorem impl_BigInt_plus_ok (a : Bool) (x : List Int) (b : Bool) (y : List Int) (dx : Dig x) (dy : Dig y) (gx : dg (val x) = x) (gy : dg (val y) = y) (lx : x.length ≤ 200) (ly : y.length ≤ 200) (k : Nat) (hk : 5000 < k) :
    impl_BigInt_plus.f k a x b y = some (aS a (val x) b (val y) && decide (0 < (dg (aN a (val x) b (val y))).length), dg (aN a (val x) b (val y))) := by
  unfold impl_BigInt_plus.f
  rw [impl_compare_ok x y (by omega) k (by omega)]
  simp only [Option.bind_some]
  by_cases h : (a == b) = true
  · have e1 : aS a (val x) b (val y) = a := if_pos h
    have e2 : aN a (val x) b (val y) = val x + val y := if_pos h
    rw [e1, e2, if_pos h, impl_plus_ok x y dx dy (by omega) (by omega) k (by omega)]
    simp only [Option.bind_some, impl_signed_ok]
  · rw [if_neg h]
    by_cases h2 : val y ≤ val x
    · have e1 : aS a (val x) b (val y) = a := by unfold aS; rw [if_neg h, if_pos h2]
      have e2 : aN a (val x) b (val y) = val x - val y := by unfold aN; rw [if_neg h, if_pos h2]
      rw [e1, e2, if_pos ((cmp_ge gx gy).mpr h2), impl_minus_ok x y dx dy (by omega) (len_le gx gy h2) h2 k (by omega)]
      simp only [Option.bind_some, impl_signed_ok]
    · have e1 : aS a (val x) b (val y) = b := by unfold aS; rw [if_neg h, if_neg h2]
      have e2 : aN a (val x) b (val y) = val y - val x := by unfold aN; rw [if_neg h, if_neg h2]
      have h3 : val x ≤ val y := by omega
      rw [e1, e2, if_neg (fun h4 => h2 ((cmp_ge gx gy).mp h4)), impl_minus_ok y x dy dx (by omega) (len_le gy gx h3) h3 k (by omega)]
      simp only [Option.bind_some, impl_signed_ok]

def szv (a : Int) (n : Nat) : Int := if a - n < 0 then -1 else a - n
theorem szv_nn {a : Int} {n : Nat} (h : ¬ szv a n < 0) : 0 ≤ szv a n := by omega
theorem szv_le {a : Int} {n : Nat} (h0 : 0 ≤ a) (h : a ≤ 1048576) : szv a n ≤ 1048576 := by unfold szv; split <;> omega
theorem szv_len {a : Int} {n : Nat} (h : a ≤ 1048576) (hz : ¬ szv a n < 0) : n ≤ 1048576 := by
  unfold szv at hz
  split at hz <;> omega
def kadd (a : Int) (n : Nat) : Int := a + n

def rm1 (a : Bool) (x : List Int) (b : Bool) (y : List Int) : Bool := (bok a x && bok b y) && rb1 (aS a (val x) b (val y)) (aN a (val x) b (val y))
def rm2 (a : Bool) (x : List Int) (b : Bool) (y : List Int) : List Int := if (bok a x && bok b y) = true then rb2 (aN a (val x) b (val y)) else []
theorem rm2_len (a : Bool) (x : List Int) (b : Bool) (y : List Int) : (rm2 a x b y).length ≤ 60 := by
  unfold rm2
  split
  · exact rb2_len _
  · simp
theorem spec_ok (a : Bool) (x : List Int) (b : Bool) (y : List Int) (hx : x.length ≤ 1048576) (hy : y.length ≤ 1048576) : spec_BigIntAdd.f 1100002 a x b y = some (rm1 a x b y, rm2 a x b y) := by
  unfold spec_BigIntAdd.f rm1 rm2
  rw [spec_BigIntOk_ok a x hx _ (by omega)]
  cases h1 : bok a x
  · simp
  · simp only [Option.bind_some, ↓reduceIte]
    rw [spec_BigIntOk_ok b y hy _ (by omega)]
    cases h2 : bok b y
    · simp
    · simp only [Option.bind_some, ↓reduceIte, Bool.and_self, Bool.true_and]
      have n1 := bok_nok h1
      have n2 := bok_nok h2
      have l1 := nok_len n1
      have l2 := nok_len n2
      rw [spec_l03Add_ok a x b y (nok_Dig n1) (nok_Dig n2) (nok_dg n1) (nok_dg n2) (by omega) (by omega) _ (by omega)]
      rfl
theorem impl_ok (a : Bool) (x : List Int) (b : Bool) (y : List Int) : impl_BigIntAdd.f 1100002 a x b y = some (rm1 a x b y, rm2 a x b y) := by
  unfold impl_BigIntAdd.f rm1 rm2
  rw [impl_BigIntOk_ok a x]
  cases h1 : bok a x
  · simp [impl_BigIntAdd.j0]
  · simp only [Option.bind_some, ↓reduceIte]
    rw [impl_BigIntOk_ok b y]
    cases h2 : bok b y
    · simp [impl_BigIntAdd.j0]
    · simp only [Option.bind_some, Bool.not_true, impl_BigIntAdd.j0, Bool.false_eq_true, ↓reduceIte, Bool.and_self, Bool.true_and]
      have n1 := bok_nok h1
      have n2 := bok_nok h2
      have l1 := nok_len n1
      have l2 := nok_len n2
      have hl : (dg (aN a (val x) b (val y))).length ≤ 201 := aN_len (val_lt' (nok_Dig n1) (by omega)) (val_lt' (nok_Dig n2) (by omega))
      rw [impl_BigInt_plus_ok a x b y (nok_Dig n1) (nok_Dig n2) (nok_dg n1) (nok_dg n2) (by omega) (by omega) _ (by omega)]
      simp only [Option.bind_some]
      rw [impl_fewer_ok _ _ (by omega)]
      rfl
theorem Cl.len0 {a0_0 : Bool} {l0_1 : List Int} {a1_0 : Bool} {l1_1 : List Int} (hl0_1 : l0_1.length ≤ 1048576) (hl1_1 : l1_1.length ≤ 1048576) : (rm2 a0_0 l0_1 a1_0 l1_1).length ≤ 1048576 := Nat.le_trans (rm2_len _ _ _ _) (by decide)
theorem Cl.spec (a0_0 : Bool) (Al0_1 : Option Addr) (cl0_1 : Nat) (l0_1 : List Int) (a1_0 : Bool) (Al1_1 : Option Addr) (cl1_1 : Nat) (l1_1 : List Int) (w : World) (hrl0_1 : Kd.C (Kd.int .i64) w Al0_1 l0_1.length l0_1) (hcl0_1 : l0_1.length ≤ cl0_1) (hrl1_1 : Kd.C (Kd.int .i64) w Al1_1 l1_1.length l1_1) (hcl1_1 : l1_1.length ≤ cl1_1) (hll0_1 : l0_1.length ≤ 1048576) (hll1_1 : l1_1.length ≤ 1048576) : Calls Try.prog 38 #[.agg #[.bool a0_0, .slice Al0_1 l0_1.length cl0_1], .agg #[.bool a1_0, .slice Al1_1 l1_1.length cl1_1]] w fun e w' => ∃ v, e = .returned (.agg #[.bool (rm1 a0_0 l0_1 a1_0 l1_1), v]) ∧ Kd.R (Kd.int .i64) 3 w' w.heap.size (fun _ => True) v (rm2 a0_0 l0_1 a1_0 l1_1) ∧ Below w.heap.size w w' :=
  spec_BigIntAdd.calls 1100002 a0_0 _ _ l0_1 a1_0 _ _ l1_1 _ _ w hrl0_1 hcl0_1 hrl1_1 hcl1_1 (spec_ok _ _ _ _ hll0_1 hll1_1)
theorem Cl.impl (a0_0 : Bool) (Al0_1 : Option Addr) (cl0_1 : Nat) (l0_1 : List Int) (a1_0 : Bool) (Al1_1 : Option Addr) (cl1_1 : Nat) (l1_1 : List Int) (w : World) (hrl0_1 : Kd.C (Kd.int .i64) w Al0_1 l0_1.length l0_1) (hcl0_1 : l0_1.length ≤ cl0_1) (hrl1_1 : Kd.C (Kd.int .i64) w Al1_1 l1_1.length l1_1) (hcl1_1 : l1_1.length ≤ cl1_1) (hll0_1 : l0_1.length ≤ 1048576) (hll1_1 : l1_1.length ≤ 1048576) : Calls Try.prog 39 #[.agg #[.bool a0_0, .slice Al0_1 l0_1.length cl0_1], .agg #[.bool a1_0, .slice Al1_1 l1_1.length cl1_1]] w fun e w' => ∃ v, e = .returned (.agg #[.bool (rm1 a0_0 l0_1 a1_0 l1_1), v]) ∧ Kd.R (Kd.int .i64) 3 w' w.heap.size (fun _ => True) v (rm2 a0_0 l0_1 a1_0 l1_1) ∧ Below w.heap.size w w' :=
  impl_BigIntAdd.calls 1100002 a0_0 _ _ l0_1 a1_0 _ _ l1_1 _ _ w hrl0_1 hcl0_1 hrl1_1 hcl1_1 (impl_ok _ _ _ _)

theorem Cl.eqBigInt (b : Bool) (A : Option Addr) (c : Nat) (B : Option Addr) (d : Nat) (l : List Int) (w : World) (hr : Kd.C (Kd.int .i64) w A l.length l) (hc : l.length ≤ c) (hr2 : Kd.C (Kd.int .i64) w B l.length l) (hc2 : l.length ≤ d) (hl : l.length ≤ 1048576) :
    Calls Try.prog 29 #[.agg #[.bool b, .slice A l.length c], .agg #[.bool b, .slice B l.length d]] w fun e w' => e = .returned (.bool true) ∧ Below w.heap.size w w' :=
  laws_eqBigInt.calls (l.length + 1) b A c l b B d l _ w hr hc hr2 hc2 (eqBigInt_same b l (by omega) _ (by omega))

theorem Cl.heldBigInt (b : Bool) (A : Option Addr) (c : Nat) (n : Nat) (a : Int) (w : World) (hr : Kd.C (Kd.int .i64) w A (mk a n).length (mk a n)) (hc : n ≤ c) (hl : n ≤ 1048576) (h0 : 0 ≤ a) (h1 : a ≤ 1152921504000000000) :
    Calls Try.prog 33 #[.agg #[.bool b, .slice A n c], .int .i64 a] w fun e w' => e = .returned (.int .i64 (kadd a n)) ∧ Below w.heap.size w w' := by
  have h := laws_heldBigInt.calls (n + 1) b A c (mk a n) a _ w hr (by rw [mk_length]; exact hc) (heldBigInt_ok b n a _ (by omega) h0 (by omega))
  rw [mk_length] at h
  exact h

theorem Cl.markBigInt (b : Bool) (P0 : Nat → Prop) (v : Value) (l : List Int) (a : Int) (w0 w : World) (hB : Below w0.heap.size w0 w) (hr : Kd.R (Kd.int .i64) 3 w w0.heap.size P0 v l) (hl : l.length ≤ 1048576) (h0 : 0 ≤ a) (h1 : a ≤ 1152921504000000000) :
    Calls Try.prog 32 #[.agg #[.bool b, v], .int .i64 a] w fun e w' => e = .returned (.int .i64 (kadd a l.length)) ∧ Kd.R (Kd.int .i64) 3 w' w0.heap.size (fun k_ => (P0 k_ ∨ w.heap.size ≤ k_)) v (mk a l.length) ∧ Below w0.heap.size w0 w' ∧ Kept w w' (fun k_ => P0 k_) :=
  laws_markBigInt.calls (l.length + 1) b P0 v l a _ _ w0 w hB hr (markBigInt_ok b l a _ (by omega) h0 (by omega) (by omega))

theorem Cl.szBigInt (b : Bool) (A : Option Addr) (c : Nat) (l : List Int) (a : Int) (w : World) (hr : Kd.C (Kd.int .i64) w A l.length l) (hc : l.length ≤ c) (hl : l.length ≤ maxLen) (h0 : 0 ≤ a) (h1 : a ≤ 1048576) :
    Calls Try.prog 25 #[.agg #[.bool b, .slice A l.length c], .int .i64 a] w fun e w' => e = .returned (.int .i64 (szv a (l.length))) ∧ Below w.heap.size w w' :=
  laws_szBigInt.calls b A c l a _ w hr hc (szBigInt_ok b l a h0 h1 hl)

theorem Cl.toBigInt (b : Bool) (A : Option Addr) (c : Nat) (l : List Int) (w : World) (hr : Kd.C (Kd.int .i64) w A l.length l) (hc : l.length ≤ c) (hl : l.length ≤ 1048576) :
    Calls Try.prog 27 #[.agg #[.bool b, .slice A l.length c]] w fun e w' => ∃ v, e = .returned (.agg #[.bool b, v]) ∧ Kd.R (Kd.int .i64) 3 w' w.heap.size (fun _ => True) v l ∧ Below w.heap.size w w' :=
  laws_toBigInt.calls (l.length + 1) b A c l _ _ w hr hc (toBigInt_ok b l hl _ (by omega))

set_option maxHeartbeats 8000000 in
set_option maxRecDepth 100000 in
theorem _root_.Go.Proofs.Ytmnahdoomnbdoaa.PFnExactBigIntAdd.laws_FnExactBigIntAdd.walk (a0_0 : Bool) (Al0_1 : Option Addr) (cl0_1 : Nat) (l0_1 : List Int) (a1_0 : Bool) (Al1_1 : Option Addr) (cl1_1 : Nat) (l1_1 : List Int) (w : World) (hrl0_1 : Kd.C (Kd.int .i64) w Al0_1 l0_1.length l0_1) (hcl0_1 : l0_1.length ≤ cl0_1) (hrl1_1 : Kd.C (Kd.int .i64) w Al1_1 l1_1.length l1_1) (hcl1_1 : l1_1.length ≤ cl1_1) (hml0_1 : l0_1.length ≤ maxLen) (hml1_1 : l1_1.length ≤ maxLen) :
    Calls Try.prog 10 #[.agg #[.bool a0_0, .slice Al0_1 l0_1.length cl0_1], .agg #[.bool a1_0, .slice Al1_1 l1_1.length cl1_1]] w fun e w' => e = .returned (.bool true) ∧ Below w.heap.size w w' := by
  have hu28 := Try.underlying28
  have hu31 := Try.underlying31
  have hz1a : (0 : Int) ≤ 1048576 := by decide
  have hz1b : 1048576 ≤ (1048576 : Int) := by decide
  by_cases z1 : (szv 1048576 (l0_1.length)) < 0
  · have hzd1 : decide ((szv 1048576 (l0_1.length)) < 0) = true := decide_eq_true z1
    have H := Aside0.mk (Held.none_ w)
    go_enter Try.func10, Try.ntmps10
    try go_wp2_with (first | ((with_reducible refine gate_dst (N := 2) rfl ?_); refine box_event ?hg (N := 2) ?hd (cs := #[.bool a0_0, .slice Al0_1 l0_1.length cl0_1]) (t := 28) ?hr ?_; (case hd => rfl); (case hg => rfl); (case hr => first | (go_simp; done) | (go_simp; rfl)); intro g1 hg w2 hbox hb; have H' := Aside0.mk (Held.boxed (by repeat (first | exact H.out | refine Held.drewN ?_ _ | refine Held.drew ?_)) hg hbox hb); clear H; have H := H'; clear H'; clear hbox hg hb; ) | ((with_reducible refine gate_dst (N := 3) rfl ?_); refine box_event ?hg (N := 3) ?hd (cs := #[.bool a1_0, .slice Al1_1 l1_1.length cl1_1]) (t := 28) ?hr ?_; (case hd => rfl); (case hg => rfl); (case hr => first | (go_simp; done) | (go_simp; rfl)); intro g3 hg w4 hbox hb; have H' := Aside0.mk (Held.boxed (by repeat (first | exact H.out | refine Held.drewN ?_ _ | refine Held.drew ?_)) hg hbox hb); clear H; have H := H'; clear H'; clear hbox hg hb; have f5 := H.out.cell 1 rfl 0 rfl; have f6 := H.out.cell 1 rfl 1 rfl; ) | ((with_reducible refine gate_callee (f := 25) rfl ?_); refine goesL_ (some 16) rfl rfl Try.func25 (by kernel_rfl) rfl #[.agg #[.bool a0_0, .slice Al0_1 l0_1.length cl0_1], .int .i64 1048576] rfl (by (try simp only [List.map_toArray, List.map_cons, List.map_nil]); first | done | rfl) ?_; clear f5 f6; (with_reducible refine (Cl.szBigInt a0_0 _ _ l0_1 1048576 _ (Kd.C_below hrl0_1 (Held.below (by repeat (first | exact H.out | refine Held.drewN ?_ _ | refine Held.drew ?_)))) hcl0_1 hml0_1 hz1a hz1b).mono ?_); rintro e w7 ⟨rfl, hb⟩; refine ⟨_, rfl, ?_⟩; have H' := Aside0.mk (Held.grow (by repeat (first | exact H.out | refine Held.drewN ?_ _ | refine Held.drew ?_)) hb); clear H; have H := H'; clear H'; clear hb; ))
    go_ret
    exact ⟨rfl, Held.below (by repeat (first | exact H.out | refine Held.drewN ?_ _ | refine Held.drew ?_))⟩
  have hzd1 : decide ((szv 1048576 (l0_1.length)) < 0) = false := decide_eq_false z1
  have hz2a : (0 : Int) ≤ (szv 1048576 (l0_1.length)) := szv_nn z1
  have hz2b : (szv 1048576 (l0_1.length)) ≤ (1048576 : Int) := szv_le hz1a hz1b
  by_cases z2 : (szv (szv 1048576 (l0_1.length)) (l1_1.length)) < 0
  · have hzd2 : decide ((szv (szv 1048576 (l0_1.length)) (l1_1.length)) < 0) = true := decide_eq_true z2
    have H := Aside0.mk (Held.none_ w)
    go_enter Try.func10, Try.ntmps10
    try go_wp2_with (first | ((with_reducible refine gate_dst (N := 2) rfl ?_); refine box_event ?hg (N := 2) ?hd (cs := #[.bool a0_0, .slice Al0_1 l0_1.length cl0_1]) (t := 28) ?hr ?_; (case hd => rfl); (case hg => rfl); (case hr => first | (go_simp; done) | (go_simp; rfl)); intro g8 hg w9 hbox hb; have H' := Aside0.mk (Held.boxed (by repeat (first | exact H.out | refine Held.drewN ?_ _ | refine Held.drew ?_)) hg hbox hb); clear H; have H := H'; clear H'; clear hbox hg hb; ) | ((with_reducible refine gate_dst (N := 3) rfl ?_); refine box_event ?hg (N := 3) ?hd (cs := #[.bool a1_0, .slice Al1_1 l1_1.length cl1_1]) (t := 28) ?hr ?_; (case hd => rfl); (case hg => rfl); (case hr => first | (go_simp; done) | (go_simp; rfl)); intro g10 hg w11 hbox hb; have H' := Aside0.mk (Held.boxed (by repeat (first | exact H.out | refine Held.drewN ?_ _ | refine Held.drew ?_)) hg hbox hb); clear H; have H := H'; clear H'; clear hbox hg hb; have f12 := H.out.cell 1 rfl 0 rfl; have f13 := H.out.cell 1 rfl 1 rfl; ) | ((with_reducible refine gate_callee (f := 25) rfl ?_); refine goesL_ (some 16) rfl rfl Try.func25 (by kernel_rfl) rfl #[.agg #[.bool a0_0, .slice Al0_1 l0_1.length cl0_1], .int .i64 1048576] rfl (by (try simp only [List.map_toArray, List.map_cons, List.map_nil]); first | done | rfl) ?_; clear f12 f13; (with_reducible refine (Cl.szBigInt a0_0 _ _ l0_1 1048576 _ (Kd.C_below hrl0_1 (Held.below (by repeat (first | exact H.out | refine Held.drewN ?_ _ | refine Held.drew ?_)))) hcl0_1 hml0_1 hz1a hz1b).mono ?_); rintro e w14 ⟨rfl, hb⟩; refine ⟨_, rfl, ?_⟩; have H' := Aside0.mk (Held.grow (by repeat (first | exact H.out | refine Held.drewN ?_ _ | refine Held.drew ?_)) hb); clear H; have H := H'; clear H'; clear hb; have f15 := H.out.cell 0 rfl 0 rfl; have f16 := H.out.cell 0 rfl 1 rfl; ) | ((with_reducible refine gate_callee (f := 25) rfl ?_); refine goesL_ (some 21) rfl rfl Try.func25 (by kernel_rfl) rfl #[.agg #[.bool a1_0, .slice Al1_1 l1_1.length cl1_1], .int .i64 (szv 1048576 (l0_1.length))] rfl (by (try simp only [List.map_toArray, List.map_cons, List.map_nil]); first | done | rfl) ?_; clear f15 f16; (with_reducible refine (Cl.szBigInt a1_0 _ _ l1_1 (szv 1048576 (l0_1.length)) _ (Kd.C_below hrl1_1 (Held.below (by repeat (first | exact H.out | refine Held.drewN ?_ _ | refine Held.drew ?_)))) hcl1_1 hml1_1 hz2a hz2b).mono ?_); rintro e w17 ⟨rfl, hb⟩; refine ⟨_, rfl, ?_⟩; have H' := Aside0.mk (Held.grow (by repeat (first | exact H.out | refine Held.drewN ?_ _ | refine Held.drew ?_)) hb); clear H; have H := H'; clear H'; clear hb; ))
    go_ret
    exact ⟨rfl, Held.below (by repeat (first | exact H.out | refine Held.drewN ?_ _ | refine Held.drew ?_))⟩
  have hzd2 : decide ((szv (szv 1048576 (l0_1.length)) (l1_1.length)) < 0) = false := decide_eq_false z2
  have hll0_1 : l0_1.length ≤ 1048576 := by have := szv_len hz1b z1; omega
  have hll1_1 : l1_1.length ≤ 1048576 := by have := szv_len hz2b z2; omega
  have H := Aside0.mk (Held.none_ w)
  go_enter Try.func10, Try.ntmps10
  try go_wp2_with (first | ((with_reducible refine gate_dst (N := 2) rfl ?_); refine box_event ?hg (N := 2) ?hd (cs := #[.bool a0_0, .slice Al0_1 l0_1.length cl0_1]) (t := 28) ?hr ?_; (case hd => rfl); (case hg => rfl); (case hr => first | (go_simp; done) | (go_simp; rfl)); intro g18 hg w19 hbox hb; have H' := Aside0.mk (Held.boxed (by repeat (first | exact H.out | refine Held.drewN ?_ _ | refine Held.drew ?_)) hg hbox hb); clear H; have H := H'; clear H'; clear hbox hg hb; ) | ((with_reducible refine gate_dst (N := 3) rfl ?_); refine box_event ?hg (N := 3) ?hd (cs := #[.bool a1_0, .slice Al1_1 l1_1.length cl1_1]) (t := 28) ?hr ?_; (case hd => rfl); (case hg => rfl); (case hr => first | (go_simp; done) | (go_simp; rfl)); intro g20 hg w21 hbox hb; have H' := Aside0.mk (Held.boxed (by repeat (first | exact H.out | refine Held.drewN ?_ _ | refine Held.drew ?_)) hg hbox hb); clear H; have H := H'; clear H'; clear hbox hg hb; have f22 := H.out.cell 1 rfl 0 rfl; have f23 := H.out.cell 1 rfl 1 rfl; ) | ((with_reducible refine gate_callee (f := 25) rfl ?_); refine goesL_ (some 16) rfl rfl Try.func25 (by kernel_rfl) rfl #[.agg #[.bool a0_0, .slice Al0_1 l0_1.length cl0_1], .int .i64 1048576] rfl (by (try simp only [List.map_toArray, List.map_cons, List.map_nil]); first | done | rfl) ?_; clear f22 f23; (with_reducible refine (Cl.szBigInt a0_0 _ _ l0_1 1048576 _ (Kd.C_below hrl0_1 (Held.below (by repeat (first | exact H.out | refine Held.drewN ?_ _ | refine Held.drew ?_)))) hcl0_1 hml0_1 hz1a hz1b).mono ?_); rintro e w24 ⟨rfl, hb⟩; refine ⟨_, rfl, ?_⟩; have H' := Aside0.mk (Held.grow (by repeat (first | exact H.out | refine Held.drewN ?_ _ | refine Held.drew ?_)) hb); clear H; have H := H'; clear H'; clear hb; have f25 := H.out.cell 0 rfl 0 rfl; have f26 := H.out.cell 0 rfl 1 rfl; ) | ((with_reducible refine gate_callee (f := 25) rfl ?_); refine goesL_ (some 21) rfl rfl Try.func25 (by kernel_rfl) rfl #[.agg #[.bool a1_0, .slice Al1_1 l1_1.length cl1_1], .int .i64 (szv 1048576 (l0_1.length))] rfl (by (try simp only [List.map_toArray, List.map_cons, List.map_nil]); first | done | rfl) ?_; clear f25 f26; (with_reducible refine (Cl.szBigInt a1_0 _ _ l1_1 (szv 1048576 (l0_1.length)) _ (Kd.C_below hrl1_1 (Held.below (by repeat (first | exact H.out | refine Held.drewN ?_ _ | refine Held.drew ?_)))) hcl1_1 hml1_1 hz2a hz2b).mono ?_); rintro e w27 ⟨rfl, hb⟩; refine ⟨_, rfl, ?_⟩; have H' := Aside0.mk (Held.grow (by repeat (first | exact H.out | refine Held.drewN ?_ _ | refine Held.drew ?_)) hb); clear H; have H := H'; clear H'; clear hb; ))
  have H' := Aside0.mk (Held.drew (by repeat (first | exact H.out | refine Held.drewN ?_ _ | refine Held.drew ?_))); clear H; have H := H'; clear H'
  refine start_ (n := 7) (S := fun w' => w'.cell? ⟨g18, 0, none⟩ = some (.bool a0_0) ∧ w'.cell? ⟨g18, 1, none⟩ = some (.slice Al0_1 l0_1.length cl0_1) ∧ w'.cell? ⟨g20, 0, none⟩ = some (.bool a1_0) ∧ w'.cell? ⟨g20, 1, none⟩ = some (.slice Al1_1 l1_1.length cl1_1)) (ds := []) #[false, false, false, false, false, false, false] (by kernel_rfl) rfl rfl ⟨H.out.cell 1 rfl 0 rfl, H.out.cell 1 rfl 1 rfl, H.out.cell 0 rfl 0 rfl, H.out.cell 0 rfl 1 rfl⟩ (fun hHeld => ?_)
  refine take_ (i := 0) (N := some 24) (v := ?_) (a' := ?_) #[true, false, false, false, false, false, false] rfl rfl (by kernel_rfl) (fun _ _ _ h => h) (Or.inl ⟨by rfl, ?_⟩) hHeld ?_ ?_
  rotate_left
  · rintro w' ⟨s0, s1, s2, s3⟩
    go_simp
    with_reducible rfl
  rotate_left
  · simp only [Act.put, List.setIfInBounds_toArray, List.set_cons_zero, List.set_cons_succ, i64_w, i32_w]
    rfl
  refine take_ (i := 2) (N := some 26) (v := ?_) (a' := ?_) #[true, false, true, false, false, false, false] rfl rfl (by kernel_rfl) (fun _ _ _ h => h) (Or.inl ⟨by rfl, ?_⟩) hHeld ?_ ?_
  rotate_left
  · rintro w' ⟨s0, s1, s2, s3⟩
    go_simp
    with_reducible rfl
  rotate_left
  · simp only [Act.put, List.setIfInBounds_toArray, List.set_cons_zero, List.set_cons_succ, i64_w, i32_w]
    rfl
  refine join_ (σ := (Option Addr × Nat × (Nat → Prop)) × (Option Addr × Nat × (Nat → Prop)) × (Option Addr × Nat × (Nat → Prop)) × Nat) 1 #[true, true, true, true, true, true, false] (fun s_ => [(25, .agg #[.bool a0_0, .slice s_.1.1 l0_1.length s_.1.2.1]), (27, .agg #[.bool a1_0, .slice s_.2.1.1 l1_1.length s_.2.1.2.1]), (28, .agg #[.bool (rm1 a0_0 l0_1 a1_0 l1_1), .slice s_.2.2.1.1 (rm2 a0_0 l0_1 a1_0 l1_1).length s_.2.2.1.2.1]), (6, .pointer (some ⟨s_.2.2.2, 0, none⟩))]) (fun s_ w' => Held w w' [row (Kd.int .i64) 3 w.heap.size (.slice s_.1.1 l0_1.length s_.1.2.1) l0_1 s_.1.2.2, row (Kd.int .i64) 3 w.heap.size (.slice s_.2.1.1 l1_1.length s_.2.1.2.1) l1_1 s_.2.1.2.2, row (Kd.int .i64) 3 w.heap.size (.slice s_.2.2.1.1 (rm2 a0_0 l0_1 a1_0 l1_1).length s_.2.2.1.2.1) (rm2 a0_0 l0_1 a1_0 l1_1) s_.2.2.1.2.2, box s_.2.2.2 #[.bool false, .slice none 0 0] 31, box g20 #[.bool a1_0, .slice Al1_1 l1_1.length cl1_1] 28, box g18 #[.bool a0_0, .slice Al0_1 l0_1.length cl0_1] 28]) ?_ ?_
  rotate_left
  · intro hCont
    refine two_ (i := 1) (j := 5) (Ni := some 25) (Nj := some 6) #[true, true, true, false, false, false, false] #[true, false, true, false, false, true, false] rfl rfl rfl rfl (by kernel_rfl) (by decide) (by decide) (fun K hK => ?_) (fun K hK => ?_)
    · skip
      refine goes_ Try.func27 (by kernel_rfl) rfl #[.agg #[.bool a0_0, .slice Al0_1 l0_1.length cl0_1]] (by rfl) rfl rfl (by (try simp only [List.map_toArray, List.map_cons, List.map_nil]); first | done | rfl) ?_
      with_reducible refine (Cl.toBigInt a0_0 _ _ l0_1 _ (Kd.C_below hrl0_1 (Held.below (by repeat (first | exact H.out | refine Held.drewN ?_ _ | refine Held.drew ?_)))) hcl0_1 hll0_1).mono ?_
      rintro e w28 ⟨v29, rfl, ho, hb⟩
      refine ⟨_, rfl, ?_⟩
      obtain ⟨ov29, H'⟩ := Held.fresh (by repeat (first | exact H.out | refine Held.drewN ?_ _ | refine Held.drew ?_)) ho hb
      clear ho hb H
      have H := Aside0.mk H'
      clear H'
      obtain ⟨Av29, cv29, rfl⟩ := Kd.R_slice (H.out.rowAt 0 rfl)
      refine hK.out _ _ ⟨H.out.cell 2 rfl 0 rfl, H.out.cell 2 rfl 1 rfl, H.out.cell 1 rfl 0 rfl, H.out.cell 1 rfl 1 rfl⟩ (fun hHeld => ?_)
      clear hK K
      refine norm_ (a' := ?_) ?_ ?_
      rotate_left
      · show Act.put _ (some 25) _ = _
        simp only [Act.put, List.setIfInBounds_toArray, List.set_cons_zero, List.set_cons_succ, i64_w, i32_w]
        rfl
      refine two_ (i := 3) (j := 5) (Ni := some 27) (Nj := some 6) #[true, true, true, true, false, false, false] #[true, true, true, false, false, true, false] rfl rfl rfl rfl (by kernel_rfl) (by decide) (by decide) (fun K hK => ?_) (fun K hK => ?_)
      · skip
        refine goes_ Try.func27 (by kernel_rfl) rfl #[.agg #[.bool a1_0, .slice Al1_1 l1_1.length cl1_1]] (by rfl) rfl rfl (by (try simp only [List.map_toArray, List.map_cons, List.map_nil]); first | done | rfl) ?_
        with_reducible refine (Cl.toBigInt a1_0 _ _ l1_1 _ (Kd.C_below hrl1_1 (Held.below (by repeat (first | exact H.out | refine Held.drewN ?_ _ | refine Held.drew ?_)))) hcl1_1 hll1_1).mono ?_
        rintro e w30 ⟨v31, rfl, ho, hb⟩
        refine ⟨_, rfl, ?_⟩
        obtain ⟨ov31, H'⟩ := Held.fresh (by repeat (first | exact H.out | refine Held.drewN ?_ _ | refine Held.drew ?_)) ho hb
        clear ho hb H
        have H := Aside0.mk H'
        clear H'
        obtain ⟨Av31, cv31, rfl⟩ := Kd.R_slice (H.out.rowAt 0 rfl)
        refine hK.out _ _ ⟨H.out.cell 3 rfl 0 rfl, H.out.cell 3 rfl 1 rfl, H.out.cell 2 rfl 0 rfl, H.out.cell 2 rfl 1 rfl⟩ (fun hHeld => ?_)
        clear hK K
        refine norm_ (a' := ?_) ?_ ?_
        rotate_left
        · show Act.put _ (some 27) _ = _
          simp only [Act.put, List.setIfInBounds_toArray, List.set_cons_zero, List.set_cons_succ, i64_w, i32_w]
          rfl
        refine two_ (i := 4) (j := 5) (Ni := some 28) (Nj := some 6) #[true, true, true, true, true, false, false] #[true, true, true, true, false, true, false] rfl rfl rfl rfl (by kernel_rfl) (by decide) (by decide) (fun K hK => ?_) (fun K hK => ?_)
        · skip
          refine goes_ Try.func38 (by kernel_rfl) rfl #[.agg #[.bool a0_0, .slice Av29 l0_1.length cv29], .agg #[.bool a1_0, .slice Av31 l1_1.length cv31]] (by rfl) rfl rfl (by (try simp only [List.map_toArray, List.map_cons, List.map_nil]); first | done | rfl) ?_
          with_reducible refine (Cl.spec a0_0 _ _ l0_1 a1_0 _ _ l1_1 _ (Held.reads (by repeat (first | exact H.out | refine Held.drewN ?_ _ | refine Held.drew ?_)) 1 rfl).2.2 (Held.reads (by repeat (first | exact H.out | refine Held.drewN ?_ _ | refine Held.drew ?_)) 1 rfl).2.1 (Held.reads (by repeat (first | exact H.out | refine Held.drewN ?_ _ | refine Held.drew ?_)) 0 rfl).2.2 (Held.reads (by repeat (first | exact H.out | refine Held.drewN ?_ _ | refine Held.drew ?_)) 0 rfl).2.1 hll0_1 hll1_1).mono ?_
          rintro e w32 ⟨v33, rfl, ho, hb⟩
          refine ⟨_, rfl, ?_⟩
          obtain ⟨ov33, H'⟩ := Held.fresh (by repeat (first | exact H.out | refine Held.drewN ?_ _ | refine Held.drew ?_)) ho hb
          clear ho hb H
          have H := Aside0.mk H'
          clear H'
          obtain ⟨Av33, cv33, rfl⟩ := Kd.R_slice (H.out.rowAt 0 rfl)
          refine hK.out _ _ ⟨H.out.cell 4 rfl 0 rfl, H.out.cell 4 rfl 1 rfl, H.out.cell 3 rfl 0 rfl, H.out.cell 3 rfl 1 rfl⟩ (fun hHeld => ?_)
          clear hK K
          refine norm_ (a' := ?_) ?_ ?_
          rotate_left
          · show Act.put _ (some 28) _ = _
            simp only [Act.put, List.setIfInBounds_toArray, List.set_cons_zero, List.set_cons_succ, i64_w, i32_w]
            rfl
          refine one_ (i := 5) (N := some 6) #[true, true, true, true, true, true, false] rfl rfl (by kernel_rfl) (by decide) (fun K hK => ?_)
          refine box_step (by rfl) (N := 6) ?hd (cs := #[.bool false, .slice none 0 0]) (t := 31) ?hr ?_
          (case hd => rfl)
          (case hr => first | (go_simp; done) | (go_simp; rfl))
          intro g34 hg w35 hbox hb
          have H' := Aside0.mk (Held.boxed (by repeat (first | exact H.out | refine Held.drewN ?_ _ | refine Held.drew ?_)) hg hbox hb); clear H; have H := H'; clear H'
          clear hbox hg hb
          refine hK.out _ _ ⟨H.out.cell 5 rfl 0 rfl, H.out.cell 5 rfl 1 rfl, H.out.cell 4 rfl 0 rfl, H.out.cell 4 rfl 1 rfl⟩ (fun hHeld => ?_)
          clear hK K
          refine norm_ (a' := ?_) ?_ ?_
          rotate_left
          · show Act.put _ (some 6) _ = _
            simp only [Act.put, List.setIfInBounds_toArray, List.set_cons_zero, List.set_cons_succ, i64_w, i32_w]
            rfl
          exact norm_ (by simp only [putAll, Act.put, List.setIfInBounds_toArray, List.set_cons_zero, List.set_cons_succ]) (hCont ((Av29, cv29, ov29), (Av31, cv31, ov31), (Av33, cv33, ov33), g34) _ (Held.pick H.out [3, 2, 1, 0, 4, 5] (by decide) rfl))
        · skip
          refine box_step (by rfl) (N := 6) ?hd (cs := #[.bool false, .slice none 0 0]) (t := 31) ?hr ?_
          (case hd => rfl)
          (case hr => first | (go_simp; done) | (go_simp; rfl))
          intro g36 hg w37 hbox hb
          have H' := Aside0.mk (Held.boxed (by repeat (first | exact H.out | refine Held.drewN ?_ _ | refine Held.drew ?_)) hg hbox hb); clear H; have H := H'; clear H'
          clear hbox hg hb
          refine hK.out _ _ ⟨H.out.cell 4 rfl 0 rfl, H.out.cell 4 rfl 1 rfl, H.out.cell 3 rfl 0 rfl, H.out.cell 3 rfl 1 rfl⟩ (fun hHeld => ?_)
          clear hK K
          refine norm_ (a' := ?_) ?_ ?_
          rotate_left
          · show Act.put _ (some 6) _ = _
            simp only [Act.put, List.setIfInBounds_toArray, List.set_cons_zero, List.set_cons_succ, i64_w, i32_w]
            rfl
          refine one_ (i := 4) (N := some 28) #[true, true, true, true, true, true, false] rfl rfl (by kernel_rfl) (by decide) (fun K hK => ?_)
          refine goes_ Try.func38 (by kernel_rfl) rfl #[.agg #[.bool a0_0, .slice Av29 l0_1.length cv29], .agg #[.bool a1_0, .slice Av31 l1_1.length cv31]] (by rfl) rfl rfl (by (try simp only [List.map_toArray, List.map_cons, List.map_nil]); first | done | rfl) ?_
          with_reducible refine (Cl.spec a0_0 _ _ l0_1 a1_0 _ _ l1_1 _ (Held.reads (by repeat (first | exact H.out | refine Held.drewN ?_ _ | refine Held.drew ?_)) 2 rfl).2.2 (Held.reads (by repeat (first | exact H.out | refine Held.drewN ?_ _ | refine Held.drew ?_)) 2 rfl).2.1 (Held.reads (by repeat (first | exact H.out | refine Held.drewN ?_ _ | refine Held.drew ?_)) 1 rfl).2.2 (Held.reads (by repeat (first | exact H.out | refine Held.drewN ?_ _ | refine Held.drew ?_)) 1 rfl).2.1 hll0_1 hll1_1).mono ?_
          rintro e w38 ⟨v39, rfl, ho, hb⟩
          refine ⟨_, rfl, ?_⟩
          obtain ⟨ov39, H'⟩ := Held.fresh (by repeat (first | exact H.out | refine Held.drewN ?_ _ | refine Held.drew ?_)) ho hb
          clear ho hb H
          have H := Aside0.mk H'
          clear H'
          obtain ⟨Av39, cv39, rfl⟩ := Kd.R_slice (H.out.rowAt 0 rfl)
          refine hK.out _ _ ⟨H.out.cell 5 rfl 0 rfl, H.out.cell 5 rfl 1 rfl, H.out.cell 4 rfl 0 rfl, H.out.cell 4 rfl 1 rfl⟩ (fun hHeld => ?_)
          clear hK K
          refine norm_ (a' := ?_) ?_ ?_
          rotate_left
          · show Act.put _ (some 28) _ = _
            simp only [Act.put, List.setIfInBounds_toArray, List.set_cons_zero, List.set_cons_succ, i64_w, i32_w]
            rfl
          exact norm_ (by simp only [putAll, Act.put, List.setIfInBounds_toArray, List.set_cons_zero, List.set_cons_succ]) (hCont ((Av29, cv29, ov29), (Av31, cv31, ov31), (Av39, cv39, ov39), g36) _ (Held.pick H.out [3, 2, 0, 1, 4, 5] (by decide) rfl))
      · skip
        refine box_step (by rfl) (N := 6) ?hd (cs := #[.bool false, .slice none 0 0]) (t := 31) ?hr ?_
        (case hd => rfl)
        (case hr => first | (go_simp; done) | (go_simp; rfl))
        intro g40 hg w41 hbox hb
        have H' := Aside0.mk (Held.boxed (by repeat (first | exact H.out | refine Held.drewN ?_ _ | refine Held.drew ?_)) hg hbox hb); clear H; have H := H'; clear H'
        clear hbox hg hb
        refine hK.out _ _ ⟨H.out.cell 3 rfl 0 rfl, H.out.cell 3 rfl 1 rfl, H.out.cell 2 rfl 0 rfl, H.out.cell 2 rfl 1 rfl⟩ (fun hHeld => ?_)
        clear hK K
        refine norm_ (a' := ?_) ?_ ?_
        rotate_left
        · show Act.put _ (some 6) _ = _
          simp only [Act.put, List.setIfInBounds_toArray, List.set_cons_zero, List.set_cons_succ, i64_w, i32_w]
          rfl
        refine one_ (i := 3) (N := some 27) #[true, true, true, true, false, true, false] rfl rfl (by kernel_rfl) (by decide) (fun K hK => ?_)
        refine goes_ Try.func27 (by kernel_rfl) rfl #[.agg #[.bool a1_0, .slice Al1_1 l1_1.length cl1_1]] (by rfl) rfl rfl (by (try simp only [List.map_toArray, List.map_cons, List.map_nil]); first | done | rfl) ?_
        with_reducible refine (Cl.toBigInt a1_0 _ _ l1_1 _ (Kd.C_below hrl1_1 (Held.below (by repeat (first | exact H.out | refine Held.drewN ?_ _ | refine Held.drew ?_)))) hcl1_1 hll1_1).mono ?_
        rintro e w42 ⟨v43, rfl, ho, hb⟩
        refine ⟨_, rfl, ?_⟩
        obtain ⟨ov43, H'⟩ := Held.fresh (by repeat (first | exact H.out | refine Held.drewN ?_ _ | refine Held.drew ?_)) ho hb
        clear ho hb H
        have H := Aside0.mk H'
        clear H'
        obtain ⟨Av43, cv43, rfl⟩ := Kd.R_slice (H.out.rowAt 0 rfl)
        refine hK.out _ _ ⟨H.out.cell 4 rfl 0 rfl, H.out.cell 4 rfl 1 rfl, H.out.cell 3 rfl 0 rfl, H.out.cell 3 rfl 1 rfl⟩ (fun hHeld => ?_)
        clear hK K
        refine norm_ (a' := ?_) ?_ ?_
        rotate_left
        · show Act.put _ (some 27) _ = _
          simp only [Act.put, List.setIfInBounds_toArray, List.set_cons_zero, List.set_cons_succ, i64_w, i32_w]
          rfl
        refine one_ (i := 4) (N := some 28) #[true, true, true, true, true, true, false] rfl rfl (by kernel_rfl) (by decide) (fun K hK => ?_)
        refine goes_ Try.func38 (by kernel_rfl) rfl #[.agg #[.bool a0_0, .slice Av29 l0_1.length cv29], .agg #[.bool a1_0, .slice Av43 l1_1.length cv43]] (by rfl) rfl rfl (by (try simp only [List.map_toArray, List.map_cons, List.map_nil]); first | done | rfl) ?_
        with_reducible refine (Cl.spec a0_0 _ _ l0_1 a1_0 _ _ l1_1 _ (Held.reads (by repeat (first | exact H.out | refine Held.drewN ?_ _ | refine Held.drew ?_)) 2 rfl).2.2 (Held.reads (by repeat (first | exact H.out | refine Held.drewN ?_ _ | refine Held.drew ?_)) 2 rfl).2.1 (Held.reads (by repeat (first | exact H.out | refine Held.drewN ?_ _ | refine Held.drew ?_)) 0 rfl).2.2 (Held.reads (by repeat (first | exact H.out | refine Held.drewN ?_ _ | refine Held.drew ?_)) 0 rfl).2.1 hll0_1 hll1_1).mono ?_
        rintro e w44 ⟨v45, rfl, ho, hb⟩
        refine ⟨_, rfl, ?_⟩
        obtain ⟨ov45, H'⟩ := Held.fresh (by repeat (first | exact H.out | refine Held.drewN ?_ _ | refine Held.drew ?_)) ho hb
        clear ho hb H
        have H := Aside0.mk H'
        clear H'
        obtain ⟨Av45, cv45, rfl⟩ := Kd.R_slice (H.out.rowAt 0 rfl)
        refine hK.out _ _ ⟨H.out.cell 5 rfl 0 rfl, H.out.cell 5 rfl 1 rfl, H.out.cell 4 rfl 0 rfl, H.out.cell 4 rfl 1 rfl⟩ (fun hHeld => ?_)
        clear hK K
        refine norm_ (a' := ?_) ?_ ?_
        rotate_left
        · show Act.put _ (some 28) _ = _
          simp only [Act.put, List.setIfInBounds_toArray, List.set_cons_zero, List.set_cons_succ, i64_w, i32_w]
          rfl
        exact norm_ (by simp only [putAll, Act.put, List.setIfInBounds_toArray, List.set_cons_zero, List.set_cons_succ]) (hCont ((Av29, cv29, ov29), (Av43, cv43, ov43), (Av45, cv45, ov45), g40) _ (Held.pick H.out [3, 1, 0, 2, 4, 5] (by decide) rfl))
    · skip
      refine box_step (by rfl) (N := 6) ?hd (cs := #[.bool false, .slice none 0 0]) (t := 31) ?hr ?_
      (case hd => rfl)
      (case hr => first | (go_simp; done) | (go_simp; rfl))
      intro g46 hg w47 hbox hb
      have H' := Aside0.mk (Held.boxed (by repeat (first | exact H.out | refine Held.drewN ?_ _ | refine Held.drew ?_)) hg hbox hb); clear H; have H := H'; clear H'
      clear hbox hg hb
      refine hK.out _ _ ⟨H.out.cell 2 rfl 0 rfl, H.out.cell 2 rfl 1 rfl, H.out.cell 1 rfl 0 rfl, H.out.cell 1 rfl 1 rfl⟩ (fun hHeld => ?_)
      clear hK K
      refine norm_ (a' := ?_) ?_ ?_
      rotate_left
      · show Act.put _ (some 6) _ = _
        simp only [Act.put, List.setIfInBounds_toArray, List.set_cons_zero, List.set_cons_succ, i64_w, i32_w]
        rfl
      refine one_ (i := 1) (N := some 25) #[true, true, true, false, false, true, false] rfl rfl (by kernel_rfl) (by decide) (fun K hK => ?_)
      refine goes_ Try.func27 (by kernel_rfl) rfl #[.agg #[.bool a0_0, .slice Al0_1 l0_1.length cl0_1]] (by rfl) rfl rfl (by (try simp only [List.map_toArray, List.map_cons, List.map_nil]); first | done | rfl) ?_
      with_reducible refine (Cl.toBigInt a0_0 _ _ l0_1 _ (Kd.C_below hrl0_1 (Held.below (by repeat (first | exact H.out | refine Held.drewN ?_ _ | refine Held.drew ?_)))) hcl0_1 hll0_1).mono ?_
      rintro e w48 ⟨v49, rfl, ho, hb⟩
      refine ⟨_, rfl, ?_⟩
      obtain ⟨ov49, H'⟩ := Held.fresh (by repeat (first | exact H.out | refine Held.drewN ?_ _ | refine Held.drew ?_)) ho hb
      clear ho hb H
      have H := Aside0.mk H'
      clear H'
      obtain ⟨Av49, cv49, rfl⟩ := Kd.R_slice (H.out.rowAt 0 rfl)
      refine hK.out _ _ ⟨H.out.cell 3 rfl 0 rfl, H.out.cell 3 rfl 1 rfl, H.out.cell 2 rfl 0 rfl, H.out.cell 2 rfl 1 rfl⟩ (fun hHeld => ?_)
      clear hK K
      refine norm_ (a' := ?_) ?_ ?_
      rotate_left
      · show Act.put _ (some 25) _ = _
        simp only [Act.put, List.setIfInBounds_toArray, List.set_cons_zero, List.set_cons_succ, i64_w, i32_w]
        rfl
      refine one_ (i := 3) (N := some 27) #[true, true, true, true, false, true, false] rfl rfl (by kernel_rfl) (by decide) (fun K hK => ?_)
      refine goes_ Try.func27 (by kernel_rfl) rfl #[.agg #[.bool a1_0, .slice Al1_1 l1_1.length cl1_1]] (by rfl) rfl rfl (by (try simp only [List.map_toArray, List.map_cons, List.map_nil]); first | done | rfl) ?_
      with_reducible refine (Cl.toBigInt a1_0 _ _ l1_1 _ (Kd.C_below hrl1_1 (Held.below (by repeat (first | exact H.out | refine Held.drewN ?_ _ | refine Held.drew ?_)))) hcl1_1 hll1_1).mono ?_
      rintro e w50 ⟨v51, rfl, ho, hb⟩
      refine ⟨_, rfl, ?_⟩
      obtain ⟨ov51, H'⟩ := Held.fresh (by repeat (first | exact H.out | refine Held.drewN ?_ _ | refine Held.drew ?_)) ho hb
      clear ho hb H
      have H := Aside0.mk H'
      clear H'
      obtain ⟨Av51, cv51, rfl⟩ := Kd.R_slice (H.out.rowAt 0 rfl)
      refine hK.out _ _ ⟨H.out.cell 4 rfl 0 rfl, H.out.cell 4 rfl 1 rfl, H.out.cell 3 rfl 0 rfl, H.out.cell 3 rfl 1 rfl⟩ (fun hHeld => ?_)
      clear hK K
      refine norm_ (a' := ?_) ?_ ?_
      rotate_left
      · show Act.put _ (some 27) _ = _
        simp only [Act.put, List.setIfInBounds_toArray, List.set_cons_zero, List.set_cons_succ, i64_w, i32_w]
        rfl
      refine one_ (i := 4) (N := some 28) #[true, true, true, true, true, true, false] rfl rfl (by kernel_rfl) (by decide) (fun K hK => ?_)
      refine goes_ Try.func38 (by kernel_rfl) rfl #[.agg #[.bool a0_0, .slice Av49 l0_1.length cv49], .agg #[.bool a1_0, .slice Av51 l1_1.length cv51]] (by rfl) rfl rfl (by (try simp only [List.map_toArray, List.map_cons, List.map_nil]); first | done | rfl) ?_
      with_reducible refine (Cl.spec a0_0 _ _ l0_1 a1_0 _ _ l1_1 _ (Held.reads (by repeat (first | exact H.out | refine Held.drewN ?_ _ | refine Held.drew ?_)) 1 rfl).2.2 (Held.reads (by repeat (first | exact H.out | refine Held.drewN ?_ _ | refine Held.drew ?_)) 1 rfl).2.1 (Held.reads (by repeat (first | exact H.out | refine Held.drewN ?_ _ | refine Held.drew ?_)) 0 rfl).2.2 (Held.reads (by repeat (first | exact H.out | refine Held.drewN ?_ _ | refine Held.drew ?_)) 0 rfl).2.1 hll0_1 hll1_1).mono ?_
      rintro e w52 ⟨v53, rfl, ho, hb⟩
      refine ⟨_, rfl, ?_⟩
      obtain ⟨ov53, H'⟩ := Held.fresh (by repeat (first | exact H.out | refine Held.drewN ?_ _ | refine Held.drew ?_)) ho hb
      clear ho hb H
      have H := Aside0.mk H'
      clear H'
      obtain ⟨Av53, cv53, rfl⟩ := Kd.R_slice (H.out.rowAt 0 rfl)
      refine hK.out _ _ ⟨H.out.cell 5 rfl 0 rfl, H.out.cell 5 rfl 1 rfl, H.out.cell 4 rfl 0 rfl, H.out.cell 4 rfl 1 rfl⟩ (fun hHeld => ?_)
      clear hK K
      refine norm_ (a' := ?_) ?_ ?_
      rotate_left
      · show Act.put _ (some 28) _ = _
        simp only [Act.put, List.setIfInBounds_toArray, List.set_cons_zero, List.set_cons_succ, i64_w, i32_w]
        rfl
      exact norm_ (by simp only [putAll, Act.put, List.setIfInBounds_toArray, List.set_cons_zero, List.set_cons_succ]) (hCont ((Av49, cv49, ov49), (Av51, cv51, ov51), (Av53, cv53, ov53), g46) _ (Held.pick H.out [2, 1, 0, 3, 4, 5] (by decide) rfl))
  rintro ⟨⟨Av55, cv55, ov55⟩, ⟨Av56, cv56, ov56⟩, ⟨Av57, cv57, ov57⟩, g58⟩ w59 hF
  clear hHeld H
  have H := Aside0.mk hF
  clear hF
  refine norm_ (a' := ?_) ?_ ?_
  rotate_left
  · simp only [putAll, Act.put, List.setIfInBounds_toArray, List.set_cons_zero, List.set_cons_succ]
    rfl
  refine one_ (i := 6) (N := none) #[true, true, true, true, true, true, true] rfl rfl (by kernel_rfl) (by decide) (fun K hK => ?_)
  have f61 := H.out.cell 3 rfl 0 rfl
  have f62 := H.out.frozen 3 rfl 0
  have f63 := H.out.cell 3 rfl 1 rfl
  have f64 := H.out.frozen 3 rfl 1
  refine Held.store_step H.out 3 rfl [.bool (rm1 a0_0 l0_1 a1_0 l1_1), .slice Av57 (rm2 a0_0 l0_1 a1_0 l1_1).length cv57] (by rfl) rfl ?hr rfl rfl ?_
  (case hr => first | (go_simp; done) | (go_simp; rfl))
  clear H
  intro w60 H'
  have H := Aside0.mk H'
  clear H'
  clear f61 f62 f63 f64
  refine hK.out _ _ ⟨H.out.cell 5 rfl 0 rfl, H.out.cell 5 rfl 1 rfl, H.out.cell 4 rfl 0 rfl, H.out.cell 4 rfl 1 rfl⟩ (fun hHeld => ?_)
  clear hK K hHeld
  refine done_ (by kernel_rfl) ?_
  have f65 := H.out.cell 5 rfl 0 rfl
  have f66 := H.out.cell 5 rfl 1 rfl
  try go_wp2_with (first | ((with_reducible refine gate_callee (f := 27) rfl ?_); refine goesL_ (some 30) rfl rfl Try.func27 (by kernel_rfl) rfl #[.agg #[.bool a0_0, .slice Al0_1 l0_1.length cl0_1]] rfl (by (try simp only [List.map_toArray, List.map_cons, List.map_nil]); first | done | rfl) ?_; clear f65 f66; (with_reducible refine (Cl.toBigInt a0_0 _ _ l0_1 _ (Kd.C_below hrl0_1 (Held.below (by repeat (first | exact H.out | refine Held.drewN ?_ _ | refine Held.drew ?_)))) hcl0_1 hll0_1).mono ?_); rintro e w67 ⟨v68, rfl, ho, hb⟩; refine ⟨_, rfl, ?_⟩; obtain ⟨ov68, H'⟩ := Held.fresh (by repeat (first | exact H.out | refine Held.drewN ?_ _ | refine Held.drew ?_)) ho hb; clear ho hb H; have H := Aside0.mk H'; clear H'; obtain ⟨Av68, cv68, rfl⟩ := Kd.R_slice (H.out.rowAt 0 rfl); ) | ((with_reducible refine gate_dst (N := 7) rfl ?_); refine box_event ?hg (N := 7) ?hd (cs := #[.bool false, .slice none 0 0]) (t := 31) ?hr ?_; (case hd => rfl); (case hg => rfl); (case hr => first | (go_simp; done) | (go_simp; rfl)); intro g69 hg w70 hbox hb; have H' := Aside0.mk (Held.boxed (by repeat (first | exact H.out | refine Held.drewN ?_ _ | refine Held.drew ?_)) hg hbox hb); clear H; have H := H'; clear H'; clear hbox hg hb; ) | ((with_reducible refine gate_store (t := 31) (p := 7) (v := .tmp 30) rfl ?_); have f72 := H.out.cell 0 rfl 0 rfl; have f73 := H.out.frozen 0 rfl 0; have f74 := H.out.cell 0 rfl 1 rfl; have f75 := H.out.frozen 0 rfl 1; refine Held.store_ev (F := _) (by repeat (first | exact H.out | refine Held.drewN ?_ _ | refine Held.drew ?_)) 0 rfl [.bool a0_0, .slice Av68 l0_1.length cv68] rfl rfl ?hr rfl rfl ?_; (case hr => first | (go_simp; done) | (go_simp; rfl)); clear H; intro w71 H'; have H := Aside0.mk H'; clear H'; clear f72 f73 f74 f75; have f76 := H.out.cell 6 rfl 0 rfl; have f77 := H.out.cell 6 rfl 1 rfl; ) | ((with_reducible refine gate_callee (f := 27) rfl ?_); refine goesL_ (some 32) rfl rfl Try.func27 (by kernel_rfl) rfl #[.agg #[.bool a1_0, .slice Al1_1 l1_1.length cl1_1]] rfl (by (try simp only [List.map_toArray, List.map_cons, List.map_nil]); first | done | rfl) ?_; clear f76 f77; (with_reducible refine (Cl.toBigInt a1_0 _ _ l1_1 _ (Kd.C_below hrl1_1 (Held.below (by repeat (first | exact H.out | refine Held.drewN ?_ _ | refine Held.drew ?_)))) hcl1_1 hll1_1).mono ?_); rintro e w78 ⟨v79, rfl, ho, hb⟩; refine ⟨_, rfl, ?_⟩; obtain ⟨ov79, H'⟩ := Held.fresh (by repeat (first | exact H.out | refine Held.drewN ?_ _ | refine Held.drew ?_)) ho hb; clear ho hb H; have H := Aside0.mk H'; clear H'; obtain ⟨Av79, cv79, rfl⟩ := Kd.R_slice (H.out.rowAt 0 rfl); ) | ((with_reducible refine gate_dst (N := 8) rfl ?_); refine box_event ?hg (N := 8) ?hd (cs := #[.bool false, .slice none 0 0]) (t := 31) ?hr ?_; (case hd => rfl); (case hg => rfl); (case hr => first | (go_simp; done) | (go_simp; rfl)); intro g80 hg w81 hbox hb; have H' := Aside0.mk (Held.boxed (by repeat (first | exact H.out | refine Held.drewN ?_ _ | refine Held.drew ?_)) hg hbox hb); clear H; have H := H'; clear H'; clear hbox hg hb; ) | ((with_reducible refine gate_store (t := 31) (p := 8) (v := .tmp 32) rfl ?_); have f83 := H.out.cell 0 rfl 0 rfl; have f84 := H.out.frozen 0 rfl 0; have f85 := H.out.cell 0 rfl 1 rfl; have f86 := H.out.frozen 0 rfl 1; refine Held.store_ev (F := _) (by repeat (first | exact H.out | refine Held.drewN ?_ _ | refine Held.drew ?_)) 0 rfl [.bool a1_0, .slice Av79 l1_1.length cv79] rfl rfl ?hr rfl rfl ?_; (case hr => first | (go_simp; done) | (go_simp; rfl)); clear H; intro w82 H'; have H := Aside0.mk H'; clear H'; clear f83 f84 f85 f86; have f87 := H.out.cell 2 rfl 0 rfl; have f88 := H.out.cell 2 rfl 1 rfl; have f89 := H.out.cell 0 rfl 0 rfl; have f90 := H.out.cell 0 rfl 1 rfl; ) | ((with_reducible refine gate_callee (f := 39) rfl ?_); refine goesL_ (some 35) rfl rfl Try.func39 (by kernel_rfl) rfl #[.agg #[.bool a0_0, .slice Av68 l0_1.length cv68], .agg #[.bool a1_0, .slice Av79 l1_1.length cv79]] rfl (by (try simp only [List.map_toArray, List.map_cons, List.map_nil]); first | done | rfl) ?_; clear f87 f88 f89 f90; (with_reducible refine (Cl.impl a0_0 _ _ l0_1 a1_0 _ _ l1_1 _ (Held.reads (by repeat (first | exact H.out | refine Held.drewN ?_ _ | refine Held.drew ?_)) 3 rfl).2.2 (Held.reads (by repeat (first | exact H.out | refine Held.drewN ?_ _ | refine Held.drew ?_)) 3 rfl).2.1 (Held.reads (by repeat (first | exact H.out | refine Held.drewN ?_ _ | refine Held.drew ?_)) 1 rfl).2.2 (Held.reads (by repeat (first | exact H.out | refine Held.drewN ?_ _ | refine Held.drew ?_)) 1 rfl).2.1 hll0_1 hll1_1).mono ?_); rintro e w91 ⟨v92, rfl, ho, hb⟩; refine ⟨_, rfl, ?_⟩; obtain ⟨ov92, H'⟩ := Held.fresh (by repeat (first | exact H.out | refine Held.drewN ?_ _ | refine Held.drew ?_)) ho hb; clear ho hb H; have H := Aside0.mk H'; clear H'; obtain ⟨Av92, cv92, rfl⟩ := Kd.R_slice (H.out.rowAt 0 rfl); ) | ((with_reducible refine gate_dst (N := 9) rfl ?_); refine box_event ?hg (N := 9) ?hd (cs := #[.bool false, .slice none 0 0]) (t := 31) ?hr ?_; (case hd => rfl); (case hg => rfl); (case hr => first | (go_simp; done) | (go_simp; rfl)); intro g93 hg w94 hbox hb; have H' := Aside0.mk (Held.boxed (by repeat (first | exact H.out | refine Held.drewN ?_ _ | refine Held.drew ?_)) hg hbox hb); clear H; have H := H'; clear H'; clear hbox hg hb; ) | ((with_reducible refine gate_store (t := 31) (p := 9) (v := .tmp 35) rfl ?_); have f96 := H.out.cell 0 rfl 0 rfl; have f97 := H.out.frozen 0 rfl 0; have f98 := H.out.cell 0 rfl 1 rfl; have f99 := H.out.frozen 0 rfl 1; refine Held.store_ev (F := _) (by repeat (first | exact H.out | refine Held.drewN ?_ _ | refine Held.drew ?_)) 0 rfl [.bool (rm1 a0_0 l0_1 a1_0 l1_1), .slice Av92 (rm2 a0_0 l0_1 a1_0 l1_1).length cv92] rfl rfl ?hr rfl rfl ?_; (case hr => first | (go_simp; done) | (go_simp; rfl)); clear H; intro w95 H'; have H := Aside0.mk H'; clear H'; clear f96 f97 f98 f99; have f100 := H.out.cell 0 rfl 0 rfl; have f101 := H.out.cell 0 rfl 1 rfl; have f102 := H.out.cell 9 rfl 0 rfl; have f103 := H.out.cell 9 rfl 1 rfl; ) | ((with_reducible refine gate_callee (f := 29) rfl ?_); refine goesL_ (some 38) rfl rfl Try.func29 (by kernel_rfl) rfl #[.agg #[.bool (rm1 a0_0 l0_1 a1_0 l1_1), .slice Av92 (rm2 a0_0 l0_1 a1_0 l1_1).length cv92], .agg #[.bool (rm1 a0_0 l0_1 a1_0 l1_1), .slice Av57 (rm2 a0_0 l0_1 a1_0 l1_1).length cv57]] rfl (by (try simp only [List.map_toArray, List.map_cons, List.map_nil]); first | done | rfl) ?_; clear f100 f101 f102 f103; (with_reducible refine (Cl.eqBigInt (rm1 a0_0 l0_1 a1_0 l1_1) _ _ _ _ (rm2 a0_0 l0_1 a1_0 l1_1) _ (Held.reads (by repeat (first | exact H.out | refine Held.drewN ?_ _ | refine Held.drew ?_)) 1 rfl).2.2 (Held.reads (by repeat (first | exact H.out | refine Held.drewN ?_ _ | refine Held.drew ?_)) 1 rfl).2.1 (Held.reads (by repeat (first | exact H.out | refine Held.drewN ?_ _ | refine Held.drew ?_)) 8 rfl).2.2 (Held.reads (by repeat (first | exact H.out | refine Held.drewN ?_ _ | refine Held.drew ?_)) 8 rfl).2.1 (Cl.len0 hll0_1 hll1_1)).mono ?_); rintro e w104 ⟨rfl, hb⟩; refine ⟨_, rfl, ?_⟩; have H' := Aside0.mk (Held.grow (by repeat (first | exact H.out | refine Held.drewN ?_ _ | refine Held.drew ?_)) hb); clear H; have H := H'; clear H'; clear hb; ))
  have H' := Aside0.mk (Held.drew (by repeat (first | exact H.out | refine Held.drewN ?_ _ | refine Held.drew ?_))); clear H; have H := H'; clear H'
  refine start_ (n := 5) (S := fun w' => w'.cell? ⟨g69, 0, none⟩ = some (.bool a0_0) ∧ w'.cell? ⟨g69, 1, none⟩ = some (.slice Av68 l0_1.length cv68) ∧ w'.cell? ⟨g18, 0, none⟩ = some (.bool a0_0) ∧ w'.cell? ⟨g18, 1, none⟩ = some (.slice Al0_1 l0_1.length cl0_1)) (ds := []) #[false, false, false, false, false] (by kernel_rfl) rfl rfl ⟨H.out.cell 4 rfl 0 rfl, H.out.cell 4 rfl 1 rfl, H.out.cell 11 rfl 0 rfl, H.out.cell 11 rfl 1 rfl⟩ (fun hHeld => ?_)
  refine take_ (i := 0) (N := some 40) (v := ?_) (a' := ?_) #[true, false, false, false, false] rfl rfl (by kernel_rfl) (fun _ _ _ h => h) (Or.inl ⟨by rfl, ?_⟩) hHeld ?_ ?_
  rotate_left
  · rintro w' ⟨s0, s1, s2, s3⟩
    go_simp
    with_reducible rfl
  rotate_left
  · simp only [Act.put, List.setIfInBounds_toArray, List.set_cons_zero, List.set_cons_succ, i64_w, i32_w]
    rfl
  refine take_ (i := 1) (N := some 41) (v := ?_) (a' := ?_) #[true, true, false, false, false] rfl rfl (by kernel_rfl) (fun _ _ _ h => h) (Or.inl ⟨by rfl, ?_⟩) hHeld ?_ ?_
  rotate_left
  · rintro w' ⟨s0, s1, s2, s3⟩
    go_simp
    with_reducible rfl
  rotate_left
  · simp only [Act.put, List.setIfInBounds_toArray, List.set_cons_zero, List.set_cons_succ, i64_w, i32_w]
    rfl
  refine one_ (i := 2) (N := some 42) #[true, true, true, false, false] rfl rfl (by kernel_rfl) (by decide) (fun K hK => ?_)
  refine goes_ Try.func27 (by kernel_rfl) rfl #[.agg #[.bool a0_0, .slice Al0_1 l0_1.length cl0_1]] (by rfl) rfl rfl (by (try simp only [List.map_toArray, List.map_cons, List.map_nil]); first | done | rfl) ?_
  with_reducible refine (Cl.toBigInt a0_0 _ _ l0_1 _ (Kd.C_below hrl0_1 (Held.below (by repeat (first | exact H.out | refine Held.drewN ?_ _ | refine Held.drew ?_)))) hcl0_1 hll0_1).mono ?_
  rintro e w105 ⟨v106, rfl, ho, hb⟩
  refine ⟨_, rfl, ?_⟩
  obtain ⟨ov106, H'⟩ := Held.fresh (by repeat (first | exact H.out | refine Held.drewN ?_ _ | refine Held.drew ?_)) ho hb
  clear ho hb H
  have H := Aside0.mk H'
  clear H'
  obtain ⟨Av106, cv106, rfl⟩ := Kd.R_slice (H.out.rowAt 0 rfl)
  refine hK.out _ _ ⟨H.out.cell 5 rfl 0 rfl, H.out.cell 5 rfl 1 rfl, H.out.cell 12 rfl 0 rfl, H.out.cell 12 rfl 1 rfl⟩ (fun hHeld => ?_)
  clear hK K
  refine norm_ (a' := ?_) ?_ ?_
  rotate_left
  · show Act.put _ (some 42) _ = _
    simp only [Act.put, List.setIfInBounds_toArray, List.set_cons_zero, List.set_cons_succ, i64_w, i32_w]
    rfl
  refine one_ (i := 3) (N := some 43) #[true, true, true, true, false] rfl rfl (by kernel_rfl) (by decide) (fun K hK => ?_)
  refine goes_ Try.func29 (by kernel_rfl) rfl #[.agg #[.bool a0_0, .slice Av68 l0_1.length cv68], .agg #[.bool a0_0, .slice Av106 l0_1.length cv106]] (by rfl) rfl rfl (by (try simp only [List.map_toArray, List.map_cons, List.map_nil]); first | done | rfl) ?_
  with_reducible refine (Cl.eqBigInt a0_0 _ _ _ _ l0_1 _ (Held.reads (by repeat (first | exact H.out | refine Held.drewN ?_ _ | refine Held.drew ?_)) 6 rfl).2.2 (Held.reads (by repeat (first | exact H.out | refine Held.drewN ?_ _ | refine Held.drew ?_)) 6 rfl).2.1 (Held.reads (by repeat (first | exact H.out | refine Held.drewN ?_ _ | refine Held.drew ?_)) 0 rfl).2.2 (Held.reads (by repeat (first | exact H.out | refine Held.drewN ?_ _ | refine Held.drew ?_)) 0 rfl).2.1 hll0_1).mono ?_
  rintro e w107 ⟨rfl, hb⟩
  refine ⟨_, rfl, ?_⟩
  have H' := Aside0.mk (Held.grow (by repeat (first | exact H.out | refine Held.drewN ?_ _ | refine Held.drew ?_)) hb)
  clear H
  have H := H'
  clear H'
  clear hb
  refine hK.out _ _ ⟨H.out.cell 5 rfl 0 rfl, H.out.cell 5 rfl 1 rfl, H.out.cell 12 rfl 0 rfl, H.out.cell 12 rfl 1 rfl⟩ (fun hHeld => ?_)
  clear hK K
  refine norm_ (a' := ?_) ?_ ?_
  rotate_left
  · show Act.put _ (some 43) _ = _
    simp only [Act.put, List.setIfInBounds_toArray, List.set_cons_zero, List.set_cons_succ, i64_w, i32_w]
    rfl
  refine pure_ (i := 4) (N := some 44) (v := ?_) (a' := ?_) #[true, true, true, true, true] rfl rfl (by kernel_rfl) (fun _ _ _ h => h) (Or.inl ⟨by rfl, ?_⟩) ?_ ?_
  rotate_left
  · intro w'
    go_simp
    with_reducible rfl
  rotate_left
  · simp only [Act.put, List.setIfInBounds_toArray, List.set_cons_zero, List.set_cons_succ, i64_w, i32_w]
    rfl
  refine done_ (by kernel_rfl) ?_
  try go_wp2
  have H' := Aside0.mk (Held.drew (by repeat (first | exact H.out | refine Held.drewN ?_ _ | refine Held.drew ?_))); clear H; have H := H'; clear H'
  refine start_ (n := 5) (S := fun w' => w'.cell? ⟨g80, 0, none⟩ = some (.bool a1_0) ∧ w'.cell? ⟨g80, 1, none⟩ = some (.slice Av79 l1_1.length cv79) ∧ w'.cell? ⟨g20, 0, none⟩ = some (.bool a1_0) ∧ w'.cell? ⟨g20, 1, none⟩ = some (.slice Al1_1 l1_1.length cl1_1)) (ds := []) #[false, false, false, false, false] (by kernel_rfl) rfl rfl ⟨H.out.cell 3 rfl 0 rfl, H.out.cell 3 rfl 1 rfl, H.out.cell 11 rfl 0 rfl, H.out.cell 11 rfl 1 rfl⟩ (fun hHeld => ?_)
  refine take_ (i := 0) (N := some 45) (v := ?_) (a' := ?_) #[true, false, false, false, false] rfl rfl (by kernel_rfl) (fun _ _ _ h => h) (Or.inl ⟨by rfl, ?_⟩) hHeld ?_ ?_
  rotate_left
  · rintro w' ⟨s0, s1, s2, s3⟩
    go_simp
    with_reducible rfl
  rotate_left
  · simp only [Act.put, List.setIfInBounds_toArray, List.set_cons_zero, List.set_cons_succ, i64_w, i32_w]
    rfl
  refine take_ (i := 1) (N := some 46) (v := ?_) (a' := ?_) #[true, true, false, false, false] rfl rfl (by kernel_rfl) (fun _ _ _ h => h) (Or.inl ⟨by rfl, ?_⟩) hHeld ?_ ?_
  rotate_left
  · rintro w' ⟨s0, s1, s2, s3⟩
    go_simp
    with_reducible rfl
  rotate_left
  · simp only [Act.put, List.setIfInBounds_toArray, List.set_cons_zero, List.set_cons_succ, i64_w, i32_w]
    rfl
  refine one_ (i := 2) (N := some 47) #[true, true, true, false, false] rfl rfl (by kernel_rfl) (by decide) (fun K hK => ?_)
  refine goes_ Try.func27 (by kernel_rfl) rfl #[.agg #[.bool a1_0, .slice Al1_1 l1_1.length cl1_1]] (by rfl) rfl rfl (by (try simp only [List.map_toArray, List.map_cons, List.map_nil]); first | done | rfl) ?_
  with_reducible refine (Cl.toBigInt a1_0 _ _ l1_1 _ (Kd.C_below hrl1_1 (Held.below (by repeat (first | exact H.out | refine Held.drewN ?_ _ | refine Held.drew ?_)))) hcl1_1 hll1_1).mono ?_
  rintro e w108 ⟨v109, rfl, ho, hb⟩
  refine ⟨_, rfl, ?_⟩
  obtain ⟨ov109, H'⟩ := Held.fresh (by repeat (first | exact H.out | refine Held.drewN ?_ _ | refine Held.drew ?_)) ho hb
  clear ho hb H
  have H := Aside0.mk H'
  clear H'
  obtain ⟨Av109, cv109, rfl⟩ := Kd.R_slice (H.out.rowAt 0 rfl)
  refine hK.out _ _ ⟨H.out.cell 4 rfl 0 rfl, H.out.cell 4 rfl 1 rfl, H.out.cell 12 rfl 0 rfl, H.out.cell 12 rfl 1 rfl⟩ (fun hHeld => ?_)
  clear hK K
  refine norm_ (a' := ?_) ?_ ?_
  rotate_left
  · show Act.put _ (some 47) _ = _
    simp only [Act.put, List.setIfInBounds_toArray, List.set_cons_zero, List.set_cons_succ, i64_w, i32_w]
    rfl
  refine one_ (i := 3) (N := some 48) #[true, true, true, true, false] rfl rfl (by kernel_rfl) (by decide) (fun K hK => ?_)
  refine goes_ Try.func29 (by kernel_rfl) rfl #[.agg #[.bool a1_0, .slice Av79 l1_1.length cv79], .agg #[.bool a1_0, .slice Av109 l1_1.length cv109]] (by rfl) rfl rfl (by (try simp only [List.map_toArray, List.map_cons, List.map_nil]); first | done | rfl) ?_
  with_reducible refine (Cl.eqBigInt a1_0 _ _ _ _ l1_1 _ (Held.reads (by repeat (first | exact H.out | refine Held.drewN ?_ _ | refine Held.drew ?_)) 5 rfl).2.2 (Held.reads (by repeat (first | exact H.out | refine Held.drewN ?_ _ | refine Held.drew ?_)) 5 rfl).2.1 (Held.reads (by repeat (first | exact H.out | refine Held.drewN ?_ _ | refine Held.drew ?_)) 0 rfl).2.2 (Held.reads (by repeat (first | exact H.out | refine Held.drewN ?_ _ | refine Held.drew ?_)) 0 rfl).2.1 hll1_1).mono ?_
  rintro e w110 ⟨rfl, hb⟩
  refine ⟨_, rfl, ?_⟩
  have H' := Aside0.mk (Held.grow (by repeat (first | exact H.out | refine Held.drewN ?_ _ | refine Held.drew ?_)) hb)
  clear H
  have H := H'
  clear H'
  clear hb
  refine hK.out _ _ ⟨H.out.cell 4 rfl 0 rfl, H.out.cell 4 rfl 1 rfl, H.out.cell 12 rfl 0 rfl, H.out.cell 12 rfl 1 rfl⟩ (fun hHeld => ?_)
  clear hK K
  refine norm_ (a' := ?_) ?_ ?_
  rotate_left
  · show Act.put _ (some 48) _ = _
    simp only [Act.put, List.setIfInBounds_toArray, List.set_cons_zero, List.set_cons_succ, i64_w, i32_w]
    rfl
  refine pure_ (i := 4) (N := some 49) (v := ?_) (a' := ?_) #[true, true, true, true, true] rfl rfl (by kernel_rfl) (fun _ _ _ h => h) (Or.inl ⟨by rfl, ?_⟩) ?_ ?_
  rotate_left
  · intro w'
    go_simp
    with_reducible rfl
  rotate_left
  · simp only [Act.put, List.setIfInBounds_toArray, List.set_cons_zero, List.set_cons_succ, i64_w, i32_w]
    rfl
  refine done_ (by kernel_rfl) ?_
  have f111 := H.out.cell 6 rfl 0 rfl
  have f112 := H.out.cell 6 rfl 1 rfl
  have hd123 : decide (kadd (kadd 1 l0_1.length) l1_1.length < 0) = false := decide_eq_false (by unfold kadd; omega)
  have hd132 : decide (kadd 1 (rm2 a0_0 l0_1 a1_0 l1_1).length < 0) = false := decide_eq_false (by unfold kadd; omega)
  try go_wp2_with (first | ((with_reducible refine gate_callee (f := 32) rfl ?_); refine goesL_ (some 52) rfl rfl Try.func32 (by kernel_rfl) rfl #[.agg #[.bool a0_0, .slice Av68 l0_1.length cv68], .int .i64 1] rfl (by (try simp only [List.map_toArray, List.map_cons, List.map_nil]); first | done | rfl) ?_; clear f111 f112; (with_reducible refine (Cl.markBigInt a0_0 _ _ l0_1 1 _ _ (Held.below (by repeat (first | exact H.out | refine Held.drewN ?_ _ | refine Held.drew ?_))) (Held.rowAt (by repeat (first | exact H.out | refine Held.drewN ?_ _ | refine Held.drew ?_)) 7 rfl) hll0_1 (by decide) (by decide)).mono ?_); rintro e w113 ⟨rfl, ho, hb, hk⟩; refine ⟨_, rfl, ?_⟩; obtain ⟨o114, H'⟩ := Held.kept (by repeat (first | exact H.out | refine Held.drewN ?_ _ | refine Held.drew ?_)) 7 rfl ho hb hk; clear ho hb hk H; have H : Aside0 (Held w w113 [row (Kd.int .i64) 3 w.heap.size (.slice Av109 l1_1.length cv109) l1_1 ov109, row (Kd.int .i64) 3 w.heap.size (.slice Av106 l0_1.length cv106) l0_1 ov106, box g93 #[.bool (rm1 a0_0 l0_1 a1_0 l1_1), .slice Av92 (rm2 a0_0 l0_1 a1_0 l1_1).length cv92] 31, row (Kd.int .i64) 3 w.heap.size (.slice Av92 (rm2 a0_0 l0_1 a1_0 l1_1).length cv92) (rm2 a0_0 l0_1 a1_0 l1_1) ov92, box g80 #[.bool a1_0, .slice Av79 l1_1.length cv79] 31, row (Kd.int .i64) 3 w.heap.size (.slice Av79 l1_1.length cv79) l1_1 ov79, box g69 #[.bool a0_0, .slice Av68 l0_1.length cv68] 31, row (Kd.int .i64) 3 w.heap.size (.slice Av68 l0_1.length cv68) (mk 1 l0_1.length) o114, row (Kd.int .i64) 3 w.heap.size (.slice Av55 l0_1.length cv55) l0_1 ov55, row (Kd.int .i64) 3 w.heap.size (.slice Av56 l1_1.length cv56) l1_1 ov56, row (Kd.int .i64) 3 w.heap.size (.slice Av57 (rm2 a0_0 l0_1 a1_0 l1_1).length cv57) (rm2 a0_0 l0_1 a1_0 l1_1) ov57, box g58 #[.bool (rm1 a0_0 l0_1 a1_0 l1_1), .slice Av57 (rm2 a0_0 l0_1 a1_0 l1_1).length cv57] 31, box g20 #[.bool a1_0, .slice Al1_1 l1_1.length cl1_1] 28, box g18 #[.bool a0_0, .slice Al0_1 l0_1.length cl0_1] 28]) := ⟨H'⟩; clear H'; have f115 := H.out.cell 4 rfl 0 rfl; have f116 := H.out.cell 4 rfl 1 rfl; ) | ((with_reducible refine gate_callee (f := 32) rfl ?_); refine goesL_ (some 55) rfl rfl Try.func32 (by kernel_rfl) rfl #[.agg #[.bool a1_0, .slice Av79 l1_1.length cv79], .int .i64 (kadd 1 l0_1.length)] rfl (by (try simp only [List.map_toArray, List.map_cons, List.map_nil]); first | done | rfl) ?_; clear f115 f116; (with_reducible refine (Cl.markBigInt a1_0 _ _ l1_1 (kadd 1 l0_1.length) _ _ (Held.below (by repeat (first | exact H.out | refine Held.drewN ?_ _ | refine Held.drew ?_))) (Held.rowAt (by repeat (first | exact H.out | refine Held.drewN ?_ _ | refine Held.drew ?_)) 5 rfl) hll1_1 (by unfold kadd; omega) (by unfold kadd; omega)).mono ?_); rintro e w117 ⟨rfl, ho, hb, hk⟩; refine ⟨_, rfl, ?_⟩; obtain ⟨o118, H'⟩ := Held.kept (by repeat (first | exact H.out | refine Held.drewN ?_ _ | refine Held.drew ?_)) 5 rfl ho hb hk; clear ho hb hk H; have H : Aside0 (Held w w117 [row (Kd.int .i64) 3 w.heap.size (.slice Av109 l1_1.length cv109) l1_1 ov109, row (Kd.int .i64) 3 w.heap.size (.slice Av106 l0_1.length cv106) l0_1 ov106, box g93 #[.bool (rm1 a0_0 l0_1 a1_0 l1_1), .slice Av92 (rm2 a0_0 l0_1 a1_0 l1_1).length cv92] 31, row (Kd.int .i64) 3 w.heap.size (.slice Av92 (rm2 a0_0 l0_1 a1_0 l1_1).length cv92) (rm2 a0_0 l0_1 a1_0 l1_1) ov92, box g80 #[.bool a1_0, .slice Av79 l1_1.length cv79] 31, row (Kd.int .i64) 3 w.heap.size (.slice Av79 l1_1.length cv79) (mk (kadd 1 l0_1.length) l1_1.length) o118, box g69 #[.bool a0_0, .slice Av68 l0_1.length cv68] 31, row (Kd.int .i64) 3 w.heap.size (.slice Av68 l0_1.length cv68) (mk 1 l0_1.length) o114, row (Kd.int .i64) 3 w.heap.size (.slice Av55 l0_1.length cv55) l0_1 ov55, row (Kd.int .i64) 3 w.heap.size (.slice Av56 l1_1.length cv56) l1_1 ov56, row (Kd.int .i64) 3 w.heap.size (.slice Av57 (rm2 a0_0 l0_1 a1_0 l1_1).length cv57) (rm2 a0_0 l0_1 a1_0 l1_1) ov57, box g58 #[.bool (rm1 a0_0 l0_1 a1_0 l1_1), .slice Av57 (rm2 a0_0 l0_1 a1_0 l1_1).length cv57] 31, box g20 #[.bool a1_0, .slice Al1_1 l1_1.length cl1_1] 28, box g18 #[.bool a0_0, .slice Al0_1 l0_1.length cl0_1] 28]) := ⟨H'⟩; clear H'; have f119 := H.out.cell 2 rfl 0 rfl; have f120 := H.out.cell 2 rfl 1 rfl; have f121 := H.out.cell 11 rfl 0 rfl; have f122 := H.out.cell 11 rfl 1 rfl; ) | ((with_reducible refine gate_callee (f := 32) rfl ?_); refine goesL_ (some 66) rfl rfl Try.func32 (by kernel_rfl) rfl #[.agg #[.bool (rm1 a0_0 l0_1 a1_0 l1_1), .slice Av92 (rm2 a0_0 l0_1 a1_0 l1_1).length cv92], .int .i64 1] rfl (by (try simp only [List.map_toArray, List.map_cons, List.map_nil]); first | done | rfl) ?_; clear f125 f126; (with_reducible refine (Cl.markBigInt (rm1 a0_0 l0_1 a1_0 l1_1) _ _ (rm2 a0_0 l0_1 a1_0 l1_1) 1 _ _ (Held.below (by repeat (first | exact H.out | refine Held.drewN ?_ _ | refine Held.drew ?_))) (Held.rowAt (by repeat (first | exact H.out | refine Held.drewN ?_ _ | refine Held.drew ?_)) 3 rfl) (Cl.len0 hll0_1 hll1_1) (by decide) (by decide)).mono ?_); rintro e w127 ⟨rfl, ho, hb, hk⟩; refine ⟨_, rfl, ?_⟩; obtain ⟨o128, H'⟩ := Held.kept (by repeat (first | exact H.out | refine Held.drewN ?_ _ | refine Held.drew ?_)) 3 rfl ho hb hk; clear ho hb hk H; have H : Aside0 (Held w w127 [row (Kd.int .i64) 3 w.heap.size (.slice Av109 l1_1.length cv109) l1_1 ov109, row (Kd.int .i64) 3 w.heap.size (.slice Av106 l0_1.length cv106) l0_1 ov106, box g93 #[.bool (rm1 a0_0 l0_1 a1_0 l1_1), .slice Av92 (rm2 a0_0 l0_1 a1_0 l1_1).length cv92] 31, row (Kd.int .i64) 3 w.heap.size (.slice Av92 (rm2 a0_0 l0_1 a1_0 l1_1).length cv92) (mk 1 (rm2 a0_0 l0_1 a1_0 l1_1).length) o128, box g80 #[.bool a1_0, .slice Av79 l1_1.length cv79] 31, row (Kd.int .i64) 3 w.heap.size (.slice Av79 l1_1.length cv79) (mk (kadd 1 l0_1.length) l1_1.length) o118, box g69 #[.bool a0_0, .slice Av68 l0_1.length cv68] 31, row (Kd.int .i64) 3 w.heap.size (.slice Av68 l0_1.length cv68) (mk 1 l0_1.length) o114, row (Kd.int .i64) 3 w.heap.size (.slice Av55 l0_1.length cv55) l0_1 ov55, row (Kd.int .i64) 3 w.heap.size (.slice Av56 l1_1.length cv56) l1_1 ov56, row (Kd.int .i64) 3 w.heap.size (.slice Av57 (rm2 a0_0 l0_1 a1_0 l1_1).length cv57) (rm2 a0_0 l0_1 a1_0 l1_1) ov57, box g58 #[.bool (rm1 a0_0 l0_1 a1_0 l1_1), .slice Av57 (rm2 a0_0 l0_1 a1_0 l1_1).length cv57] 31, box g20 #[.bool a1_0, .slice Al1_1 l1_1.length cl1_1] 28, box g18 #[.bool a0_0, .slice Al0_1 l0_1.length cl0_1] 28]) := ⟨H'⟩; clear H'; have f129 := H.out.cell 2 rfl 0 rfl; have f130 := H.out.cell 2 rfl 1 rfl; ) | ((with_reducible refine gate_callee (f := 33) rfl ?_); refine goesL_ (some 69) rfl rfl Try.func33 (by kernel_rfl) rfl #[.agg #[.bool (rm1 a0_0 l0_1 a1_0 l1_1), .slice Av92 (rm2 a0_0 l0_1 a1_0 l1_1).length cv92], .int .i64 1] rfl (by (try simp only [List.map_toArray, List.map_cons, List.map_nil]); first | done | rfl) ?_; clear f129 f130; (with_reducible refine (Cl.heldBigInt (rm1 a0_0 l0_1 a1_0 l1_1) _ _ (rm2 a0_0 l0_1 a1_0 l1_1).length 1 _ (Held.reads (by repeat (first | exact H.out | refine Held.drewN ?_ _ | refine Held.drew ?_)) 3 rfl).2.2 (Held.reads (by repeat (first | exact H.out | refine Held.drewN ?_ _ | refine Held.drew ?_)) 3 rfl).2.1 (Cl.len0 hll0_1 hll1_1) (by decide) (by decide)).mono ?_); rintro e w131 ⟨rfl, hb⟩; refine ⟨_, rfl, ?_⟩; have H' := Aside0.mk (Held.grow (by repeat (first | exact H.out | refine Held.drewN ?_ _ | refine Held.drew ?_)) hb); clear H; have H := H'; clear H'; clear hb; ) | (go_at_call 29; clear f119 f120 f121 f122; (with_reducible refine (Cl.eqBigInt (rm1 a0_0 l0_1 a1_0 l1_1) _ _ _ _ (rm2 a0_0 l0_1 a1_0 l1_1) _ (Held.reads (by repeat (first | exact H.out | refine Held.drewN ?_ _ | refine Held.drew ?_)) 3 rfl).2.2 (Held.reads (by repeat (first | exact H.out | refine Held.drewN ?_ _ | refine Held.drew ?_)) 3 rfl).2.1 (Held.reads (by repeat (first | exact H.out | refine Held.drewN ?_ _ | refine Held.drew ?_)) 10 rfl).2.2 (Held.reads (by repeat (first | exact H.out | refine Held.drewN ?_ _ | refine Held.drew ?_)) 10 rfl).2.1 (Cl.len0 hll0_1 hll1_1)).mono ?_); rintro e w124 ⟨rfl, hb⟩; have H' := Aside0.mk (Held.grow (by repeat (first | exact H.out | refine Held.drewN ?_ _ | refine Held.drew ?_)) hb); clear H; have H := H'; clear H'; clear hb; have f125 := H.out.cell 2 rfl 0 rfl; have f126 := H.out.cell 2 rfl 1 rfl; ))
  have H' := Aside0.mk (Held.drew (by repeat (first | exact H.out | refine Held.drewN ?_ _ | refine Held.drew ?_))); clear H; have H := H'; clear H'
  refine start_ (n := 7) (S := fun w' => w'.cell? ⟨g18, 0, none⟩ = some (.bool a0_0) ∧ w'.cell? ⟨g18, 1, none⟩ = some (.slice Al0_1 l0_1.length cl0_1) ∧ w'.cell? ⟨g20, 0, none⟩ = some (.bool a1_0) ∧ w'.cell? ⟨g20, 1, none⟩ = some (.slice Al1_1 l1_1.length cl1_1)) (ds := []) #[false, false, false, false, false, false, false] (by kernel_rfl) rfl rfl ⟨H.out.cell 13 rfl 0 rfl, H.out.cell 13 rfl 1 rfl, H.out.cell 12 rfl 0 rfl, H.out.cell 12 rfl 1 rfl⟩ (fun hHeld => ?_)
  refine take_ (i := 0) (N := some 75) (v := ?_) (a' := ?_) #[true, false, false, false, false, false, false] rfl rfl (by kernel_rfl) (fun _ _ _ h => h) (Or.inl ⟨by rfl, ?_⟩) hHeld ?_ ?_
  rotate_left
  · rintro w' ⟨s0, s1, s2, s3⟩
    go_simp
    with_reducible rfl
  rotate_left
  · simp only [Act.put, List.setIfInBounds_toArray, List.set_cons_zero, List.set_cons_succ, i64_w, i32_w]
    rfl
  refine take_ (i := 2) (N := some 77) (v := ?_) (a' := ?_) #[true, false, true, false, false, false, false] rfl rfl (by kernel_rfl) (fun _ _ _ h => h) (Or.inl ⟨by rfl, ?_⟩) hHeld ?_ ?_
  rotate_left
  · rintro w' ⟨s0, s1, s2, s3⟩
    go_simp
    with_reducible rfl
  rotate_left
  · simp only [Act.put, List.setIfInBounds_toArray, List.set_cons_zero, List.set_cons_succ, i64_w, i32_w]
    rfl
  refine join_ (σ := (Option Addr × Nat × (Nat → Prop)) × (Option Addr × Nat × (Nat → Prop)) × (Option Addr × Nat × (Nat → Prop)) × Nat) 1 #[true, true, true, true, true, true, false] (fun s_ => [(76, .agg #[.bool a0_0, .slice s_.1.1 l0_1.length s_.1.2.1]), (78, .agg #[.bool a1_0, .slice s_.2.1.1 l1_1.length s_.2.1.2.1]), (79, .agg #[.bool (rm1 a0_0 l0_1 a1_0 l1_1), .slice s_.2.2.1.1 (rm2 a0_0 l0_1 a1_0 l1_1).length s_.2.2.1.2.1]), (13, .pointer (some ⟨s_.2.2.2, 0, none⟩))]) (fun s_ w' => Held w w' [row (Kd.int .i64) 3 w.heap.size (.slice s_.1.1 l0_1.length s_.1.2.1) l0_1 s_.1.2.2, row (Kd.int .i64) 3 w.heap.size (.slice s_.2.1.1 l1_1.length s_.2.1.2.1) l1_1 s_.2.1.2.2, row (Kd.int .i64) 3 w.heap.size (.slice s_.2.2.1.1 (rm2 a0_0 l0_1 a1_0 l1_1).length s_.2.2.1.2.1) (rm2 a0_0 l0_1 a1_0 l1_1) s_.2.2.1.2.2, box s_.2.2.2 #[.bool false, .slice none 0 0] 31, row (Kd.int .i64) 3 w.heap.size (.slice Av109 l1_1.length cv109) l1_1 ov109, row (Kd.int .i64) 3 w.heap.size (.slice Av106 l0_1.length cv106) l0_1 ov106, box g93 #[.bool (rm1 a0_0 l0_1 a1_0 l1_1), .slice Av92 (rm2 a0_0 l0_1 a1_0 l1_1).length cv92] 31, row (Kd.int .i64) 3 w.heap.size (.slice Av92 (rm2 a0_0 l0_1 a1_0 l1_1).length cv92) (mk 1 (rm2 a0_0 l0_1 a1_0 l1_1).length) o128, box g80 #[.bool a1_0, .slice Av79 l1_1.length cv79] 31, row (Kd.int .i64) 3 w.heap.size (.slice Av79 l1_1.length cv79) (mk (kadd 1 l0_1.length) l1_1.length) o118, box g69 #[.bool a0_0, .slice Av68 l0_1.length cv68] 31, row (Kd.int .i64) 3 w.heap.size (.slice Av68 l0_1.length cv68) (mk 1 l0_1.length) o114, row (Kd.int .i64) 3 w.heap.size (.slice Av55 l0_1.length cv55) l0_1 ov55, row (Kd.int .i64) 3 w.heap.size (.slice Av56 l1_1.length cv56) l1_1 ov56, row (Kd.int .i64) 3 w.heap.size (.slice Av57 (rm2 a0_0 l0_1 a1_0 l1_1).length cv57) (rm2 a0_0 l0_1 a1_0 l1_1) ov57, box g58 #[.bool (rm1 a0_0 l0_1 a1_0 l1_1), .slice Av57 (rm2 a0_0 l0_1 a1_0 l1_1).length cv57] 31, box g20 #[.bool a1_0, .slice Al1_1 l1_1.length cl1_1] 28, box g18 #[.bool a0_0, .slice Al0_1 l0_1.length cl0_1] 28]) ?_ ?_
  rotate_left
  · intro hCont
    refine two_ (i := 1) (j := 5) (Ni := some 76) (Nj := some 13) #[true, true, true, false, false, false, false] #[true, false, true, false, false, true, false] rfl rfl rfl rfl (by kernel_rfl) (by decide) (by decide) (fun K hK => ?_) (fun K hK => ?_)
    · skip
      refine goes_ Try.func27 (by kernel_rfl) rfl #[.agg #[.bool a0_0, .slice Al0_1 l0_1.length cl0_1]] (by rfl) rfl rfl (by (try simp only [List.map_toArray, List.map_cons, List.map_nil]); first | done | rfl) ?_
      with_reducible refine (Cl.toBigInt a0_0 _ _ l0_1 _ (Kd.C_below hrl0_1 (Held.below (by repeat (first | exact H.out | refine Held.drewN ?_ _ | refine Held.drew ?_)))) hcl0_1 hll0_1).mono ?_
      rintro e w133 ⟨v134, rfl, ho, hb⟩
      refine ⟨_, rfl, ?_⟩
      obtain ⟨ov134, H'⟩ := Held.fresh (by repeat (first | exact H.out | refine Held.drewN ?_ _ | refine Held.drew ?_)) ho hb
      clear ho hb H
      have H := Aside0.mk H'
      clear H'
      obtain ⟨Av134, cv134, rfl⟩ := Kd.R_slice (H.out.rowAt 0 rfl)
      refine hK.out _ _ ⟨H.out.cell 14 rfl 0 rfl, H.out.cell 14 rfl 1 rfl, H.out.cell 13 rfl 0 rfl, H.out.cell 13 rfl 1 rfl⟩ (fun hHeld => ?_)
      clear hK K
      refine norm_ (a' := ?_) ?_ ?_
      rotate_left
      · show Act.put _ (some 76) _ = _
        simp only [Act.put, List.setIfInBounds_toArray, List.set_cons_zero, List.set_cons_succ, i64_w, i32_w]
        rfl
      refine two_ (i := 3) (j := 5) (Ni := some 78) (Nj := some 13) #[true, true, true, true, false, false, false] #[true, true, true, false, false, true, false] rfl rfl rfl rfl (by kernel_rfl) (by decide) (by decide) (fun K hK => ?_) (fun K hK => ?_)
      · skip
        refine goes_ Try.func27 (by kernel_rfl) rfl #[.agg #[.bool a1_0, .slice Al1_1 l1_1.length cl1_1]] (by rfl) rfl rfl (by (try simp only [List.map_toArray, List.map_cons, List.map_nil]); first | done | rfl) ?_
        with_reducible refine (Cl.toBigInt a1_0 _ _ l1_1 _ (Kd.C_below hrl1_1 (Held.below (by repeat (first | exact H.out | refine Held.drewN ?_ _ | refine Held.drew ?_)))) hcl1_1 hll1_1).mono ?_
        rintro e w135 ⟨v136, rfl, ho, hb⟩
        refine ⟨_, rfl, ?_⟩
        obtain ⟨ov136, H'⟩ := Held.fresh (by repeat (first | exact H.out | refine Held.drewN ?_ _ | refine Held.drew ?_)) ho hb
        clear ho hb H
        have H := Aside0.mk H'
        clear H'
        obtain ⟨Av136, cv136, rfl⟩ := Kd.R_slice (H.out.rowAt 0 rfl)
        refine hK.out _ _ ⟨H.out.cell 15 rfl 0 rfl, H.out.cell 15 rfl 1 rfl, H.out.cell 14 rfl 0 rfl, H.out.cell 14 rfl 1 rfl⟩ (fun hHeld => ?_)
        clear hK K
        refine norm_ (a' := ?_) ?_ ?_
        rotate_left
        · show Act.put _ (some 78) _ = _
          simp only [Act.put, List.setIfInBounds_toArray, List.set_cons_zero, List.set_cons_succ, i64_w, i32_w]
          rfl
        refine two_ (i := 4) (j := 5) (Ni := some 79) (Nj := some 13) #[true, true, true, true, true, false, false] #[true, true, true, true, false, true, false] rfl rfl rfl rfl (by kernel_rfl) (by decide) (by decide) (fun K hK => ?_) (fun K hK => ?_)
        · skip
          refine goes_ Try.func39 (by kernel_rfl) rfl #[.agg #[.bool a0_0, .slice Av134 l0_1.length cv134], .agg #[.bool a1_0, .slice Av136 l1_1.length cv136]] (by rfl) rfl rfl (by (try simp only [List.map_toArray, List.map_cons, List.map_nil]); first | done | rfl) ?_
          with_reducible refine (Cl.impl a0_0 _ _ l0_1 a1_0 _ _ l1_1 _ (Held.reads (by repeat (first | exact H.out | refine Held.drewN ?_ _ | refine Held.drew ?_)) 1 rfl).2.2 (Held.reads (by repeat (first | exact H.out | refine Held.drewN ?_ _ | refine Held.drew ?_)) 1 rfl).2.1 (Held.reads (by repeat (first | exact H.out | refine Held.drewN ?_ _ | refine Held.drew ?_)) 0 rfl).2.2 (Held.reads (by repeat (first | exact H.out | refine Held.drewN ?_ _ | refine Held.drew ?_)) 0 rfl).2.1 hll0_1 hll1_1).mono ?_
          rintro e w137 ⟨v138, rfl, ho, hb⟩
          refine ⟨_, rfl, ?_⟩
          obtain ⟨ov138, H'⟩ := Held.fresh (by repeat (first | exact H.out | refine Held.drewN ?_ _ | refine Held.drew ?_)) ho hb
          clear ho hb H
          have H := Aside0.mk H'
          clear H'
          obtain ⟨Av138, cv138, rfl⟩ := Kd.R_slice (H.out.rowAt 0 rfl)
          refine hK.out _ _ ⟨H.out.cell 16 rfl 0 rfl, H.out.cell 16 rfl 1 rfl, H.out.cell 15 rfl 0 rfl, H.out.cell 15 rfl 1 rfl⟩ (fun hHeld => ?_)
          clear hK K
          refine norm_ (a' := ?_) ?_ ?_
          rotate_left
          · show Act.put _ (some 79) _ = _
            simp only [Act.put, List.setIfInBounds_toArray, List.set_cons_zero, List.set_cons_succ, i64_w, i32_w]
            rfl
          refine one_ (i := 5) (N := some 13) #[true, true, true, true, true, true, false] rfl rfl (by kernel_rfl) (by decide) (fun K hK => ?_)
          refine box_step (by rfl) (N := 13) ?hd (cs := #[.bool false, .slice none 0 0]) (t := 31) ?hr ?_
          (case hd => rfl)
          (case hr => first | (go_simp; done) | (go_simp; rfl))
          intro g139 hg w140 hbox hb
          have H' := Aside0.mk (Held.boxed (by repeat (first | exact H.out | refine Held.drewN ?_ _ | refine Held.drew ?_)) hg hbox hb); clear H; have H := H'; clear H'
          clear hbox hg hb
          refine hK.out _ _ ⟨H.out.cell 17 rfl 0 rfl, H.out.cell 17 rfl 1 rfl, H.out.cell 16 rfl 0 rfl, H.out.cell 16 rfl 1 rfl⟩ (fun hHeld => ?_)
          clear hK K
          refine norm_ (a' := ?_) ?_ ?_
          rotate_left
          · show Act.put _ (some 13) _ = _
            simp only [Act.put, List.setIfInBounds_toArray, List.set_cons_zero, List.set_cons_succ, i64_w, i32_w]
            rfl
          exact norm_ (by simp only [putAll, Act.put, List.setIfInBounds_toArray, List.set_cons_zero, List.set_cons_succ]) (hCont ((Av134, cv134, ov134), (Av136, cv136, ov136), (Av138, cv138, ov138), g139) _ (Held.pick H.out [3, 2, 1, 0, 4, 5, 6, 7, 8, 9, 10, 11, 12, 13, 14, 15, 16, 17] (by decide) rfl))
        · skip
          refine box_step (by rfl) (N := 13) ?hd (cs := #[.bool false, .slice none 0 0]) (t := 31) ?hr ?_
          (case hd => rfl)
          (case hr => first | (go_simp; done) | (go_simp; rfl))
          intro g141 hg w142 hbox hb
          have H' := Aside0.mk (Held.boxed (by repeat (first | exact H.out | refine Held.drewN ?_ _ | refine Held.drew ?_)) hg hbox hb); clear H; have H := H'; clear H'
          clear hbox hg hb
          refine hK.out _ _ ⟨H.out.cell 16 rfl 0 rfl, H.out.cell 16 rfl 1 rfl, H.out.cell 15 rfl 0 rfl, H.out.cell 15 rfl 1 rfl⟩ (fun hHeld => ?_)
          clear hK K
          refine norm_ (a' := ?_) ?_ ?_
          rotate_left
          · show Act.put _ (some 13) _ = _
            simp only [Act.put, List.setIfInBounds_toArray, List.set_cons_zero, List.set_cons_succ, i64_w, i32_w]
            rfl
          refine one_ (i := 4) (N := some 79) #[true, true, true, true, true, true, false] rfl rfl (by kernel_rfl) (by decide) (fun K hK => ?_)
          refine goes_ Try.func39 (by kernel_rfl) rfl #[.agg #[.bool a0_0, .slice Av134 l0_1.length cv134], .agg #[.bool a1_0, .slice Av136 l1_1.length cv136]] (by rfl) rfl rfl (by (try simp only [List.map_toArray, List.map_cons, List.map_nil]); first | done | rfl) ?_
          with_reducible refine (Cl.impl a0_0 _ _ l0_1 a1_0 _ _ l1_1 _ (Held.reads (by repeat (first | exact H.out | refine Held.drewN ?_ _ | refine Held.drew ?_)) 2 rfl).2.2 (Held.reads (by repeat (first | exact H.out | refine Held.drewN ?_ _ | refine Held.drew ?_)) 2 rfl).2.1 (Held.reads (by repeat (first | exact H.out | refine Held.drewN ?_ _ | refine Held.drew ?_)) 1 rfl).2.2 (Held.reads (by repeat (first | exact H.out | refine Held.drewN ?_ _ | refine Held.drew ?_)) 1 rfl).2.1 hll0_1 hll1_1).mono ?_
          rintro e w143 ⟨v144, rfl, ho, hb⟩
          refine ⟨_, rfl, ?_⟩
          obtain ⟨ov144, H'⟩ := Held.fresh (by repeat (first | exact H.out | refine Held.drewN ?_ _ | refine Held.drew ?_)) ho hb
          clear ho hb H
          have H := Aside0.mk H'
          clear H'
          obtain ⟨Av144, cv144, rfl⟩ := Kd.R_slice (H.out.rowAt 0 rfl)
          refine hK.out _ _ ⟨H.out.cell 17 rfl 0 rfl, H.out.cell 17 rfl 1 rfl, H.out.cell 16 rfl 0 rfl, H.out.cell 16 rfl 1 rfl⟩ (fun hHeld => ?_)
          clear hK K
          refine norm_ (a' := ?_) ?_ ?_
          rotate_left
          · show Act.put _ (some 79) _ = _
            simp only [Act.put, List.setIfInBounds_toArray, List.set_cons_zero, List.set_cons_succ, i64_w, i32_w]
            rfl
          exact norm_ (by simp only [putAll, Act.put, List.setIfInBounds_toArray, List.set_cons_zero, List.set_cons_succ]) (hCont ((Av134, cv134, ov134), (Av136, cv136, ov136), (Av144, cv144, ov144), g141) _ (Held.pick H.out [3, 2, 0, 1, 4, 5, 6, 7, 8, 9, 10, 11, 12, 13, 14, 15, 16, 17] (by decide) rfl))
      · skip
        refine box_step (by rfl) (N := 13) ?hd (cs := #[.bool false, .slice none 0 0]) (t := 31) ?hr ?_
        (case hd => rfl)
        (case hr => first | (go_simp; done) | (go_simp; rfl))
        intro g145 hg w146 hbox hb
        have H' := Aside0.mk (Held.boxed (by repeat (first | exact H.out | refine Held.drewN ?_ _ | refine Held.drew ?_)) hg hbox hb); clear H; have H := H'; clear H'
        clear hbox hg hb
        refine hK.out _ _ ⟨H.out.cell 15 rfl 0 rfl, H.out.cell 15 rfl 1 rfl, H.out.cell 14 rfl 0 rfl, H.out.cell 14 rfl 1 rfl⟩ (fun hHeld => ?_)
        clear hK K
        refine norm_ (a' := ?_) ?_ ?_
        rotate_left
        · show Act.put _ (some 13) _ = _
          simp only [Act.put, List.setIfInBounds_toArray, List.set_cons_zero, List.set_cons_succ, i64_w, i32_w]
          rfl
        refine one_ (i := 3) (N := some 78) #[true, true, true, true, false, true, false] rfl rfl (by kernel_rfl) (by decide) (fun K hK => ?_)
        refine goes_ Try.func27 (by kernel_rfl) rfl #[.agg #[.bool a1_0, .slice Al1_1 l1_1.length cl1_1]] (by rfl) rfl rfl (by (try simp only [List.map_toArray, List.map_cons, List.map_nil]); first | done | rfl) ?_
        with_reducible refine (Cl.toBigInt a1_0 _ _ l1_1 _ (Kd.C_below hrl1_1 (Held.below (by repeat (first | exact H.out | refine Held.drewN ?_ _ | refine Held.drew ?_)))) hcl1_1 hll1_1).mono ?_
        rintro e w147 ⟨v148, rfl, ho, hb⟩
        refine ⟨_, rfl, ?_⟩
        obtain ⟨ov148, H'⟩ := Held.fresh (by repeat (first | exact H.out | refine Held.drewN ?_ _ | refine Held.drew ?_)) ho hb
        clear ho hb H
        have H := Aside0.mk H'
        clear H'
        obtain ⟨Av148, cv148, rfl⟩ := Kd.R_slice (H.out.rowAt 0 rfl)
        refine hK.out _ _ ⟨H.out.cell 16 rfl 0 rfl, H.out.cell 16 rfl 1 rfl, H.out.cell 15 rfl 0 rfl, H.out.cell 15 rfl 1 rfl⟩ (fun hHeld => ?_)
        clear hK K
        refine norm_ (a' := ?_) ?_ ?_
        rotate_left
        · show Act.put _ (some 78) _ = _
          simp only [Act.put, List.setIfInBounds_toArray, List.set_cons_zero, List.set_cons_succ, i64_w, i32_w]
          rfl
        refine one_ (i := 4) (N := some 79) #[true, true, true, true, true, true, false] rfl rfl (by kernel_rfl) (by decide) (fun K hK => ?_)
        refine goes_ Try.func39 (by kernel_rfl) rfl #[.agg #[.bool a0_0, .slice Av134 l0_1.length cv134], .agg #[.bool a1_0, .slice Av148 l1_1.length cv148]] (by rfl) rfl rfl (by (try simp only [List.map_toArray, List.map_cons, List.map_nil]); first | done | rfl) ?_
        with_reducible refine (Cl.impl a0_0 _ _ l0_1 a1_0 _ _ l1_1 _ (Held.reads (by repeat (first | exact H.out | refine Held.drewN ?_ _ | refine Held.drew ?_)) 2 rfl).2.2 (Held.reads (by repeat (first | exact H.out | refine Held.drewN ?_ _ | refine Held.drew ?_)) 2 rfl).2.1 (Held.reads (by repeat (first | exact H.out | refine Held.drewN ?_ _ | refine Held.drew ?_)) 0 rfl).2.2 (Held.reads (by repeat (first | exact H.out | refine Held.drewN ?_ _ | refine Held.drew ?_)) 0 rfl).2.1 hll0_1 hll1_1).mono ?_
        rintro e w149 ⟨v150, rfl, ho, hb⟩
        refine ⟨_, rfl, ?_⟩
        obtain ⟨ov150, H'⟩ := Held.fresh (by repeat (first | exact H.out | refine Held.drewN ?_ _ | refine Held.drew ?_)) ho hb
        clear ho hb H
        have H := Aside0.mk H'
        clear H'
        obtain ⟨Av150, cv150, rfl⟩ := Kd.R_slice (H.out.rowAt 0 rfl)
        refine hK.out _ _ ⟨H.out.cell 17 rfl 0 rfl, H.out.cell 17 rfl 1 rfl, H.out.cell 16 rfl 0 rfl, H.out.cell 16 rfl 1 rfl⟩ (fun hHeld => ?_)
        clear hK K
        refine norm_ (a' := ?_) ?_ ?_
        rotate_left
        · show Act.put _ (some 79) _ = _
          simp only [Act.put, List.setIfInBounds_toArray, List.set_cons_zero, List.set_cons_succ, i64_w, i32_w]
          rfl
        exact norm_ (by simp only [putAll, Act.put, List.setIfInBounds_toArray, List.set_cons_zero, List.set_cons_succ]) (hCont ((Av134, cv134, ov134), (Av148, cv148, ov148), (Av150, cv150, ov150), g145) _ (Held.pick H.out [3, 1, 0, 2, 4, 5, 6, 7, 8, 9, 10, 11, 12, 13, 14, 15, 16, 17] (by decide) rfl))
    · skip
      refine box_step (by rfl) (N := 13) ?hd (cs := #[.bool false, .slice none 0 0]) (t := 31) ?hr ?_
      (case hd => rfl)
      (case hr => first | (go_simp; done) | (go_simp; rfl))
      intro g151 hg w152 hbox hb
      have H' := Aside0.mk (Held.boxed (by repeat (first | exact H.out | refine Held.drewN ?_ _ | refine Held.drew ?_)) hg hbox hb); clear H; have H := H'; clear H'
      clear hbox hg hb
      refine hK.out _ _ ⟨H.out.cell 14 rfl 0 rfl, H.out.cell 14 rfl 1 rfl, H.out.cell 13 rfl 0 rfl, H.out.cell 13 rfl 1 rfl⟩ (fun hHeld => ?_)
      clear hK K
      refine norm_ (a' := ?_) ?_ ?_
      rotate_left
      · show Act.put _ (some 13) _ = _
        simp only [Act.put, List.setIfInBounds_toArray, List.set_cons_zero, List.set_cons_succ, i64_w, i32_w]
        rfl
      refine one_ (i := 1) (N := some 76) #[true, true, true, false, false, true, false] rfl rfl (by kernel_rfl) (by decide) (fun K hK => ?_)
      refine goes_ Try.func27 (by kernel_rfl) rfl #[.agg #[.bool a0_0, .slice Al0_1 l0_1.length cl0_1]] (by rfl) rfl rfl (by (try simp only [List.map_toArray, List.map_cons, List.map_nil]); first | done | rfl) ?_
      with_reducible refine (Cl.toBigInt a0_0 _ _ l0_1 _ (Kd.C_below hrl0_1 (Held.below (by repeat (first | exact H.out | refine Held.drewN ?_ _ | refine Held.drew ?_)))) hcl0_1 hll0_1).mono ?_
      rintro e w153 ⟨v154, rfl, ho, hb⟩
      refine ⟨_, rfl, ?_⟩
      obtain ⟨ov154, H'⟩ := Held.fresh (by repeat (first | exact H.out | refine Held.drewN ?_ _ | refine Held.drew ?_)) ho hb
      clear ho hb H
      have H := Aside0.mk H'
      clear H'
      obtain ⟨Av154, cv154, rfl⟩ := Kd.R_slice (H.out.rowAt 0 rfl)
      refine hK.out _ _ ⟨H.out.cell 15 rfl 0 rfl, H.out.cell 15 rfl 1 rfl, H.out.cell 14 rfl 0 rfl, H.out.cell 14 rfl 1 rfl⟩ (fun hHeld => ?_)
      clear hK K
      refine norm_ (a' := ?_) ?_ ?_
      rotate_left
      · show Act.put _ (some 76) _ = _
        simp only [Act.put, List.setIfInBounds_toArray, List.set_cons_zero, List.set_cons_succ, i64_w, i32_w]
        rfl
      refine one_ (i := 3) (N := some 78) #[true, true, true, true, false, true, false] rfl rfl (by kernel_rfl) (by decide) (fun K hK => ?_)
      refine goes_ Try.func27 (by kernel_rfl) rfl #[.agg #[.bool a1_0, .slice Al1_1 l1_1.length cl1_1]] (by rfl) rfl rfl (by (try simp only [List.map_toArray, List.map_cons, List.map_nil]); first | done | rfl) ?_
      with_reducible refine (Cl.toBigInt a1_0 _ _ l1_1 _ (Kd.C_below hrl1_1 (Held.below (by repeat (first | exact H.out | refine Held.drewN ?_ _ | refine Held.drew ?_)))) hcl1_1 hll1_1).mono ?_
      rintro e w155 ⟨v156, rfl, ho, hb⟩
      refine ⟨_, rfl, ?_⟩
      obtain ⟨ov156, H'⟩ := Held.fresh (by repeat (first | exact H.out | refine Held.drewN ?_ _ | refine Held.drew ?_)) ho hb
      clear ho hb H
      have H := Aside0.mk H'
      clear H'
      obtain ⟨Av156, cv156, rfl⟩ := Kd.R_slice (H.out.rowAt 0 rfl)
      refine hK.out _ _ ⟨H.out.cell 16 rfl 0 rfl, H.out.cell 16 rfl 1 rfl, H.out.cell 15 rfl 0 rfl, H.out.cell 15 rfl 1 rfl⟩ (fun hHeld => ?_)
      clear hK K
      refine norm_ (a' := ?_) ?_ ?_
      rotate_left
      · show Act.put _ (some 78) _ = _
        simp only [Act.put, List.setIfInBounds_toArray, List.set_cons_zero, List.set_cons_succ, i64_w, i32_w]
        rfl
      refine one_ (i := 4) (N := some 79) #[true, true, true, true, true, true, false] rfl rfl (by kernel_rfl) (by decide) (fun K hK => ?_)
      refine goes_ Try.func39 (by kernel_rfl) rfl #[.agg #[.bool a0_0, .slice Av154 l0_1.length cv154], .agg #[.bool a1_0, .slice Av156 l1_1.length cv156]] (by rfl) rfl rfl (by (try simp only [List.map_toArray, List.map_cons, List.map_nil]); first | done | rfl) ?_
      with_reducible refine (Cl.impl a0_0 _ _ l0_1 a1_0 _ _ l1_1 _ (Held.reads (by repeat (first | exact H.out | refine Held.drewN ?_ _ | refine Held.drew ?_)) 1 rfl).2.2 (Held.reads (by repeat (first | exact H.out | refine Held.drewN ?_ _ | refine Held.drew ?_)) 1 rfl).2.1 (Held.reads (by repeat (first | exact H.out | refine Held.drewN ?_ _ | refine Held.drew ?_)) 0 rfl).2.2 (Held.reads (by repeat (first | exact H.out | refine Held.drewN ?_ _ | refine Held.drew ?_)) 0 rfl).2.1 hll0_1 hll1_1).mono ?_
      rintro e w157 ⟨v158, rfl, ho, hb⟩
      refine ⟨_, rfl, ?_⟩
      obtain ⟨ov158, H'⟩ := Held.fresh (by repeat (first | exact H.out | refine Held.drewN ?_ _ | refine Held.drew ?_)) ho hb
      clear ho hb H
      have H := Aside0.mk H'
      clear H'
      obtain ⟨Av158, cv158, rfl⟩ := Kd.R_slice (H.out.rowAt 0 rfl)
      refine hK.out _ _ ⟨H.out.cell 17 rfl 0 rfl, H.out.cell 17 rfl 1 rfl, H.out.cell 16 rfl 0 rfl, H.out.cell 16 rfl 1 rfl⟩ (fun hHeld => ?_)
      clear hK K
      refine norm_ (a' := ?_) ?_ ?_
      rotate_left
      · show Act.put _ (some 79) _ = _
        simp only [Act.put, List.setIfInBounds_toArray, List.set_cons_zero, List.set_cons_succ, i64_w, i32_w]
        rfl
      exact norm_ (by simp only [putAll, Act.put, List.setIfInBounds_toArray, List.set_cons_zero, List.set_cons_succ]) (hCont ((Av154, cv154, ov154), (Av156, cv156, ov156), (Av158, cv158, ov158), g151) _ (Held.pick H.out [2, 1, 0, 3, 4, 5, 6, 7, 8, 9, 10, 11, 12, 13, 14, 15, 16, 17] (by decide) rfl))
  rintro ⟨⟨Av160, cv160, ov160⟩, ⟨Av161, cv161, ov161⟩, ⟨Av162, cv162, ov162⟩, g163⟩ w164 hF
  clear hHeld H
  have H := Aside0.mk hF
  clear hF
  refine norm_ (a' := ?_) ?_ ?_
  rotate_left
  · simp only [putAll, Act.put, List.setIfInBounds_toArray, List.set_cons_zero, List.set_cons_succ]
    rfl
  refine one_ (i := 6) (N := none) #[true, true, true, true, true, true, true] rfl rfl (by kernel_rfl) (by decide) (fun K hK => ?_)
  have f166 := H.out.cell 3 rfl 0 rfl
  have f167 := H.out.frozen 3 rfl 0
  have f168 := H.out.cell 3 rfl 1 rfl
  have f169 := H.out.frozen 3 rfl 1
  refine Held.store_step H.out 3 rfl [.bool (rm1 a0_0 l0_1 a1_0 l1_1), .slice Av162 (rm2 a0_0 l0_1 a1_0 l1_1).length cv162] (by rfl) rfl ?hr rfl rfl ?_
  (case hr => first | (go_simp; done) | (go_simp; rfl))
  clear H
  intro w165 H'
  have H := Aside0.mk H'
  clear H'
  clear f166 f167 f168 f169
  refine hK.out _ _ ⟨H.out.cell 17 rfl 0 rfl, H.out.cell 17 rfl 1 rfl, H.out.cell 16 rfl 0 rfl, H.out.cell 16 rfl 1 rfl⟩ (fun hHeld => ?_)
  clear hK K hHeld
  refine done_ (by kernel_rfl) ?_
  have f170 := H.out.cell 3 rfl 0 rfl
  have f171 := H.out.cell 3 rfl 1 rfl
  have f172 := H.out.cell 15 rfl 0 rfl
  have f173 := H.out.cell 15 rfl 1 rfl
  have hd178 : decide (kadd 1 (rm2 a0_0 l0_1 a1_0 l1_1).length < 0) = false := decide_eq_false (by unfold kadd; omega)
  try go_wp2_with (first | ((with_reducible refine gate_callee (f := 29) rfl ?_); refine goesL_ (some 82) rfl rfl Try.func29 (by kernel_rfl) rfl #[.agg #[.bool (rm1 a0_0 l0_1 a1_0 l1_1), .slice Av162 (rm2 a0_0 l0_1 a1_0 l1_1).length cv162], .agg #[.bool (rm1 a0_0 l0_1 a1_0 l1_1), .slice Av57 (rm2 a0_0 l0_1 a1_0 l1_1).length cv57]] rfl (by (try simp only [List.map_toArray, List.map_cons, List.map_nil]); first | done | rfl) ?_; clear f170 f171 f172 f173; (with_reducible refine (Cl.eqBigInt (rm1 a0_0 l0_1 a1_0 l1_1) _ _ _ _ (rm2 a0_0 l0_1 a1_0 l1_1) _ (Held.reads (by repeat (first | exact H.out | refine Held.drewN ?_ _ | refine Held.drew ?_)) 2 rfl).2.2 (Held.reads (by repeat (first | exact H.out | refine Held.drewN ?_ _ | refine Held.drew ?_)) 2 rfl).2.1 (Held.reads (by repeat (first | exact H.out | refine Held.drewN ?_ _ | refine Held.drew ?_)) 14 rfl).2.2 (Held.reads (by repeat (first | exact H.out | refine Held.drewN ?_ _ | refine Held.drew ?_)) 14 rfl).2.1 (Cl.len0 hll0_1 hll1_1)).mono ?_); rintro e w174 ⟨rfl, hb⟩; refine ⟨_, rfl, ?_⟩; have H' := Aside0.mk (Held.grow (by repeat (first | exact H.out | refine Held.drewN ?_ _ | refine Held.drew ?_)) hb); clear H; have H := H'; clear H'; clear hb; have f175 := H.out.cell 6 rfl 0 rfl; have f176 := H.out.cell 6 rfl 1 rfl; ) | ((with_reducible refine gate_callee (f := 33) rfl ?_); refine goesL_ (some 86) rfl rfl Try.func33 (by kernel_rfl) rfl #[.agg #[.bool (rm1 a0_0 l0_1 a1_0 l1_1), .slice Av92 (rm2 a0_0 l0_1 a1_0 l1_1).length cv92], .int .i64 1] rfl (by (try simp only [List.map_toArray, List.map_cons, List.map_nil]); first | done | rfl) ?_; clear f175 f176; (with_reducible refine (Cl.heldBigInt (rm1 a0_0 l0_1 a1_0 l1_1) _ _ (rm2 a0_0 l0_1 a1_0 l1_1).length 1 _ (Held.reads (by repeat (first | exact H.out | refine Held.drewN ?_ _ | refine Held.drew ?_)) 7 rfl).2.2 (Held.reads (by repeat (first | exact H.out | refine Held.drewN ?_ _ | refine Held.drew ?_)) 7 rfl).2.1 (Cl.len0 hll0_1 hll1_1) (by decide) (by decide)).mono ?_); rintro e w177 ⟨rfl, hb⟩; refine ⟨_, rfl, ?_⟩; have H' := Aside0.mk (Held.grow (by repeat (first | exact H.out | refine Held.drewN ?_ _ | refine Held.drew ?_)) hb); clear H; have H := H'; clear H'; clear hb; ))
  go_ret
  exact ⟨rfl, Held.below (by repeat (first | exact H.out | refine Held.drewN ?_ _ | refine Held.drew ?_))⟩

theorem _root_.Go.Proofs.Ytmnahdoomnbdoaa.PFnExactBigIntAdd.laws_FnExactBigIntAdd.calls (a0_0 : Bool) (Al0_1 : Option Addr) (cl0_1 : Nat) (l0_1 : List Int) (a1_0 : Bool) (Al1_1 : Option Addr) (cl1_1 : Nat) (l1_1 : List Int) (w : World) (hrl0_1 : Kd.C (Kd.int .i64) w Al0_1 l0_1.length l0_1) (hcl0_1 : l0_1.length ≤ cl0_1) (hrl1_1 : Kd.C (Kd.int .i64) w Al1_1 l1_1.length l1_1) (hcl1_1 : l1_1.length ≤ cl1_1) (h : laws_FnExactBigIntAdd.f a0_0 l0_1 a1_0 l1_1 = some true) :
    Calls Try.prog 10 #[.agg #[.bool a0_0, .slice Al0_1 l0_1.length cl0_1], .agg #[.bool a1_0, .slice Al1_1 l1_1.length cl1_1]] w fun e w' => e = .returned (.bool true) ∧ Below w.heap.size w w' := by
  unfold laws_FnExactBigIntAdd.f at h
  split at h
  · rename_i hg
    obtain ⟨⟨_, ⟨_, hml0_1⟩⟩, ⟨_, ⟨_, hml1_1⟩⟩⟩ := hg
    exact laws_FnExactBigIntAdd.walk a0_0 Al0_1 cl0_1 l0_1 a1_0 Al1_1 cl1_1 l1_1 w hrl0_1 hcl0_1 hrl1_1 hcl1_1 hml0_1 hml1_1
  · exact absurd h (by simp)
theorem FnExactBigIntAdd : laws_FnExactBigIntAdd.Pure := by
  intro x0 x1 h0 h1
  unfold laws_FnExactBigIntAdd.f
  exact if_pos ⟨h0, h1⟩

end Go.Proofs.Ytmnahdoomnbdoaa.Pure
