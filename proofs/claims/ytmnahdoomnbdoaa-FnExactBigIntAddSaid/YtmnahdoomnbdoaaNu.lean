import Derived.Test.YtmnahdoomnbdoaaLb
/- Lists of limbs and the natural numbers that they stand for. -/
namespace Go.Proofs.Ytmnahdoomnbdoaa.Lb
open Go.RowKit Go.Proofs.YtmnahdoomnbdoaaW.PrintWords

/-- The number that a list of limbs stands for. -/
def val : List Int → Nat
  | [] => 0
  | x :: xs => x.toNat + 1000000000 * val xs
/-- Is each element a limb? -/
def Dig (l : List Int) : Prop := ∀ x ∈ l, 0 ≤ x ∧ x ≤ 999999999
theorem Dig_nil : Dig [] := fun x h => by simp at h
theorem Dig_cons {x : Int} {l : List Int} : Dig (x :: l) ↔ (0 ≤ x ∧ x ≤ 999999999) ∧ Dig l := by
  unfold Dig
  constructor
  · intro h
    exact ⟨h x (by simp), fun y hy => h y (by simp [hy])⟩
  · rintro ⟨h0, h⟩ y hy
    rcases List.mem_cons.1 hy with rfl | hy
    · exact h0
    · exact h y hy
theorem Dig_append {a b : List Int} : Dig (a ++ b) ↔ Dig a ∧ Dig b := by
  unfold Dig
  constructor
  · intro h
    exact ⟨fun y hy => h y (by simp [hy]), fun y hy => h y (by simp [hy])⟩
  · rintro ⟨h0, h⟩ y hy
    rcases List.mem_append.1 hy with hy | hy
    · exact h0 y hy
    · exact h y hy
theorem Dig_take {a : List Int} (n : Nat) (h : Dig a) : Dig (a.take n) := fun y hy => h y (List.mem_of_mem_take hy)
theorem Dig_drop {a : List Int} (n : Nat) (h : Dig a) : Dig (a.drop n) := fun y hy => h y (List.mem_of_mem_drop hy)
theorem Dig_rep (n : Nat) : Dig (List.replicate n 0) := fun y hy => by have := List.eq_of_mem_replicate hy; omega
theorem Dig_rd {l : List Int} (h : Dig l) (i : Nat) : 0 ≤ rd l (i : Int) ∧ rd l (i : Int) ≤ 999999999 := by
  rw [rd_nat, List.getD_eq_getElem?_getD]
  by_cases hi : i < l.length
  · rw [List.getElem?_eq_getElem hi]
    exact h _ (List.getElem_mem hi)
  · rw [List.getElem?_eq_none (by omega)]
    simp
theorem Dig_set {l : List Int} (h : Dig l) (i : Nat) {y : Int} (hy : 0 ≤ y ∧ y ≤ 999999999) : Dig (l.set i y) := by
  intro z hz
  rcases List.mem_or_eq_of_mem_set hz with hz | rfl
  · exact h z hz
  · exact hy
theorem val_append (a b : List Int) : val (a ++ b) = val a + 1000000000 ^ a.length * val b := by
  induction a with
  | nil => simp [val]
  | cons x xs ih =>
    simp only [List.cons_append, val, ih, List.length_cons, Nat.pow_succ]
    grind
theorem val_rep (n : Nat) : val (List.replicate n 0) = 0 := by
  induction n with
  | zero => rfl
  | succ n ih => simp [List.replicate_succ, val, ih]
theorem val_snoc (a : List Int) (x : Int) : val (a ++ [x]) = val a + 1000000000 ^ a.length * x.toNat := by
  rw [val_append]; simp [val]
theorem val_lt {l : List Int} (h : Dig l) : val l < 1000000000 ^ l.length := by
  induction l with
  | nil => simp [val]
  | cons x xs ih =>
    rw [Dig_cons] at h
    have := ih h.2
    simp only [val, List.length_cons, Nat.pow_succ]
    have hx : x.toNat ≤ 999999999 := by omega
    omega
theorem val_take (l : List Int) (i : Nat) (hi : i < l.length) : val (l.take (i + 1)) = val (l.take i) + 1000000000 ^ i * (rd l (i : Int)).toNat := by
  rw [take_snoc l i hi, val_snoc, List.length_take, Nat.min_eq_left (by omega)]
theorem val_set (l : List Int) : ∀ (i : Nat), i < l.length → ∀ y : Int, val (l.set i y) + (rd l (i : Int)).toNat * 1000000000 ^ i = val l + y.toNat * 1000000000 ^ i := by
  induction l with
  | nil => intro i hi; simp at hi
  | cons x xs ih =>
    intro i hi y
    cases i with
    | zero => simp [val, rd]; omega
    | succ i =>
      have e : rd (x :: xs) ((i + 1 : Nat) : Int) = rd xs (i : Int) := by rw [rd_nat, rd_nat, List.getD_cons_succ]
      have := ih i (by simpa using hi) y
      rw [e]
      simp only [List.set_cons_succ, val, Nat.pow_succ]
      grind
theorem dg_Dig : ∀ n, Dig (dg n) := by
  intro n
  induction n using Nat.strongRecOn with
  | _ n ih =>
    by_cases h0 : n = 0
    · subst h0; rw [dg_zero]; exact Dig_nil
    · rw [dg_pos h0, Dig_cons]
      exact ⟨by omega, ih _ (by omega)⟩
theorem val_dg : ∀ n, val (dg n) = n := by
  intro n
  induction n using Nat.strongRecOn with
  | _ n ih =>
    by_cases h0 : n = 0
    · subst h0; rw [dg_zero]; rfl
    · rw [dg_pos h0, val, ih _ (by omega)]
      simp
      omega
theorem lastOk_tail {x : Int} {l : List Int} (h : lastOk (x :: l)) : lastOk l := by
  unfold lastOk at *
  rcases h with h | h
  · simp at h
  · by_cases h0 : l = []
    · subst h0; exact .inl rfl
    · right
      have hp := len_pos h0
      have e : (x :: l).length - 1 = (l.length - 1) + 1 := by simp; omega
      rw [e, rd_nat, List.getD_cons_succ, ← rd_nat] at h
      exact h
/-- Limbs that end in no zero are those of their number. -/
theorem dg_val {l : List Int} (h : Dig l) (hl : lastOk l) : dg (val l) = l := by
  induction l with
  | nil => simp [val, dg_zero]
  | cons x xs ih =>
    rw [Dig_cons] at h
    have ih' := ih h.2 (lastOk_tail hl)
    have h0 : val (x :: xs) ≠ 0 := by
      intro h0
      simp only [val] at h0
      have hx : x = 0 := by omega
      have hv : val xs = 0 := by omega
      rw [hv, dg_zero] at ih'
      subst hx
      rw [← ih'] at hl
      rcases hl with hl | hl
      · simp at hl
      · simp [rd] at hl
    rw [dg_pos h0]
    simp only [val]
    have e1 : (x.toNat + 1000000000 * val xs) % 1000000000 = x.toNat := by omega
    have e2 : (x.toNat + 1000000000 * val xs) / 1000000000 = val xs := by omega
    rw [e1, e2, ih']
    congr 1
    omega
theorem trimTo_val {l : List Int} : ∀ i, i ≤ l.length → val (trimTo l i) = val (l.take i) := by
  intro i
  induction i with
  | zero => intro _; simp [trimTo, val]
  | succ i ih =>
    intro hi
    unfold trimTo
    by_cases h : rd l (i : Int) = 0
    · rw [if_pos h, ih (by omega), val_take l i (by omega), h]; simp
    · rw [if_neg h]
theorem trimTo_last {l : List Int} : ∀ i, i ≤ l.length → lastOk (trimTo l i) := by
  intro i
  induction i with
  | zero => intro _; exact .inl rfl
  | succ i ih =>
    intro hi
    unfold trimTo
    by_cases h : rd l (i : Int) = 0
    · rw [if_pos h]; exact ih (by omega)
    · rw [if_neg h]
      right
      have e : (l.take (i + 1)).length - 1 = i := by rw [List.length_take]; omega
      rw [e, rd_nat, List.getD_eq_getElem?_getD, List.getElem?_take, if_pos (by omega), ← List.getD_eq_getElem?_getD, ← rd_nat]
      exact h
theorem trimTo_Dig {l : List Int} (h : Dig l) : ∀ i, Dig (trimTo l i) := by
  intro i
  induction i with
  | zero => exact Dig_nil
  | succ i ih =>
    unfold trimTo
    split
    · exact ih
    · exact Dig_take _ h
theorem trim_dg_val {l : List Int} (h : Dig l) : trim l = dg (val l) := by
  unfold trim
  rw [← dg_val (trimTo_Dig h _) (trimTo_last _ (Nat.le_refl _)), trimTo_val _ (Nat.le_refl _), List.take_length]
theorem nok_iff {l : List Int} : nok l = true ↔ l.length ≤ 60 ∧ Dig l ∧ lastOk l := by
  unfold nok
  simp only [Bool.and_eq_true, decide_eq_true_iff, Bool.or_eq_true, List.isEmpty_iff, Bool.not_eq_true', decide_eq_false_iff_not, List.all_eq_true, inB]
  constructor
  · rintro ⟨⟨h1, h2⟩, h3⟩
    refine ⟨h1, fun x hx => by have := h3 x hx; omega, ?_⟩
    rcases h2 with h2 | h2
    · subst h2; exact .inl rfl
    · by_cases h0 : l = []
      · subst h0; exact .inl rfl
      · right
        have hp := len_pos h0
        have e : ((l.length - 1 : Nat) : Int) = (l.length : Int) - 1 := by omega
        rw [e]; exact h2
  · rintro ⟨h1, h2, h3⟩
    refine ⟨⟨h1, ?_⟩, fun x hx => by have := h2 x hx; omega⟩
    rcases h3 with h3 | h3
    · exact .inl (List.length_eq_zero_iff.mp h3)
    · by_cases h0 : l = []
      · exact .inl h0
      · right
        have hp := len_pos h0
        have e : ((l.length - 1 : Nat) : Int) = (l.length : Int) - 1 := by omega
        rw [e] at h3; exact h3
theorem nok_dg {l : List Int} (h : nok l = true) : dg (val l) = l := by
  obtain ⟨_, h2, h3⟩ := nok_iff.mp h
  exact dg_val h2 h3
theorem nok_Dig {l : List Int} (h : nok l = true) : Dig l := (nok_iff.mp h).2.1
/-- How long are a number's limbs? -/
theorem dg_len_iff (n k : Nat) : (dg n).length ≤ k ↔ n < 1000000000 ^ k := by
  constructor
  · intro h
    have := val_lt (dg_Dig n)
    rw [val_dg] at this
    exact Nat.lt_of_lt_of_le this (Nat.pow_le_pow_right (by omega) h)
  · exact dg_length k n
theorem dg_len_mono {m n : Nat} (h : m ≤ n) : (dg m).length ≤ (dg n).length := by
  rw [dg_len_iff]
  have := (dg_len_iff n (dg n).length).mp (Nat.le_refl _)
  omega
theorem dg_inj {m n : Nat} (h : dg m = dg n) : m = n := by rw [← val_dg m, ← val_dg n, h]
/-- Which is greater, told by numbers. -/
theorem cmpI_val {a b : List Int} (ha : Dig a) (hb : Dig b) (hl : a.length = b.length) : ∀ i, i ≤ a.length →
    cmpI a b i = if val (a.take i) < val (b.take i) then -1 else if val (a.take i) > val (b.take i) then 1 else 0 := by
  intro i
  induction i with
  | zero => intro _; simp [cmpI, val]
  | succ i ih =>
    intro hi
    have ih' := ih (by omega)
    have va := val_take a i (by omega)
    have vb := val_take b i (by omega)
    have la := val_lt (Dig_take i ha)
    have lb := val_lt (Dig_take i hb)
    rw [List.length_take, Nat.min_eq_left (by omega)] at la
    rw [List.length_take, Nat.min_eq_left (by omega)] at lb
    have ra := Dig_rd ha i
    have rb := Dig_rd hb i
    unfold cmpI
    rw [va, vb]
    generalize rd a (i : Int) = x at *
    generalize rd b (i : Int) = y at *
    generalize val (a.take i) = p at *
    generalize val (b.take i) = q at *
    obtain ⟨m, rfl⟩ : ∃ m : Nat, x = m := ⟨x.toNat, by omega⟩
    obtain ⟨n, rfl⟩ : ∃ n : Nat, y = n := ⟨y.toNat, by omega⟩
    simp only [Int.toNat_natCast]
    generalize 1000000000 ^ i = B at *
    by_cases c1 : (m : Int) < (n : Int)
    · have h : B * (m + 1) ≤ B * n := Nat.mul_le_mul_left B (by omega)
      rw [Nat.mul_add, Nat.mul_one] at h
      rw [if_pos c1, if_pos (by omega)]
    · by_cases c2 : (m : Int) > (n : Int)
      · have h : B * (n + 1) ≤ B * m := Nat.mul_le_mul_left B (by omega)
        rw [Nat.mul_add, Nat.mul_one] at h
        rw [if_neg c1, if_pos c2, if_neg (by omega), if_pos (by omega)]
      · have e : m = n := by omega
        subst e
        have e1 : (p + B * m < q + B * m) = (p < q) := propext (by omega)
        have e2 : (p + B * m > q + B * m) = (p > q) := propext (by omega)
        rw [if_neg c1, if_neg c2, ih']
        simp only [e1, e2]
theorem cmpL_dg (m n : Nat) : cmpL (dg m) (dg n) = if m < n then -1 else if m > n then 1 else 0 := by
  unfold cmpL
  by_cases h : (dg m).length = (dg n).length
  · rw [if_pos h, cmpI_val (dg_Dig m) (dg_Dig n) h _ (Nat.le_refl _), List.take_length, h, List.take_length, val_dg, val_dg]
  · rw [if_neg h]
    by_cases h2 : (dg m).length < (dg n).length
    · have : m < n := by
        rcases Nat.lt_or_ge m n with h3 | h3
        · exact h3
        · have := dg_len_mono h3; omega
      rw [if_pos h2, if_pos this]
    · have : n < m := by
        rcases Nat.lt_or_ge n m with h3 | h3
        · exact h3
        · have := dg_len_mono h3; omega
      rw [if_neg h2, if_neg (by omega), if_pos this]

end Go.Proofs.Ytmnahdoomnbdoaa.Lb
