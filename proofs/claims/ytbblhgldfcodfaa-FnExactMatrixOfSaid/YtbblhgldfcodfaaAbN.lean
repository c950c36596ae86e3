/- Plain facts on sums and differences of limbs. -/
import Derived.Test.YtbblhgldfcodfaaAbP
set_option linter.unusedVariables false
set_option linter.unusedSimpArgs false
namespace Go.Proofs.Ytbblhgldfcodfaa.Ab
open Go Go.RowKit
/-! ### One limb of a sum, of a difference -/
/-- One limb of a sum. -/
theorem add_step (a b : List Int) (ha : Dig a) (hb : Dig b) (i : Nat) (p : List Int) (hp : p.length = i) (hD : Dig p) (c : Nat) (hc : c ≤ 1) (hv : val p + c * 1000000000 ^ i = val (a.take i) + val (b.take i)) (x y : Nat) (hx : (x : Int) = if i < a.length then rd a (i : Int) else 0) (hy : (y : Int) = if i < b.length then rd b (i : Int) else 0) :
    x ≤ 999999999 ∧ y ≤ 999999999 ∧ (x + y + c) / 1000000000 ≤ 1 ∧ Dig (p ++ [(((x + y + c) % 1000000000 : Nat) : Int)]) ∧
      val (p ++ [(((x + y + c) % 1000000000 : Nat) : Int)]) + ((x + y + c) / 1000000000) * 1000000000 ^ (i + 1) = val (a.take (i + 1)) + val (b.take (i + 1)) := by
  have ra := Dig_rd ha i
  have rb := Dig_rd hb i
  have va : val (a.take (i + 1)) = val (a.take i) + 1000000000 ^ i * x := by
    by_cases h : i < a.length
    · rw [if_pos h] at hx; rw [val_take a i h, ← hx]; simp
    · rw [if_neg h] at hx
      have : x = 0 := by omega
      subst this
      rw [List.take_of_length_le (by omega), List.take_of_length_le (by omega)]; simp
  have vb : val (b.take (i + 1)) = val (b.take i) + 1000000000 ^ i * y := by
    by_cases h : i < b.length
    · rw [if_pos h] at hy; rw [val_take b i h, ← hy]; simp
    · rw [if_neg h] at hy
      have : y = 0 := by omega
      subst this
      rw [List.take_of_length_le (by omega), List.take_of_length_le (by omega)]; simp
  have hx9 : x ≤ 999999999 := by
    by_cases h : i < a.length
    · rw [if_pos h] at hx; omega
    · rw [if_neg h] at hx; omega
  have hy9 : y ≤ 999999999 := by
    by_cases h : i < b.length
    · rw [if_pos h] at hy; omega
    · rw [if_neg h] at hy; omega
  refine ⟨hx9, hy9, by omega, Dig_append.mpr ⟨hD, Dig_cons.mpr ⟨by omega, Dig_nil⟩⟩, ?_⟩
  rw [val_snoc, hp, va, vb, Nat.pow_succ]
  have hd : 1000000000 * ((x + y + c) / 1000000000) + (x + y + c) % 1000000000 = x + y + c := Nat.div_add_mod _ _
  generalize (x + y + c) / 1000000000 = q at *
  generalize (x + y + c) % 1000000000 = r at *
  simp only [Int.toNat_natCast]
  generalize 1000000000 ^ i = P at *
  clear hx hy va vb ra rb
  grind
/-- One limb of a difference: x minus y minus a borrow. -/
theorem sub_step (a b : List Int) (ha : Dig a) (hb : Dig b) (i : Nat) (hi : i < a.length) (p : List Int) (hp : p.length = i) (hD : Dig p) (c : Nat) (hc : c ≤ 1) (hv : val p + val (b.take i) = val (a.take i) + c * 1000000000 ^ i) (y : Int) (hy : y = if i < b.length then rd b (i : Int) else 0) :
    ∃ (e : Nat), e ≤ 1 ∧ (e = if rd a (i : Int) - c - y < 0 then 1 else 0) ∧ 0 ≤ rd a (i : Int) - c - y + e * 1000000000 ∧ rd a (i : Int) - c - y + e * 1000000000 ≤ 999999999 ∧
      val (p ++ [rd a (i : Int) - c - y + e * 1000000000]) + val (b.take (i + 1)) = val (a.take (i + 1)) + e * 1000000000 ^ (i + 1) := by
  have ra := Dig_rd ha i
  have rb := Dig_rd hb i
  have va := val_take a i hi
  have vb : val (b.take (i + 1)) = val (b.take i) + 1000000000 ^ i * y.toNat := by
    by_cases h : i < b.length
    · rw [if_pos h] at hy; subst hy; exact val_take b i h
    · rw [if_neg h] at hy; subst hy
      rw [List.take_of_length_le (by omega), List.take_of_length_le (by omega)]; simp
  have hy0 : 0 ≤ y ∧ y ≤ 999999999 := by
    by_cases h : i < b.length
    · rw [if_pos h] at hy; omega
    · rw [if_neg h] at hy; omega
  generalize rd a (i : Int) = x at *
  refine ⟨if x - c - y < 0 then 1 else 0, by split <;> omega, rfl, by split <;> omega, by split <;> omega, ?_⟩
  rw [val_snoc, hp, va, vb, Nat.pow_succ]
  obtain ⟨X, rfl⟩ : ∃ n : Nat, x = n := ⟨x.toNat, by omega⟩
  obtain ⟨Y, rfl⟩ : ∃ n : Nat, y = n := ⟨y.toNat, by omega⟩
  simp only [Int.toNat_natCast]
  by_cases h : (X : Int) - c - Y < 0
  · rw [if_pos h]
    obtain ⟨Z, hZ⟩ : ∃ Z : Nat, (X : Int) - c - Y + ((1 : Nat) : Int) * 1000000000 = Z := ⟨((X : Int) - c - Y + ((1 : Nat) : Int) * 1000000000).toNat, by omega⟩
    rw [hZ]
    have hz : Z + c + Y = X + 1000000000 := by omega
    simp only [Int.toNat_natCast]
    generalize 1000000000 ^ i = P at *
    grind
  · rw [if_neg h]
    obtain ⟨Z, hZ⟩ : ∃ Z : Nat, (X : Int) - c - Y + ((0 : Nat) : Int) * 1000000000 = Z := ⟨((X : Int) - c - Y + ((0 : Nat) : Int) * 1000000000).toNat, by omega⟩
    rw [hZ]
    have hz : Z + c + Y = X := by omega
    simp only [Int.toNat_natCast]
    generalize 1000000000 ^ i = P at *
    grind
/-- A difference's limbs, at the end: nothing is borrowed. -/
theorem sub_end (a b : List Int) (ha : Dig a) (q : List Int) (hq : q.length = a.length) (hD : Dig q) (hbl : b.length ≤ a.length) (c : Nat) (hc : c ≤ 1) (hv : val q + val (b.take a.length) = val (a.take a.length) + c * 1000000000 ^ a.length) (hle : val b ≤ val a) : trim q = dg (val a - val b) := by
  rw [List.take_of_length_le hbl, List.take_length] at hv
  have l1 := val_lt hD
  rw [hq] at l1
  rw [trim_dg_val hD]
  congr 1
  have : c = 0 := by
    rcases Nat.lt_or_ge 0 c with h | h
    · have : c = 1 := by omega
      subst this
      omega
    · omega
  subst this
  omega
end Go.Proofs.Ytbblhgldfcodfaa.Ab
