/- Contracts of the given program's functions and of the reference's (walks). -/
import Derived.Lib.ItoaNum
import Derived.Lib.AtoiAll
set_option linter.unusedVariables false
namespace Go.Proofs.YtjnlpomfjlpikaaDoor.Ab
open Go
/-! ### Decimal numerals, plainly -/
def dgt (c : UInt8) : Prop := 48 ≤ c.toNat ∧ c.toNat ≤ 57
instance (c : UInt8) : Decidable (dgt c) := by unfold dgt; exact inferInstance
def valF (a : Nat) (l : List UInt8) : Nat := l.foldl (fun a c => a * 10 + (c.toNat - 48)) a
theorem valF_nil (a : Nat) : valF a [] = a := rfl
theorem valF_cons (a : Nat) (c : UInt8) (l : List UInt8) : valF a (c :: l) = valF (a * 10 + (c.toNat - 48)) l := by
  unfold valF
  rw [List.foldl_cons]
theorem valF_append (a : Nat) (l r : List UInt8) : valF a (l ++ r) = valF (valF a l) r := by unfold valF; rw [List.foldl_append]
theorem valF_one (a : Nat) (c : UInt8) : valF a [c] = a * 10 + (c.toNat - 48) := by
  rw [valF_cons, valF_nil]
theorem valF_eq (a : Nat) (l : List UInt8) : valF a l = a * 10 ^ l.length + valF 0 l := by
  induction l generalizing a with
  | nil => simp [valF]
  | cons c l ih =>
    rw [valF_cons, valF_cons, ih, ih (0 * 10 + _), List.length_cons, Nat.pow_succ, Nat.add_mul]
    simp only [Nat.zero_mul, Nat.zero_add]
    rw [Nat.mul_assoc, Nat.mul_comm 10 (10 ^ l.length)]
    omega
theorem valF_mono {a b : Nat} (h : a ≤ b) (l : List UInt8) : valF a l ≤ valF b l := by
  rw [valF_eq a, valF_eq b]
  have := Nat.mul_le_mul_right (10 ^ l.length) h
  omega
theorem le_valF (a : Nat) (l : List UInt8) : a ≤ valF a l := by
  rw [valF_eq a]
  have : a * 1 ≤ a * 10 ^ l.length := Nat.mul_le_mul_left a (Nat.one_le_pow _ _ (by decide))
  omega
theorem valF_lt (l : List UInt8) (hd : ∀ c ∈ l, dgt c) : valF 0 l < 10 ^ l.length := by
  induction l with
  | nil => simp [valF]
  | cons c l ih =>
    rw [valF_cons, valF_eq, List.length_cons, Nat.pow_succ]
    have h1 := ih (fun x hx => hd x (List.mem_cons_of_mem _ hx))
    have h2 := hd c (List.mem_cons_self ..)
    unfold dgt at h2
    have h3 : (0 * 10 + (c.toNat - 48)) * 10 ^ l.length ≤ 9 * 10 ^ l.length := Nat.mul_le_mul_right _ (by omega)
    omega
theorem ofNat_toNat {k : Nat} (h : k < 256) : (UInt8.ofNat k).toNat = k := by
  rw [UInt8.toNat_ofNat']
  omega
theorem dd_unf (u : Nat) : Lib.decDigits u = if u < 10 then [UInt8.ofNat (48 + u)] else Lib.decDigits (u / 10) ++ [UInt8.ofNat (48 + u % 10)] := by
  rw [Lib.decDigits]
  split <;> rfl
theorem dd_facts (u : Nat) : (∀ c ∈ Lib.decDigits u, dgt c) ∧ valF 0 (Lib.decDigits u) = u ∧ Lib.decDigits u ≠ [] ∧ (1 ≤ u → ∀ c r, Lib.decDigits u = c :: r → c ≠ 48) := by
  induction u using Nat.strongRecOn with
  | _ u ih =>
    by_cases h : u < 10
    · rw [dd_unf, if_pos h]
      refine ⟨fun c hc => ?_, ?_, by simp, fun h1 c r e => ?_⟩
      · rw [List.mem_singleton] at hc
        subst hc
        unfold dgt
        rw [ofNat_toNat (by omega)]
        omega
      · rw [valF_one, ofNat_toNat (by omega)]
        omega
      · injection e with e1 e2
        subst e1
        intro hc
        have := congrArg UInt8.toNat hc
        rw [ofNat_toNat (by omega)] at this
        have : (48 + u : Nat) = 48 := this
        omega
    · rw [dd_unf, if_neg h]
      obtain ⟨a, b, c, d⟩ := ih (u / 10) (by omega)
      refine ⟨fun x hx => ?_, ?_, by simp, fun _ x r e => ?_⟩
      · rw [List.mem_append, List.mem_singleton] at hx
        rcases hx with hx | rfl
        · exact a x hx
        · unfold dgt
          rw [ofNat_toNat (by omega)]
          omega
      · rw [valF_append, b, valF_one, ofNat_toNat (by omega)]
        omega
      · obtain ⟨y, r', hy⟩ : ∃ y r', Lib.decDigits (u / 10) = y :: r' := List.exists_cons_of_ne_nil c
        rw [hy, List.cons_append] at e
        injection e with e1 e2
        subst e1
        exact d (by omega) _ _ hy
theorem dd_dgt (u : Nat) : ∀ c ∈ Lib.decDigits u, dgt c := (dd_facts u).1
theorem dd_val (u : Nat) : valF 0 (Lib.decDigits u) = u := (dd_facts u).2.1
theorem dd_ne (u : Nat) : Lib.decDigits u ≠ [] := (dd_facts u).2.2.1
theorem dd_head {u : Nat} (h : 1 ≤ u) {c : UInt8} {r : List UInt8} (e : Lib.decDigits u = c :: r) : c ≠ 48 := (dd_facts u).2.2.2 h c r e
theorem dd_zero : Lib.decDigits 0 = [48] := by rw [dd_unf]; rfl
theorem chr_eq {c : UInt8} (h : dgt c) : UInt8.ofNat (48 + (c.toNat - 48)) = c := by
  unfold dgt at h
  apply UInt8.toNat_inj.1
  rw [ofNat_toNat (by omega)]
  omega
/-- A list of digits without a nought ahead is the numeral of its value. -/
theorem dd_of_val : ∀ (k : Nat) (l : List UInt8), l.length = k → (∀ c ∈ l, dgt c) → (∀ c r, l = c :: r → c ≠ 48) → l ≠ [] → Lib.decDigits (valF 0 l) = l := by
  intro k
  induction k with
  | zero =>
    intro l hl _ _ hn
    cases l with
    | nil => exact absurd rfl hn
    | cons => simp at hl
  | succ k ih =>
    intro l hl hd hh hn
    rcases List.eq_nil_or_concat l with rfl | ⟨r, c, rfl⟩
    · exact absurd rfl hn
    rw [List.concat_eq_append] at hl hd hh hn ⊢
    have hc : dgt c := hd c (by simp)
    rw [valF_append, valF_one]
    have hc' := hc
    unfold dgt at hc'
    by_cases hr : r = []
    · subst hr
      rw [valF_nil, dd_unf, if_pos (by omega)]
      rw [show 48 + (0 * 10 + (c.toNat - 48)) = 48 + (c.toNat - 48) by omega, chr_eq hc]
      rfl
    · have hr1 := ih r (by simpa using hl) (fun x hx => hd x (by simp [hx])) (fun x t e => hh x (t ++ [c]) (by rw [e]; rfl)) hr
      have h1 : 1 ≤ valF 0 r := by
        cases r with
        | nil => exact absurd rfl hr
        | cons x t =>
          have h2 := hh x (t ++ [c]) rfl
          have h3 : dgt x := hd x (by simp)
          unfold dgt at h3
          have h4 : x.toNat ≠ 48 := fun h => h2 (UInt8.toNat_inj.1 h)
          rw [valF_cons]
          have := le_valF (0 * 10 + (x.toNat - 48)) t
          omega
      rw [dd_unf, if_neg (by omega), show (valF 0 r * 10 + (c.toNat - 48)) / 10 = valF 0 r by omega, show (valF 0 r * 10 + (c.toNat - 48)) % 10 = c.toNat - 48 by omega, hr1, chr_eq hc]
theorem itoa_n (m : Nat) : Lib.itoa (m : Int) = Lib.decDigits m := by
  unfold Lib.itoa
  rw [if_neg (by omega)]
  simp
theorem itoa_m {m : Nat} (h : 1 ≤ m) : Lib.itoa (-(m : Int)) = 45 :: Lib.decDigits m := by
  unfold Lib.itoa
  rw [if_pos (by omega)]
  simp
theorem parse_dgt : ∀ (l : List UInt8) (a : Nat), (∀ c ∈ l, dgt c) → valF a l < 18446744073709551616 → Lib.parseUint10 a l = .ok (valF a l)
  | [], a, _, _ => rfl
  | c :: r, a, hd, h => by
    have hc := hd c (List.mem_cons_self ..)
    unfold dgt at hc
    rw [valF_cons] at h ⊢
    have hm := le_valF (a * 10 + (c.toNat - 48)) r
    rw [Lib.parseUint10, if_pos hc, if_neg (by omega), if_neg (by omega)]
    exact parse_dgt r _ (fun x hx => hd x (List.mem_cons_of_mem _ hx)) h
theorem atoi_dgt {l : List UInt8} (hd : ∀ c ∈ l, dgt c) (hn : l ≠ []) (h : valF 0 l < 9223372036854775808) : Lib.atoiAll l = .ok (valF 0 l : Int) := by
  cases l with
  | nil => exact absurd rfl hn
  | cons c r =>
    have hc := hd c (List.mem_cons_self ..)
    unfold dgt at hc
    have h1 : ¬ (c.toNat = 43 ∨ c.toNat = 45) := by omega
    unfold Lib.atoiAll
    simp only [if_neg h1]
    have h2 : Lib.parseMag (c :: r) = .ok (valF 0 (c :: r)) := by
      unfold Lib.parseMag
      rw [if_neg (by simp)]
      exact parse_dgt _ 0 hd (by omega)
    rw [h2]
    simp only
    rw [if_neg (by omega), if_neg (by omega), if_neg (by omega)]
theorem atoi_itoa (v : Int) (h1 : -9223372036854775808 ≤ v) (h2 : v ≤ 9223372036854775807) : Lib.atoiAll (Lib.itoa v) = .ok v := by
  by_cases hn : v < 0
  · obtain ⟨m, rfl⟩ : ∃ m : Nat, v = -(m : Int) := ⟨v.natAbs, by omega⟩
    rw [itoa_m (by omega)]
    unfold Lib.atoiAll
    have h3 : Lib.parseMag (Lib.decDigits m) = .ok m := by
      unfold Lib.parseMag
      rw [if_neg (dd_ne m), parse_dgt _ 0 (dd_dgt m) (by rw [dd_val]; omega), dd_val]
    have e45 : (45 : UInt8).toNat = 45 := rfl
    have e0 : (if (45 : UInt8).toNat = 43 ∨ (45 : UInt8).toNat = 45 then Lib.decDigits m else 45 :: Lib.decDigits m) = Lib.decDigits m := if_pos (.inr rfl)
    simp only [e0, h3]
    rw [if_neg (by rintro ⟨h, _⟩; exact h rfl), if_neg (by rintro ⟨_, h⟩; omega), if_pos e45]
  · obtain ⟨m, rfl⟩ : ∃ m : Nat, v = (m : Int) := ⟨v.natAbs, by omega⟩
    rw [itoa_n, atoi_dgt (dd_dgt m) (dd_ne m) (by rw [dd_val]; omega), dd_val]
theorem itoa_inj {v w : Int} (h1 : -9223372036854775808 ≤ v) (h2 : v ≤ 9223372036854775807) (h3 : -9223372036854775808 ≤ w) (h4 : w ≤ 9223372036854775807) (h : Lib.itoa v = Lib.itoa w) : v = w := by
  have := atoi_itoa v h1 h2
  rw [h, atoi_itoa w h3 h4] at this
  injection this with this
  exact this.symm
/-- What both parsers answer: the int whose numeral the text is. -/
def Spells (l : List UInt8) (v : Int) : Prop := -9223372036854775808 ≤ v ∧ v ≤ 9223372036854775807 ∧ Lib.itoa v = l
open Classical in
noncomputable def pInt (l : List UInt8) : Int × Bool := if h : ∃ v, Spells l v then (h.choose, true) else (0, false)
theorem pInt_yes {l : List UInt8} {v : Int} (h : Spells l v) : pInt l = (v, true) := by
  unfold pInt
  have hx : ∃ v, Spells l v := ⟨v, h⟩
  rw [dif_pos hx]
  obtain ⟨a, b, c⟩ := hx.choose_spec
  obtain ⟨a', b', c'⟩ := h
  rw [itoa_inj a b a' b' (c.trans c'.symm)]
theorem pInt_no {l : List UInt8} (h : ∀ v, ¬ Spells l v) : pInt l = (0, false) := by
  unfold pInt
  rw [dif_neg (fun ⟨v, hv⟩ => h v hv)]
theorem pInt_atoi {l : List UInt8} {v : Int} (h : Lib.atoiAll l = .ok v) (h1 : -9223372036854775808 ≤ v) (h2 : v ≤ 9223372036854775807) : pInt l = if Lib.itoa v = l then (v, true) else (0, false) := by
  split
  · exact pInt_yes ⟨h1, h2, by assumption⟩
  · rename_i hn
    refine pInt_no fun w ⟨a, b, c⟩ => ?_
    have := atoi_itoa w a b
    rw [c, h] at this
    injection this with this
    subst this
    exact hn c
theorem pInt_bad {l : List UInt8} (h : ∀ v, Lib.atoiAll l ≠ .ok v) : pInt l = (0, false) := pInt_no fun w ⟨a, b, c⟩ => h w (c ▸ atoi_itoa w a b)
end Go.Proofs.YtjnlpomfjlpikaaDoor.Ab
