/- Plain facts on lists of whole numbers and on limbs. -/
import Derived.Test.YtjnlpomfjlpikaaDoorAbB
import Derived.RowKit
import Derived.Laws.BitsLemmas
set_option linter.unusedVariables false
set_option linter.unusedSimpArgs false
namespace Go.Proofs.YtjnlpomfjlpikaaDoor.Ab
open Go Go.RowKit
/-! ### Plain facts on lists of whole numbers -/
def rd (l : List Int) (i : Int) : Int := l.getD i.toNat 0

theorem w64 {i : Int} (h0 : -9223372036854775808 ≤ i) (h : i ≤ 9223372036854775807) : wrap64 i = i := by unfold wrap64; omega
theorem u64 {i : Int} (h0 : 0 ≤ i) (h : i ≤ 18446744073709551615) : IntKind.u64.wrap i = i := by
  rw [show IntKind.u64.wrap i = i % 18446744073709551616 from rfl]; omega

theorem wf64 {x : Int} (h : (Lit.int .i64 x).wf = true) : -9223372036854775808 ≤ x ∧ x ≤ 9223372036854775807 := by
  have h' : IntKind.i64.min ≤ x ∧ x ≤ IntKind.i64.max := by simpa [Lit.wf] using h
  exact ⟨h'.1, h'.2⟩
theorem fuel {n k : Nat} (h : n < k) : ∃ m, k = m + 1 ∧ n ≤ m := ⟨k - 1, by omega, by omega⟩

theorem len_pos {l : List Int} (h : l ≠ []) : 0 < l.length := by
  rcases l with _ | ⟨x, l⟩
  · exact absurd rfl h
  · simp
theorem rd_nat (l : List Int) (i : Nat) : rd l (i : Int) = l.getD i 0 := by unfold rd; simp
theorem rd_mid (p s : List Int) (x : Int) : rd (p ++ x :: s) (p.length : Int) = x := by
  rw [rd_nat, List.getD_eq_getElem?_getD, List.getElem?_append_right (Nat.le_refl _)]; simp
theorem set_mid (p s : List Int) (x y : Int) : (p ++ x :: s).set p.length y = (p ++ [y]) ++ s := by
  rw [List.set_append_right _ _ (Nat.le_refl _)]; simp
theorem len_snoc (p : List Int) (y : Int) : ((p ++ [y]).length : Int) = (p.length : Int) + 1 := by simp

/-- The numbers a, a + 1, .. -/
def mk : Int → Nat → List Int
  | _, 0 => []
  | a, n + 1 => a :: mk (a + 1) n
theorem mk_length : ∀ (a : Int) (n : Nat), (mk a n).length = n
  | _, 0 => rfl
  | a, n + 1 => by simp [mk, mk_length (a + 1) n]

theorem take_snoc (l : List Int) (i : Nat) (h : i < l.length) : l.take (i + 1) = l.take i ++ [rd l i] := by
  rw [List.take_succ_eq_append_getElem h, rd_nat, List.getD_eq_getElem?_getD, List.getElem?_eq_getElem h]; rfl
theorem copy_step (l : List Int) (i d : Nat) (h : i + (d + 1) = l.length) :
    (l.take i ++ List.replicate (d + 1) 0).set i (rd l i) = l.take (i + 1) ++ List.replicate d 0 := by
  have hi : (l.take i).length = i := by rw [List.length_take]; omega
  have := set_mid (l.take i) (List.replicate d 0) 0 (rd l i)
  rw [hi] at this
  rw [List.replicate_succ, this, take_snoc l i (by omega)]

/-- The limbs of a natural number, the least first. -/
def dg (n : Nat) : List Int := if h : n = 0 then [] else ((n % 1000000000 : Nat) : Int) :: dg (n / 1000000000)
termination_by n
decreasing_by omega
theorem dg_zero : dg 0 = [] := by rw [dg]; simp
theorem dg_pos {n : Nat} (h : n ≠ 0) : dg n = ((n % 1000000000 : Nat) : Int) :: dg (n / 1000000000) := by rw [dg]; simp [h]
theorem dg_length (m : Nat) : ∀ n, n < 1000000000 ^ m → (dg n).length ≤ m := by
  induction m with
  | zero => intro n h; have : n = 0 := by simpa using h
            subst this; rw [dg_zero]; simp
  | succ m ih =>
    intro n h
    by_cases h0 : n = 0
    · subst h0; rw [dg_zero]; simp
    · rw [dg_pos h0, List.length_cons]
      have := ih (n / 1000000000) (Nat.div_lt_of_lt_mul (by rw [Nat.pow_succ] at h; omega))
      omega

/-- A list without the zeros at its end, looked at up to place i. -/
def trimTo (l : List Int) : Nat → List Int
  | 0 => []
  | i + 1 => if rd l (i : Int) = 0 then trimTo l i else l.take (i + 1)
/-- A list without the zeros at its end. -/
def trim (l : List Int) : List Int := trimTo l l.length
theorem trimTo_le (l : List Int) : ∀ i, (trimTo l i).length ≤ i
  | 0 => by simp [trimTo]
  | i + 1 => by
    unfold trimTo
    split
    · have := trimTo_le l i; omega
    · rw [List.length_take]; omega
theorem trim_le (l : List Int) : (trim l).length ≤ l.length := trimTo_le l _
def capped (l : List Int) : List Int := if (trim l).length > 60 then [] else trim l
theorem capped_le (l : List Int) : (capped l).length ≤ 60 := by
  unfold capped
  split
  · simp
  · omega
/-- Does a list end in no zero? -/
def lastOk (l : List Int) : Prop := l.length = 0 ∨ rd l ((l.length - 1 : Nat) : Int) ≠ 0
theorem trim_ok {l : List Int} (h : lastOk l) : trim l = l := by
  unfold trim
  rcases h with h | h
  · rw [h]; simp [trimTo, List.length_eq_zero_iff.mp h]
  · by_cases h0 : l.length = 0
    · rw [h0]; simp [trimTo, List.length_eq_zero_iff.mp h0]
    · obtain ⟨n, hn⟩ : ∃ n, l.length = n + 1 := ⟨l.length - 1, by omega⟩
      rw [hn] at h ⊢
      simp only [trimTo]
      rw [if_neg (by simpa using h), ← hn, List.take_length]
theorem lastOk_cons (x : Int) {l : List Int} (h : lastOk l) (hx : x ≠ 0 ∨ l ≠ []) : lastOk (x :: l) := by
  unfold lastOk at *
  right
  rcases h with h | h
  · have : l = [] := List.length_eq_zero_iff.mp h
    subst this
    rcases hx with hx | hx
    · simpa [rd] using hx
    · exact absurd rfl hx
  · by_cases h0 : l = []
    · subst h0
      rcases hx with hx | hx
      · simpa [rd] using hx
      · exact absurd rfl hx
    · have hp : 0 < l.length := len_pos h0
      have e : (x :: l).length - 1 = (l.length - 1) + 1 := by simp; omega
      rw [e, rd_nat, List.getD_cons_succ, ← rd_nat]
      exact h
theorem dg_last : ∀ n, lastOk (dg n) := by
  intro n
  induction n using Nat.strongRecOn with
  | _ n ih =>
    by_cases h0 : n = 0
    · subst h0; rw [dg_zero]; exact .inl rfl
    · rw [dg_pos h0]
      apply lastOk_cons _ (ih _ (by omega))
      by_cases h1 : n / 1000000000 = 0
      · left; omega
      · right; rw [dg_pos h1]; simp
theorem trim_dg (n : Nat) : trim (dg n) = dg n := trim_ok (dg_last n)
theorem dg_nil {n : Nat} (h : dg n = []) : n = 0 := by
  by_cases h0 : n = 0
  · exact h0
  · rw [dg_pos h0] at h; simp at h

theorem drop_rd (l : List Int) (i : Nat) (h : i < l.length) : l.drop i = rd l i :: l.drop (i + 1) := by
  rw [List.drop_eq_getElem_cons h, rd_nat, List.getD_eq_getElem?_getD, List.getElem?_eq_getElem h]; rfl
def inB (x : Int) : Bool := decide (x ≥ 0) && decide (x ≤ 999999999)
/-- Does a list hold the limbs of a natural number of at most 60 limbs? -/
def nok (l : List Int) : Bool := decide (l.length ≤ 60) && (l.isEmpty || !decide (rd l ((l.length : Int) - 1) = 0)) && l.all inB
theorem nok_len {l : List Int} (h : nok l = true) : l.length ≤ 60 := by
  unfold nok at h
  simp only [Bool.and_eq_true, decide_eq_true_iff] at h
  exact h.1.1
/-- Which is greater, from limb i - 1 down? -/
def cmpI (a b : List Int) : Nat → Int
  | 0 => 0
  | i + 1 => if rd a (i : Int) < rd b (i : Int) then -1 else if rd a (i : Int) > rd b (i : Int) then 1 else cmpI a b i
def cmpL (a b : List Int) : Int := if a.length = b.length then cmpI a b a.length else if a.length < b.length then -1 else 1
/-- Are the last d elements alike? -/
def eqD (a b : List Int) : Nat → Bool
  | 0 => true
  | d + 1 => if rd a ((a.length - (d + 1) : Nat) : Int) = rd b ((a.length - (d + 1) : Nat) : Int) then eqD a b d else false
def eqL (a b : List Int) : Bool := if a.length = b.length then eqD a b a.length else false
/-- A number out of its first i limbs and what stands before them, as int computes it. -/
def hor (l : List Int) : Nat → Int → Int
  | 0, acc => acc
  | i + 1, acc => hor l i (wrap64 (wrap64 (acc * 1000000000) + rd l (i : Int)))

def bok (b : Bool) (l : List Int) : Bool := nok l && (!b || decide (0 < l.length))
theorem bok_len {b : Bool} {l : List Int} (h : bok b l = true) : l.length ≤ 60 := by
  unfold bok at h
  simp only [Bool.and_eq_true] at h
  exact nok_len h.1

theorem rd_take (l : List Int) {i n : Nat} (h : i < n) : rd (l.take n) (i : Int) = rd l (i : Int) := by
  rw [rd_nat, rd_nat, List.getD_eq_getElem?_getD, List.getD_eq_getElem?_getD, List.getElem?_take, if_pos h]
theorem rd_set_ne (l : List Int) (i t : Nat) (y : Int) (h : i ≠ t) : rd (l.set i y) (t : Int) = rd l (t : Int) := by
  rw [rd_nat, rd_nat, List.getD_eq_getElem?_getD, List.getD_eq_getElem?_getD, List.getElem?_set_ne h]

theorem wnat {a : Nat} (h : a ≤ 9223372036854775807) : wrap64 (a : Int) = (a : Int) := w64 (by omega) (by omega)
theorem wadd {a b : Nat} (h : a + b ≤ 9223372036854775807) : wrap64 ((a : Int) + (b : Int)) = ((a + b : Nat) : Int) := by rw [← Int.natCast_add]; exact wnat h
theorem wadd1 {a : Nat} (h : a + 1 ≤ 9223372036854775807) : wrap64 ((a : Int) + 1) = ((a + 1 : Nat) : Int) := wadd (b := 1) h
theorem wmul {a b s : Nat} (hs : a * b = s) (h : s ≤ 9223372036854775807) : wrap64 ((a : Int) * (b : Int)) = (s : Int) := by rw [← Int.natCast_mul, hs]; exact wnat h
theorem wsub1 {a : Nat} (h : a ≤ 9223372036854775807) : wrap64 ((a : Int) - 1) = (a : Int) - 1 := w64 (by omega) (by omega)


/-- The number that a list of limbs stands for. -/
def val : List Int → Nat
  | [] => 0
  | x :: xs => x.toNat + 1000000000 * val xs
/-- Is each element a limb? -/
def Dig (l : List Int) : Prop := ∀ x ∈ l, 0 ≤ x ∧ x ≤ 999999999
theorem Dig_nil : Dig [] := fun x h => by simp at h
theorem Dig_cons {x : Int} {l : List Int} : Dig (x :: l) ↔ (0 ≤ x ∧ x ≤ 999999999) ∧ Dig l := by
  unfold Dig
  constructor
  · intro h
    exact ⟨h x (by simp), fun y hy => h y (by simp [hy])⟩
  · rintro ⟨h0, h⟩ y hy
    rcases List.mem_cons.1 hy with rfl | hy
    · exact h0
    · exact h y hy
theorem Dig_append {a b : List Int} : Dig (a ++ b) ↔ Dig a ∧ Dig b := by
  unfold Dig
  constructor
  · intro h
    exact ⟨fun y hy => h y (by simp [hy]), fun y hy => h y (by simp [hy])⟩
  · rintro ⟨h0, h⟩ y hy
    rcases List.mem_append.1 hy with hy | hy
    · exact h0 y hy
    · exact h y hy
theorem Dig_take {a : List Int} (n : Nat) (h : Dig a) : Dig (a.take n) := fun y hy => h y (List.mem_of_mem_take hy)
theorem Dig_drop {a : List Int} (n : Nat) (h : Dig a) : Dig (a.drop n) := fun y hy => h y (List.mem_of_mem_drop hy)
theorem Dig_rep (n : Nat) : Dig (List.replicate n 0) := fun y hy => by have := List.eq_of_mem_replicate hy; omega
theorem Dig_rd {l : List Int} (h : Dig l) (i : Nat) : 0 ≤ rd l (i : Int) ∧ rd l (i : Int) ≤ 999999999 := by
  rw [rd_nat, List.getD_eq_getElem?_getD]
  by_cases hi : i < l.length
  · rw [List.getElem?_eq_getElem hi]
    exact h _ (List.getElem_mem hi)
  · rw [List.getElem?_eq_none (by omega)]
    simp
theorem Dig_set {l : List Int} (h : Dig l) (i : Nat) {y : Int} (hy : 0 ≤ y ∧ y ≤ 999999999) : Dig (l.set i y) := by
  intro z hz
  rcases List.mem_or_eq_of_mem_set hz with hz | rfl
  · exact h z hz
  · exact hy
theorem val_append (a b : List Int) : val (a ++ b) = val a + 1000000000 ^ a.length * val b := by
  induction a with
  | nil => simp [val]
  | cons x xs ih =>
    simp only [List.cons_append, val, ih, List.length_cons, Nat.pow_succ]
    grind
theorem val_rep (n : Nat) : val (List.replicate n 0) = 0 := by
  induction n with
  | zero => rfl
  | succ n ih => simp [List.replicate_succ, val, ih]
theorem val_snoc (a : List Int) (x : Int) : val (a ++ [x]) = val a + 1000000000 ^ a.length * x.toNat := by
  rw [val_append]; simp [val]
theorem val_lt {l : List Int} (h : Dig l) : val l < 1000000000 ^ l.length := by
  induction l with
  | nil => simp [val]
  | cons x xs ih =>
    rw [Dig_cons] at h
    have := ih h.2
    simp only [val, List.length_cons, Nat.pow_succ]
    have hx : x.toNat ≤ 999999999 := by omega
    omega
theorem val_take (l : List Int) (i : Nat) (hi : i < l.length) : val (l.take (i + 1)) = val (l.take i) + 1000000000 ^ i * (rd l (i : Int)).toNat := by
  rw [take_snoc l i hi, val_snoc, List.length_take, Nat.min_eq_left (by omega)]
theorem val_set (l : List Int) : ∀ (i : Nat), i < l.length → ∀ y : Int, val (l.set i y) + (rd l (i : Int)).toNat * 1000000000 ^ i = val l + y.toNat * 1000000000 ^ i := by
  induction l with
  | nil => intro i hi; simp at hi
  | cons x xs ih =>
    intro i hi y
    cases i with
    | zero => simp [val, rd]; omega
    | succ i =>
      have e : rd (x :: xs) ((i + 1 : Nat) : Int) = rd xs (i : Int) := by rw [rd_nat, rd_nat, List.getD_cons_succ]
      have := ih i (by simpa using hi) y
      rw [e]
      simp only [List.set_cons_succ, val, Nat.pow_succ]
      grind
theorem dg_Dig : ∀ n, Dig (dg n) := by
  intro n
  induction n using Nat.strongRecOn with
  | _ n ih =>
    by_cases h0 : n = 0
    · subst h0; rw [dg_zero]; exact Dig_nil
    · rw [dg_pos h0, Dig_cons]
      exact ⟨by omega, ih _ (by omega)⟩
theorem val_dg : ∀ n, val (dg n) = n := by
  intro n
  induction n using Nat.strongRecOn with
  | _ n ih =>
    by_cases h0 : n = 0
    · subst h0; rw [dg_zero]; rfl
    · rw [dg_pos h0, val, ih _ (by omega)]
      simp
      omega
theorem lastOk_tail {x : Int} {l : List Int} (h : lastOk (x :: l)) : lastOk l := by
  unfold lastOk at *
  rcases h with h | h
  · simp at h
  · by_cases h0 : l = []
    · subst h0; exact .inl rfl
    · right
      have hp := len_pos h0
      have e : (x :: l).length - 1 = (l.length - 1) + 1 := by simp; omega
      rw [e, rd_nat, List.getD_cons_succ, ← rd_nat] at h
      exact h
/-- Limbs that end in no zero are those of their number. -/
theorem dg_val {l : List Int} (h : Dig l) (hl : lastOk l) : dg (val l) = l := by
  induction l with
  | nil => simp [val, dg_zero]
  | cons x xs ih =>
    rw [Dig_cons] at h
    have ih' := ih h.2 (lastOk_tail hl)
    have h0 : val (x :: xs) ≠ 0 := by
      intro h0
      simp only [val] at h0
      have hx : x = 0 := by omega
      have hv : val xs = 0 := by omega
      rw [hv, dg_zero] at ih'
      subst hx
      rw [← ih'] at hl
      rcases hl with hl | hl
      · simp at hl
      · simp [rd] at hl
    rw [dg_pos h0]
    simp only [val]
    have e1 : (x.toNat + 1000000000 * val xs) % 1000000000 = x.toNat := by omega
    have e2 : (x.toNat + 1000000000 * val xs) / 1000000000 = val xs := by omega
    rw [e1, e2, ih']
    congr 1
    omega
theorem trimTo_val {l : List Int} : ∀ i, i ≤ l.length → val (trimTo l i) = val (l.take i) := by
  intro i
  induction i with
  | zero => intro _; simp [trimTo, val]
  | succ i ih =>
    intro hi
    unfold trimTo
    by_cases h : rd l (i : Int) = 0
    · rw [if_pos h, ih (by omega), val_take l i (by omega), h]; simp
    · rw [if_neg h]
theorem trimTo_last {l : List Int} : ∀ i, i ≤ l.length → lastOk (trimTo l i) := by
  intro i
  induction i with
  | zero => intro _; exact .inl rfl
  | succ i ih =>
    intro hi
    unfold trimTo
    by_cases h : rd l (i : Int) = 0
    · rw [if_pos h]; exact ih (by omega)
    · rw [if_neg h]
      right
      have e : (l.take (i + 1)).length - 1 = i := by rw [List.length_take]; omega
      rw [e, rd_nat, List.getD_eq_getElem?_getD, List.getElem?_take, if_pos (by omega), ← List.getD_eq_getElem?_getD, ← rd_nat]
      exact h
theorem trimTo_Dig {l : List Int} (h : Dig l) : ∀ i, Dig (trimTo l i) := by
  intro i
  induction i with
  | zero => exact Dig_nil
  | succ i ih =>
    unfold trimTo
    split
    · exact ih
    · exact Dig_take _ h
theorem trim_dg_val {l : List Int} (h : Dig l) : trim l = dg (val l) := by
  unfold trim
  rw [← dg_val (trimTo_Dig h _) (trimTo_last _ (Nat.le_refl _)), trimTo_val _ (Nat.le_refl _), List.take_length]
theorem nok_iff {l : List Int} : nok l = true ↔ l.length ≤ 60 ∧ Dig l ∧ lastOk l := by
  unfold nok
  simp only [Bool.and_eq_true, decide_eq_true_iff, Bool.or_eq_true, List.isEmpty_iff, Bool.not_eq_true', decide_eq_false_iff_not, List.all_eq_true, inB]
  constructor
  · rintro ⟨⟨h1, h2⟩, h3⟩
    refine ⟨h1, fun x hx => by have := h3 x hx; omega, ?_⟩
    rcases h2 with h2 | h2
    · subst h2; exact .inl rfl
    · by_cases h0 : l = []
      · subst h0; exact .inl rfl
      · right
        have hp := len_pos h0
        have e : ((l.length - 1 : Nat) : Int) = (l.length : Int) - 1 := by omega
        rw [e]; exact h2
  · rintro ⟨h1, h2, h3⟩
    refine ⟨⟨h1, ?_⟩, fun x hx => by have := h2 x hx; omega⟩
    rcases h3 with h3 | h3
    · exact .inl (List.length_eq_zero_iff.mp h3)
    · by_cases h0 : l = []
      · exact .inl h0
      · right
        have hp := len_pos h0
        have e : ((l.length - 1 : Nat) : Int) = (l.length : Int) - 1 := by omega
        rw [e] at h3; exact h3
theorem nok_dg {l : List Int} (h : nok l = true) : dg (val l) = l := by
  obtain ⟨_, h2, h3⟩ := nok_iff.mp h
  exact dg_val h2 h3
theorem nok_Dig {l : List Int} (h : nok l = true) : Dig l := (nok_iff.mp h).2.1
/-- How long are a number's limbs? -/
theorem dg_len_iff (n k : Nat) : (dg n).length ≤ k ↔ n < 1000000000 ^ k := by
  constructor
  · intro h
    have := val_lt (dg_Dig n)
    rw [val_dg] at this
    exact Nat.lt_of_lt_of_le this (Nat.pow_le_pow_right (by omega) h)
  · exact dg_length k n
theorem dg_len_mono {m n : Nat} (h : m ≤ n) : (dg m).length ≤ (dg n).length := by
  rw [dg_len_iff]
  have := (dg_len_iff n (dg n).length).mp (Nat.le_refl _)
  omega
theorem dg_inj {m n : Nat} (h : dg m = dg n) : m = n := by rw [← val_dg m, ← val_dg n, h]
/-- Which is greater, told by numbers. -/
theorem cmpI_val {a b : List Int} (ha : Dig a) (hb : Dig b) (hl : a.length = b.length) : ∀ i, i ≤ a.length →
    cmpI a b i = if val (a.take i) < val (b.take i) then -1 else if val (a.take i) > val (b.take i) then 1 else 0 := by
  intro i
  induction i with
  | zero => intro _; simp [cmpI, val]
  | succ i ih =>
    intro hi
    have ih' := ih (by omega)
    have va := val_take a i (by omega)
    have vb := val_take b i (by omega)
    have la := val_lt (Dig_take i ha)
    have lb := val_lt (Dig_take i hb)
    rw [List.length_take, Nat.min_eq_left (by omega)] at la
    rw [List.length_take, Nat.min_eq_left (by omega)] at lb
    have ra := Dig_rd ha i
    have rb := Dig_rd hb i
    unfold cmpI
    rw [va, vb]
    generalize rd a (i : Int) = x at *
    generalize rd b (i : Int) = y at *
    generalize val (a.take i) = p at *
    generalize val (b.take i) = q at *
    obtain ⟨m, rfl⟩ : ∃ m : Nat, x = m := ⟨x.toNat, by omega⟩
    obtain ⟨n, rfl⟩ : ∃ n : Nat, y = n := ⟨y.toNat, by omega⟩
    simp only [Int.toNat_natCast]
    generalize 1000000000 ^ i = B at *
    by_cases c1 : (m : Int) < (n : Int)
    · have h : B * (m + 1) ≤ B * n := Nat.mul_le_mul_left B (by omega)
      rw [Nat.mul_add, Nat.mul_one] at h
      rw [if_pos c1, if_pos (by omega)]
    · by_cases c2 : (m : Int) > (n : Int)
      · have h : B * (n + 1) ≤ B * m := Nat.mul_le_mul_left B (by omega)
        rw [Nat.mul_add, Nat.mul_one] at h
        rw [if_neg c1, if_pos c2, if_neg (by omega), if_pos (by omega)]
      · have e : m = n := by omega
        subst e
        have e1 : (p + B * m < q + B * m) = (p < q) := propext (by omega)
        have e2 : (p + B * m > q + B * m) = (p > q) := propext (by omega)
        rw [if_neg c1, if_neg c2, ih']
        simp only [e1, e2]
theorem cmpL_dg (m n : Nat) : cmpL (dg m) (dg n) = if m < n then -1 else if m > n then 1 else 0 := by
  unfold cmpL
  by_cases h : (dg m).length = (dg n).length
  · rw [if_pos h, cmpI_val (dg_Dig m) (dg_Dig n) h _ (Nat.le_refl _), List.take_length, h, List.take_length, val_dg, val_dg]
  · rw [if_neg h]
    by_cases h2 : (dg m).length < (dg n).length
    · have : m < n := by
        rcases Nat.lt_or_ge m n with h3 | h3
        · exact h3
        · have := dg_len_mono h3; omega
      rw [if_pos h2, if_pos this]
    · have : n < m := by
        rcases Nat.lt_or_ge n m with h3 | h3
        · exact h3
        · have := dg_len_mono h3; omega
      rw [if_neg h2, if_neg (by omega), if_pos this]


/-! ### Rows of whole numbers -/
theorem W64 {i : Int} (h0 : -9223372036854775808 ≤ i) (h : i ≤ 9223372036854775807) : IntKind.i64.wrap i = i := by rw [IntKind.wrap_i64]; omega
def I (n : Int) : AV := .v (.int .i64 n)
def ints (l : List Int) : List AV := l.map I
def tsI (l : List Int) : AV := .ts l.length (ints l)
def slI (n : Nat) (l : List Int) : AV := .sl n 0 l.length 1
theorem I_def (n : Int) : .v (.int .i64 n) = I n := rfl
theorem ren_I (ρ : Nat → Nat) (n : Int) : (I n).ren ρ = I n := rfl
theorem renL_ints (ρ : Nat → Nat) (l : List Int) : AV.renL ρ (ints l) = ints l := by
  induction l with
  | nil => rfl
  | cons x r ih => simpa [ints, AV.renL, AV.ren, I] using ih
theorem ints_length (l : List Int) : (ints l).length = l.length := by simp [ints]
theorem ints_take (l : List Int) (n : Nat) : (ints l).take n = ints (l.take n) := by simp [ints]
theorem ints_drop (l : List Int) (n : Nat) : (ints l).drop n = ints (l.drop n) := by simp [ints]
theorem ints_append (a b : List Int) : ints a ++ ints b = ints (a ++ b) := by simp [ints]
theorem ints_set (l : List Int) (n : Nat) (x : Int) : setN (ints l) n (I x) = ints (l.set n x) := by rw [setN_eq]; simp [ints, List.map_set]
theorem nth_ints {l : List Int} {n : Nat} (h : n < l.length) : nth (ints l) n = some (I (rd l n)) := by
  rw [nth_eq]
  simp [ints, rd, h]
theorem nth_intsI {l : List Int} {i : Int} (h0 : 0 ≤ i) (h : i < l.length) : nth (ints l) i.toNat = some (I (rd l i)) := by
  rw [nth_ints (by omega), show ((i.toNat : Nat) : Int) = i by omega]
theorem ones_ints (l : List Int) : ones (ints l) = true := by
  induction l with
  | nil => rfl
  | cons x r ih => simpa [ints, ones, AV.one, I, Value.oneCell'] using ih
theorem repA_I (n : Nat) : repA n [I 0] = ints (List.replicate n 0) := by
  induction n with
  | zero => rfl
  | succ n ih =>
    have h1 : repA (n + 1) [I 0] = I 0 :: repA n [I 0] := by simp [repA, List.replicate_succ]
    rw [h1, ih]
    rfl
theorem plain_ints (l : List Int) : plainL (ints l) = true := by
  induction l with
  | nil => rfl
  | cons x r ih => simpa [ints, plainL, plainA, I] using ih
theorem res_ints (σ : Sto) (f : Nat) (l : List Int) : (ints l).map (res σ (f + 1)) = ints l := by
  induction l with
  | nil => rfl
  | cons x r ih => simp [ints, res, I]
theorem resOk_ints (σ : Sto) (f : Nat) (l : List Int) : (ints l).all (resOk σ (f + 1)) = true := by
  induction l with
  | nil => rfl
  | cons x r ih => simp [ints, resOk, I]
theorem blk_ren (ρ : Nat → Nat) (t : TypeId) (cs : List AV) : Blk.ren ρ ⟨t, cs⟩ = ⟨t, AV.renL ρ cs⟩ := rfl
theorem en_live (ρ : Nat → Nat) (b : Blk) : En.ren ρ (.live b) = .live (b.ren ρ) := rfl
theorem en_dead (ρ : Nat → Nat) : En.ren ρ .dead = .dead := rfl
theorem ints_nil : ints [] = [] := rfl
theorem ints_all (p : List Int) : (ints p).take (p.length * 1) = ints p := by rw [Nat.mul_one, ints_take, List.take_length]
theorem ints_snoc (p : List Int) (x : Int) : ints p ++ [.v (.int .i64 x)] = ints (p ++ [x]) := by rw [← ints_append]; rfl
theorem copy_ok {l : List Int} (h : l.length ≤ 1048577) : (ints l).length = l.length * 1 ∧ ones (ints l) = true ∧ 2 * l.length * 8 ≤ 281474976710656 ∧ l.length ≤ 9223372036854775807 :=
  ⟨by rw [ints_length]; omega, ones_ints l, by omega, by omega⟩
theorem dec_pos (n : Nat) : decide ((0 : Int) < (n : Int)) = decide (0 < n) := by
  by_cases h : 0 < n <;> simp [h] <;> omega
theorem dec_lt (m n : Nat) : decide ((m : Int) < (n : Int)) = decide (m < n) := by
  by_cases h : m < n <;> simp [h]
theorem frzL_ints (nm : Nat) (cs : List AV) (l : List Int) : AV.frzL nm cs (ints l) = ints l := by
  induction l with
  | nil => rfl
  | cons x r ih => simpa [ints, AV.frzL, AV.frz, I] using ih
theorem ints_one (x : Int) : ints [x] = [.v (.int .i64 x)] := rfl
theorem ints_take1 (x : Int) : (ints [x]).take 1 = ints [x] := rfl
theorem ints_mk (k : Int) (n : Nat) : (ints (mk k n)).take (n * 1) = ints (mk k n) := by rw [Nat.mul_one, ints_take, List.take_of_length_le (by rw [mk_length]; exact Nat.le_refl _)]
theorem ints_mk1 (k : Int) : (ints (mk k 1)).take 1 = ints (mk k 1) := ints_mk k 1
theorem flat_ints (l : List Int) : l.flatMap (fun n : Int => [AV.v (.int .i64 n)]) = ints l := by
  induction l with
  | nil => rfl
  | cons x r ih => rw [List.flatMap_cons, ih]; rfl
theorem ints_all' (p : List Int) : (ints p).take p.length = ints p := by rw [ints_take, List.take_length]
theorem snoc_ok {p : List Int} (h : p.length ≤ 1048576) : p.length ≤ (ints p).length ∧ 2 * (p.length + 1) * 8 ≤ 281474976710656 ∧ p.length ≤ 9223372036854775806 := ⟨by rw [ints_length]; omega, by omega, by omega⟩
theorem snoc_ok' {p : List Int} (h : p.length ≤ 1048576) : p.length * 1 ≤ (ints p).length ∧ 2 * (p.length + 1) * 8 ≤ 281474976710656 ∧ p.length ≤ 9223372036854775806 := ⟨by rw [ints_length]; omega, by omega, by omega⟩
end Go.Proofs.YtjnlpomfjlpikaaDoor.Ab
