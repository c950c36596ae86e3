import Derived.Test.YtmnahdoomnbdoaaWWords
/- Plain facts on lists of whole numbers, for the pure statements of this seat. -/
namespace Go.Proofs.Ytmnahdoomnbdoaa.Lb
open Go.RowKit Go.Proofs.YtmnahdoomnbdoaaW.PrintWords

theorem w64 {i : Int} (h0 : -9223372036854775808 ≤ i) (h : i ≤ 9223372036854775807) : wrap64 i = i := by unfold wrap64; omega
theorem u64 {i : Int} (h0 : 0 ≤ i) (h : i ≤ 18446744073709551615) : IntKind.u64.wrap i = i := by
  rw [show IntKind.u64.wrap i = i % 18446744073709551616 from rfl]; omega

theorem wf64 {x : Int} (h : (Lit.int .i64 x).wf = true) : -9223372036854775808 ≤ x ∧ x ≤ 9223372036854775807 := by
  have h' : IntKind.i64.min ≤ x ∧ x ≤ IntKind.i64.max := by simpa [Lit.wf] using h
  exact ⟨h'.1, h'.2⟩
theorem fuel {n k : Nat} (h : n < k) : ∃ m, k = m + 1 ∧ n ≤ m := ⟨k - 1, by omega, by omega⟩

theorem len_pos {l : List Int} (h : l ≠ []) : 0 < l.length := by
  rcases l with _ | ⟨x, l⟩
  · exact absurd rfl h
  · simp
theorem rd_nat (l : List Int) (i : Nat) : rd l (i : Int) = l.getD i 0 := by unfold rd; simp
theorem rd_mid (p s : List Int) (x : Int) : rd (p ++ x :: s) (p.length : Int) = x := by
  rw [rd_nat, List.getD_eq_getElem?_getD, List.getElem?_append_right (Nat.le_refl _)]; simp
theorem set_mid (p s : List Int) (x y : Int) : (p ++ x :: s).set p.length y = (p ++ [y]) ++ s := by
  rw [List.set_append_right _ _ (Nat.le_refl _)]; simp
theorem len_snoc (p : List Int) (y : Int) : ((p ++ [y]).length : Int) = (p.length : Int) + 1 := by simp

/-- The numbers a, a + 1, .. -/
def mk : Int → Nat → List Int
  | _, 0 => []
  | a, n + 1 => a :: mk (a + 1) n
theorem mk_length : ∀ (a : Int) (n : Nat), (mk a n).length = n
  | _, 0 => rfl
  | a, n + 1 => by simp [mk, mk_length (a + 1) n]

theorem take_snoc (l : List Int) (i : Nat) (h : i < l.length) : l.take (i + 1) = l.take i ++ [rd l i] := by
  rw [List.take_succ_eq_append_getElem h, rd_nat, List.getD_eq_getElem?_getD, List.getElem?_eq_getElem h]; rfl
theorem copy_step (l : List Int) (i d : Nat) (h : i + (d + 1) = l.length) :
    (l.take i ++ List.replicate (d + 1) 0).set i (rd l i) = l.take (i + 1) ++ List.replicate d 0 := by
  have hi : (l.take i).length = i := by rw [List.length_take]; omega
  have := set_mid (l.take i) (List.replicate d 0) 0 (rd l i)
  rw [hi] at this
  rw [List.replicate_succ, this, take_snoc l i (by omega)]

/-- The limbs of a natural number, the least first. -/
def dg (n : Nat) : List Int := if h : n = 0 then [] else ((n % 1000000000 : Nat) : Int) :: dg (n / 1000000000)
termination_by n
decreasing_by omega
theorem dg_zero : dg 0 = [] := by rw [dg]; simp
theorem dg_pos {n : Nat} (h : n ≠ 0) : dg n = ((n % 1000000000 : Nat) : Int) :: dg (n / 1000000000) := by rw [dg]; simp [h]
theorem dg_length (m : Nat) : ∀ n, n < 1000000000 ^ m → (dg n).length ≤ m := by
  induction m with
  | zero => intro n h; have : n = 0 := by simpa using h
            subst this; rw [dg_zero]; simp
  | succ m ih =>
    intro n h
    by_cases h0 : n = 0
    · subst h0; rw [dg_zero]; simp
    · rw [dg_pos h0, List.length_cons]
      have := ih (n / 1000000000) (Nat.div_lt_of_lt_mul (by rw [Nat.pow_succ] at h; omega))
      omega

/-- A list without the zeros at its end, looked at up to place i. -/
def trimTo (l : List Int) : Nat → List Int
  | 0 => []
  | i + 1 => if rd l (i : Int) = 0 then trimTo l i else l.take (i + 1)
/-- A list without the zeros at its end. -/
def trim (l : List Int) : List Int := trimTo l l.length
theorem trimTo_le (l : List Int) : ∀ i, (trimTo l i).length ≤ i
  | 0 => by simp [trimTo]
  | i + 1 => by
    unfold trimTo
    split
    · have := trimTo_le l i; omega
    · rw [List.length_take]; omega
theorem trim_le (l : List Int) : (trim l).length ≤ l.length := trimTo_le l _
def capped (l : List Int) : List Int := if (trim l).length > 60 then [] else trim l
theorem capped_le (l : List Int) : (capped l).length ≤ 60 := by
  unfold capped
  split
  · simp
  · omega
/-- Does a list end in no zero? -/
def lastOk (l : List Int) : Prop := l.length = 0 ∨ rd l ((l.length - 1 : Nat) : Int) ≠ 0
theorem trim_ok {l : List Int} (h : lastOk l) : trim l = l := by
  unfold trim
  rcases h with h | h
  · rw [h]; simp [trimTo, List.length_eq_zero_iff.mp h]
  · by_cases h0 : l.length = 0
    · rw [h0]; simp [trimTo, List.length_eq_zero_iff.mp h0]
    · obtain ⟨n, hn⟩ : ∃ n, l.length = n + 1 := ⟨l.length - 1, by omega⟩
      rw [hn] at h ⊢
      simp only [trimTo]
      rw [if_neg (by simpa using h), ← hn, List.take_length]
theorem lastOk_cons (x : Int) {l : List Int} (h : lastOk l) (hx : x ≠ 0 ∨ l ≠ []) : lastOk (x :: l) := by
  unfold lastOk at *
  right
  rcases h with h | h
  · have : l = [] := List.length_eq_zero_iff.mp h
    subst this
    rcases hx with hx | hx
    · simpa [rd] using hx
    · exact absurd rfl hx
  · by_cases h0 : l = []
    · subst h0
      rcases hx with hx | hx
      · simpa [rd] using hx
      · exact absurd rfl hx
    · have hp : 0 < l.length := len_pos h0
      have e : (x :: l).length - 1 = (l.length - 1) + 1 := by simp; omega
      rw [e, rd_nat, List.getD_cons_succ, ← rd_nat]
      exact h
theorem dg_last : ∀ n, lastOk (dg n) := by
  intro n
  induction n using Nat.strongRecOn with
  | _ n ih =>
    by_cases h0 : n = 0
    · subst h0; rw [dg_zero]; exact .inl rfl
    · rw [dg_pos h0]
      apply lastOk_cons _ (ih _ (by omega))
      by_cases h1 : n / 1000000000 = 0
      · left; omega
      · right; rw [dg_pos h1]; simp
theorem trim_dg (n : Nat) : trim (dg n) = dg n := trim_ok (dg_last n)
theorem dg_nil {n : Nat} (h : dg n = []) : n = 0 := by
  by_cases h0 : n = 0
  · exact h0
  · rw [dg_pos h0] at h; simp at h

theorem drop_rd (l : List Int) (i : Nat) (h : i < l.length) : l.drop i = rd l i :: l.drop (i + 1) := by
  rw [List.drop_eq_getElem_cons h, rd_nat, List.getD_eq_getElem?_getD, List.getElem?_eq_getElem h]; rfl
def inB (x : Int) : Bool := decide (x ≥ 0) && decide (x ≤ 999999999)
/-- Does a list hold the limbs of a natural number of at most 60 limbs? -/
def nok (l : List Int) : Bool := decide (l.length ≤ 60) && (l.isEmpty || !decide (rd l ((l.length : Int) - 1) = 0)) && l.all inB
theorem nok_len {l : List Int} (h : nok l = true) : l.length ≤ 60 := by
  unfold nok at h
  simp only [Bool.and_eq_true, decide_eq_true_iff] at h
  exact h.1.1
/-- Which is greater, from limb i - 1 down? -/
def cmpI (a b : List Int) : Nat → Int
  | 0 => 0
  | i + 1 => if rd a (i : Int) < rd b (i : Int) then -1 else if rd a (i : Int) > rd b (i : Int) then 1 else cmpI a b i
def cmpL (a b : List Int) : Int := if a.length = b.length then cmpI a b a.length else if a.length < b.length then -1 else 1
/-- Are the last d elements alike? -/
def eqD (a b : List Int) : Nat → Bool
  | 0 => true
  | d + 1 => if rd a ((a.length - (d + 1) : Nat) : Int) = rd b ((a.length - (d + 1) : Nat) : Int) then eqD a b d else false
def eqL (a b : List Int) : Bool := if a.length = b.length then eqD a b a.length else false
/-- A number out of its first i limbs and what stands before them, as int computes it. -/
def hor (l : List Int) : Nat → Int → Int
  | 0, acc => acc
  | i + 1, acc => hor l i (wrap64 (wrap64 (acc * 1000000000) + rd l (i : Int)))

def bok (b : Bool) (l : List Int) : Bool := nok l && (!b || decide (0 < l.length))
theorem bok_len {b : Bool} {l : List Int} (h : bok b l = true) : l.length ≤ 60 := by
  unfold bok at h
  simp only [Bool.and_eq_true] at h
  exact nok_len h.1

theorem rd_take (l : List Int) {i n : Nat} (h : i < n) : rd (l.take n) (i : Int) = rd l (i : Int) := by
  rw [rd_nat, rd_nat, List.getD_eq_getElem?_getD, List.getD_eq_getElem?_getD, List.getElem?_take, if_pos h]
theorem rd_set_ne (l : List Int) (i t : Nat) (y : Int) (h : i ≠ t) : rd (l.set i y) (t : Int) = rd l (t : Int) := by
  rw [rd_nat, rd_nat, List.getD_eq_getElem?_getD, List.getD_eq_getElem?_getD, List.getElem?_set_ne h]

theorem wnat {a : Nat} (h : a ≤ 9223372036854775807) : wrap64 (a : Int) = (a : Int) := w64 (by omega) (by omega)
theorem wadd {a b : Nat} (h : a + b ≤ 9223372036854775807) : wrap64 ((a : Int) + (b : Int)) = ((a + b : Nat) : Int) := by rw [← Int.natCast_add]; exact wnat h
theorem wadd1 {a : Nat} (h : a + 1 ≤ 9223372036854775807) : wrap64 ((a : Int) + 1) = ((a + 1 : Nat) : Int) := wadd (b := 1) h
theorem wmul {a b s : Nat} (hs : a * b = s) (h : s ≤ 9223372036854775807) : wrap64 ((a : Int) * (b : Int)) = (s : Int) := by rw [← Int.natCast_mul, hs]; exact wnat h
theorem wsub1 {a : Nat} (h : a ≤ 9223372036854775807) : wrap64 ((a : Int) - 1) = (a : Int) - 1 := w64 (by omega) (by omega)

end Go.Proofs.Ytmnahdoomnbdoaa.Lb
