/- Plain facts on products and quotients of limbs. -/
import Derived.Test.YtbblhgldfcodfaaAbN
set_option linter.unusedVariables false
set_option linter.unusedSimpArgs false
namespace Go.Proofs.Ytbblhgldfcodfaa.Ab
open Go Go.RowKit
section
variable {e : Env} {k : List KI} {fr : Fr} {σ : Sto}
/-- A block, told with its first n cells alone. -/
theorem Go.short (nm n : Nat) {b : Blk} (hb : nth σ nm = some (.live b)) (h : Go e k fr (setN σ nm (.live ⟨b.ty, b.cells.take n⟩))) : Go e k fr σ := fun ι S a w H =>
  h ι S a w (H.step (Step.retell (b := b) H.sr (by rw [← nth_eq]; exact hb) rfl (fun h => by rw [h]; simp) fun us hu => VRl.take n hu))
end
section
variable {e : Env} {fr : Fr} {σ σ' : Sto}
/-- The end of a function that hands nothing back. -/
theorem Go.fin0 {fn : Func} (hE : Ends e (.tup []) σ') (hf : e.fn = fn) (hr : fn.results = #[]) (L : List Nat) (h2 : nodupB L = true) (h3 : firstOk 0 e.σ0.length L = true) (h5 : FitL (rho L σ.length) σ L σ') : Go e [] fr σ :=
  Go.fin fun ι S a w H => by
    have hF : Fit e.σ0.length L [] σ' fr σ := Fit.mk' rfl h2 h3 trivial h5
    have H' := H.fit hF
    subst hf
    exact ⟨.tuple #[], by rw [results_none hr], hE _ _ _ w (by simp only [VR, VRe]; exact ⟨_, rfl, rfl⟩) H'.sr H'.ext⟩
end
section
variable {e : Env} {k : List KI} {fr : Fr} {σ : Sto}
/-- A block's code ends in one of a family of states; what follows is shown of the family, once. -/
theorem Go.cutB {c : Code} {id : Nat} {Y : Type} (post : Y → Prop) (F : Y → Fr) (T : Y → Sto) (h1 : Go e (.code c :: .blk id :: .inv (Again e post (fun _ => 0) F T 1) :: k) fr σ) (h2 : ∀ y, post y → Go e k (F y) (T y)) : Go e (.code c :: .blk id :: k) fr σ := by
  intro ι S a w H
  have h := h1 ι S a w H
  have key : ∀ a w, Again e post (fun _ => 0) F T 1 a w → Kpost e k .normal a w := by
    rintro a w ⟨y, ⟨hp, ι, S, hs⟩, _⟩
    exact h2 y hp ι S a w hs
  show c.wp e.P (Kpost e (.blk id :: k)) a w
  refine wp_mono h ?_
  intro x a w hx
  cases x with
  | normal => exact key a w hx
  | exit id' =>
    simp only [Kpost] at hx ⊢
    split
    · rename_i he
      rw [if_pos he] at hx
      exact key a w hx
    · rename_i he
      rw [if_neg he] at hx
      exact hx
  | _ => exact hx
end
/-! ### Products and quotients of limbs -/
/-- The first n limbs of a number. -/
def lim : Nat → Nat → List Int
  | 0, _ => []
  | n + 1, x => ((x % 1000000000 : Nat) : Int) :: lim n (x / 1000000000)
theorem lim_length : ∀ (n x : Nat), (lim n x).length = n
  | 0, _ => rfl
  | n + 1, x => by rw [lim, List.length_cons, lim_length n]
theorem lim_Dig : ∀ (n x : Nat), Dig (lim n x)
  | 0, _ => Dig_nil
  | n + 1, x => by
    rw [lim, Dig_cons]
    exact ⟨by omega, lim_Dig n _⟩
theorem lim_val : ∀ (l : List Int), Dig l → lim l.length (val l) = l
  | [], _ => rfl
  | x :: xs, h => by
    rw [Dig_cons] at h
    have e1 : (x.toNat + 1000000000 * val xs) % 1000000000 = x.toNat := by omega
    have e2 : (x.toNat + 1000000000 * val xs) / 1000000000 = val xs := by omega
    rw [List.length_cons, lim, val, e1, e2, lim_val xs h.2]
    congr 1
    omega
theorem val_lim : ∀ (n x : Nat), x < 1000000000 ^ n → val (lim n x) = x
  | 0, x, h => by
    have : x = 0 := by simpa using h
    subst this
    rfl
  | n + 1, x, h => by
    rw [lim, val, val_lim n (x / 1000000000) (Nat.div_lt_of_lt_mul (by rw [Nat.pow_succ] at h; omega))]
    simp only [Int.toNat_natCast]
    omega
/-- A number, maybe negative, as n limbs and what stands above them. -/
def lowL (n : Nat) (X : Int) : List Int := lim n (X % ((1000000000 ^ n : Nat) : Int)).toNat
def topI (n : Nat) (X : Int) : Int := X / ((1000000000 ^ n : Nat) : Int)
theorem lowL_length (n : Nat) (X : Int) : (lowL n X).length = n := lim_length _ _
theorem lowL_Dig (n : Nat) (X : Int) : Dig (lowL n X) := lim_Dig _ _
theorem win_eq {p : List Int} {t X : Int} {n : Nat} (hp : p.length = n) (hD : Dig p) (h : (val p : Int) + t * ((1000000000 ^ n : Nat) : Int) = X) : lowL n X = p ∧ topI n X = t := by
  have hlt := val_lt hD
  rw [hp] at hlt
  have hpos : 0 < 1000000000 ^ n := Nat.pow_pos (by decide)
  unfold lowL topI
  subst h
  generalize hB : 1000000000 ^ n = B at *
  have e1 : ((val p : Int) + t * (B : Int)) % (B : Int) = (val p : Int) := by
    rw [Int.add_mul_emod_self_right]
    exact Int.emod_eq_of_lt (by omega) (by omega)
  have e2 : ((val p : Int) + t * (B : Int)) / (B : Int) = t := by
    rw [Int.add_mul_ediv_right _ _ (by omega), Int.ediv_eq_zero_of_lt (by omega) (by omega)]
    omega
  rw [e1, e2]
  refine ⟨?_, rfl⟩
  rw [Int.toNat_natCast, ← hp]
  exact lim_val p hD
theorem win_val (n : Nat) (X : Int) : (val (lowL n X) : Int) + topI n X * ((1000000000 ^ n : Nat) : Int) = X := by
  have hpos : 0 < 1000000000 ^ n := Nat.pow_pos (by decide)
  unfold lowL topI
  have hm0 := Int.emod_nonneg X (show ((1000000000 ^ n : Nat) : Int) ≠ 0 by omega)
  have hm1 := Int.emod_lt_of_pos X (show (0 : Int) < ((1000000000 ^ n : Nat) : Int) by omega)
  have hd := Int.emod_add_mul_ediv X ((1000000000 ^ n : Nat) : Int)
  rw [val_lim _ _ (by omega), Int.toNat_of_nonneg hm0, Int.mul_comm]
  exact hd
theorem topI_neg (n : Nat) (X : Int) : topI n X < 0 ↔ X < 0 := by
  have hpos : 0 < 1000000000 ^ n := Nat.pow_pos (by decide)
  unfold topI
  generalize 1000000000 ^ n = B at *
  constructor
  · intro h
    rcases (show X < 0 ∨ 0 ≤ X by omega) with h1 | h1
    · exact h1
    · have := Int.ediv_nonneg h1 (show (0 : Int) ≤ (B : Int) by omega)
      omega
  · intro h
    exact Int.ediv_neg_of_neg_of_pos h (by omega)
theorem top_zero {n : Nat} {X : Int} (h0 : 0 ≤ X) (h : X < ((1000000000 ^ n : Nat) : Int)) : topI n X = 0 := Int.ediv_eq_zero_of_lt h0 h
theorem low_val {n : Nat} {X : Int} (h0 : 0 ≤ X) (h : X < ((1000000000 ^ n : Nat) : Int)) : val (lowL n X) = X.toNat := by
  have := win_val n X
  rw [top_zero h0 h] at this
  omega
/-! One limb of a product, of a quotient by one limb -/
theorem mul_in (b out : List Int) (hb : Dig b) (hD : Dig out) (n i j c V0 : Nat) (hn : n ≤ 999999999) (hc : c ≤ 999999999) (hj : j < b.length) (hl : i + b.length < out.length) (hv : val out + c * 1000000000 ^ (i + j) = V0 + n * val (b.take j) * 1000000000 ^ i) (o m : Nat) (ho : rd out ((i + j : Nat) : Int) = o) (hm : rd b (j : Int) = m) :
    o ≤ 999999999 ∧ m ≤ 999999999 ∧ n * m ≤ 999999998000000001 ∧ (o + n * m + c) / 1000000000 ≤ 999999999 ∧ Dig (out.set (i + j) (((o + n * m + c) % 1000000000 : Nat) : Int)) ∧
      val (out.set (i + j) (((o + n * m + c) % 1000000000 : Nat) : Int)) + ((o + n * m + c) / 1000000000) * 1000000000 ^ (i + (j + 1)) = V0 + n * val (b.take (j + 1)) * 1000000000 ^ i := by
  have ro := Dig_rd hD (i + j)
  have rb := Dig_rd hb j
  have vs := val_set out (i + j) (by omega) (((o + n * m + c) % 1000000000 : Nat) : Int)
  have vt := val_take b j hj
  rw [ho] at ro vs
  rw [hm] at rb vt
  have hm9 : m ≤ 999999999 := by omega
  have hnm : n * m ≤ 999999999 * 999999999 := Nat.mul_le_mul hn hm9
  refine ⟨by omega, hm9, by omega, by omega, Dig_set hD _ (by omega), ?_⟩
  simp only [Int.toNat_natCast] at vs vt
  rw [vt]
  have hx : 1000000000 * ((o + n * m + c) / 1000000000) + (o + n * m + c) % 1000000000 = o + n * m + c := Nat.div_add_mod _ _
  rw [show i + (j + 1) = (i + j) + 1 by omega, Nat.pow_succ]
  rw [Nat.pow_add] at vs hv ⊢
  generalize (o + n * m + c) / 1000000000 = q at *
  generalize (o + n * m + c) % 1000000000 = r at *
  generalize 1000000000 ^ i = Pi at *
  generalize 1000000000 ^ j = Pj at *
  generalize val (out.set (i + j) (r : Int)) = v' at *
  generalize val out = v at *
  generalize val (b.take j) = w at *
  clear ho hm ro rb vt hD hb hl hj
  have h1 : q * (Pi * Pj * 1000000000) + r * (Pi * Pj) = (o + n * m + c) * (Pi * Pj) := by rw [← hx]; grind
  grind
theorem mul_out (a b out : List Int) (hD : Dig out) (i c : Nat) (hi : i < a.length) (hc : c ≤ 999999999) (hl : i + b.length < out.length) (hz : rd out ((i + b.length : Nat) : Int) = 0) (n : Nat) (hn : rd a (i : Int) = n) (hv : val out + c * 1000000000 ^ (i + b.length) = val (a.take i) * val b + n * val (b.take b.length) * 1000000000 ^ i) :
    Dig (out.set (i + b.length) (c : Int)) ∧ val (out.set (i + b.length) (c : Int)) = val (a.take (i + 1)) * val b := by
  have vs := val_set out (i + b.length) hl (c : Int)
  have vt := val_take a i hi
  rw [hz] at vs
  rw [hn] at vt
  refine ⟨Dig_set hD _ (by omega), ?_⟩
  simp only [Int.toNat_natCast, Int.toNat_zero, Nat.zero_mul, Nat.add_zero] at vs vt
  rw [List.take_length] at hv
  rw [vs, vt, hv]
  generalize 1000000000 ^ i = Pi at *
  grind
theorem small_step (a : List Int) (ha : Dig a) (i : Nat) (hi : i < a.length) (q : List Int) (hq : Dig q) (b rest : Nat) (hb : b ≤ 999999999) (hr : rest < b) (hv : val (a.drop (i + 1)) = val q * b + rest) (x : Nat) (hx : rd a (i : Int) = x) :
    x ≤ 999999999 ∧ rest * 1000000000 + x ≤ 999999999999999999 ∧ (rest * 1000000000 + x) / b ≤ 999999999 ∧ Dig ((((rest * 1000000000 + x) / b : Nat) : Int) :: q) ∧ val (a.drop i) = val ((((rest * 1000000000 + x) / b : Nat) : Int) :: q) * b + (rest * 1000000000 + x) % b := by
  have ra := Dig_rd ha i
  rw [hx] at ra
  have hle : (rest * 1000000000 + x) / b < 1000000000 := by
    rw [Nat.div_lt_iff_lt_mul (by omega)]
    omega
  have hle2 : (rest * 1000000000 + x) / b ≤ 999999999 := Nat.le_of_lt_succ hle
  refine ⟨by omega, by omega, hle2, Dig_cons.mpr ⟨⟨Int.natCast_nonneg _, Int.ofNat_le.mpr hle2⟩, hq⟩, ?_⟩
  rw [drop_rd a i hi, hx, val, val, hv]
  simp only [Int.toNat_natCast]
  have hd : b * ((rest * 1000000000 + x) / b) + (rest * 1000000000 + x) % b = rest * 1000000000 + x := Nat.div_add_mod _ _
  generalize (rest * 1000000000 + x) / b = d at *
  generalize (rest * 1000000000 + x) % b = m at *
  grind
theorem take_step (w v p : List Int) (hw : Dig w) (hv : Dig v) (i g c : Nat) (hi : i < v.length) (hiw : i < w.length) (hp : p.length = i) (hg : g ≤ 1000000001) (hc : c ≤ g) (h : (val p : Int) - (c : Int) * ((1000000000 ^ i : Nat) : Int) = (val (w.take i) : Int) - (g : Int) * (val (v.take i) : Int)) (x m s : Nat) (hx : rd w (i : Int) = x) (hm : rd v (i : Int) = m) (hs : s = g * m) :
    x ≤ 999999999 ∧ m ≤ 999999999 ∧ s ≤ 1000000000999999999 ∧ ∃ c' y : Nat, c' ≤ g ∧ y ≤ 999999999 ∧ ((x : Int) - s - c < 0 → Int.tdiv (999999999 - ((x : Int) - s - c)) 1000000000 = (c' : Int)) ∧ (¬ ((x : Int) - s - c < 0) → c' = 0) ∧ (y : Int) = x - s - c + c' * 1000000000 ∧
      (val (p ++ [(y : Int)]) : Int) - (c' : Int) * ((1000000000 ^ (i + 1) : Nat) : Int) = (val (w.take (i + 1)) : Int) - (g : Int) * (val (v.take (i + 1)) : Int) := by
  have rw_ := Dig_rd hw i
  have rv_ := Dig_rd hv i
  have vw := val_take w i hiw
  have vv := val_take v i hi
  rw [hx] at rw_ vw
  rw [hm] at rv_ vv
  have hm9 : m ≤ 999999999 := by omega
  have hsg : s ≤ g * 999999999 := by rw [hs]; exact Nat.mul_le_mul_left g hm9
  refine ⟨by omega, hm9, by omega, ?_⟩
  have key : ∀ c' y : Nat, (y : Int) = x - s - c + c' * 1000000000 → (val (p ++ [(y : Int)]) : Int) - (c' : Int) * ((1000000000 ^ (i + 1) : Nat) : Int) = (val (w.take (i + 1)) : Int) - (g : Int) * (val (v.take (i + 1)) : Int) := by
    intro c' y hy
    rw [vw, vv, val_snoc, hp, Nat.pow_succ]
    simp only [Int.toNat_natCast]
    subst hs
    generalize 1000000000 ^ i = P at *
    generalize val (w.take i) = W at *
    generalize val (v.take i) = V at *
    generalize val p = Q at *
    clear hx hm rw_ rv_ vw vv hw hv hsg
    simp only [Int.natCast_add, Int.natCast_mul] at *
    have h2 : (P : Int) * (y : Int) = P * (x - g * m - c + c' * 1000000000) := by rw [hy]
    grind
  by_cases hn : (x : Int) - s - c < 0
  · obtain ⟨z, hz⟩ : ∃ z : Nat, (z : Int) = s + c - x := ⟨s + c - x, by omega⟩
    refine ⟨(999999999 + z) / 1000000000, (999999999 + z) / 1000000000 * 1000000000 - z, by omega, by omega, fun _ => ?_, fun h => absurd hn h, by omega, key _ _ (by omega)⟩
    rw [show (999999999 : Int) - ((x : Int) - s - c) = ((999999999 + z : Nat) : Int) by omega, Int.tdiv_eq_ediv_of_nonneg (by omega)]
    omega
  · refine ⟨0, x - s - c, by omega, by omega, fun h => absurd h hn, fun _ => rfl, by omega, key _ _ (by omega)⟩
theorem divmod_of {a b q r : Nat} (h : a = q * b + r) (hr : r < b) : q = a / b ∧ r = a % b := by
  subst h
  constructor
  · rw [Nat.add_comm, Nat.add_mul_div_right _ _ (by omega), Nat.div_eq_of_lt hr]; omega
  · rw [Nat.add_comm, Nat.add_mul_mod_self_right, Nat.mod_eq_of_lt hr]
/-! A guess of a quotient's limb -/
structure Knu (U V Ul Vl P u0 u1 u2 v1 v2 : Nat) : Prop where
  hU : U = Ul + P * (u2 + 1000000000 * (u1 + 1000000000 * u0))
  hV : V = Vl + P * (v2 + 1000000000 * v1)
  ul : Ul < P
  vl : Vl < P
  b0 : u0 ≤ 999999999
  b1 : u1 ≤ 999999999
  b2 : u2 ≤ 999999999
  c1 : v1 ≤ 999999999
  c2 : v2 ≤ 999999999
  nv : 1000000000 ≤ 2 * v1
  lt : U < V * 1000000000
section
variable {U V Ul Vl P u0 u1 u2 v1 v2 : Nat}
theorem Knu.init (K : Knu U V Ul Vl P u0 u1 u2 v1 v2) : U < ((u0 * 1000000000 + u1) / v1 + 1) * V ∧ (u0 * 1000000000 + u1) / v1 ≤ 1000000001 := by
  obtain ⟨hU, hV, ul, vl, b0, b1, b2, c1, c2, nv, lt⟩ := K
  have hd : v1 * ((u0 * 1000000000 + u1) / v1) + (u0 * 1000000000 + u1) % v1 = u0 * 1000000000 + u1 := Nat.div_add_mod _ _
  have hm : (u0 * 1000000000 + u1) % v1 < v1 := Nat.mod_lt _ (by omega)
  constructor
  · have h1 : u0 * 1000000000 + u1 + 1 ≤ ((u0 * 1000000000 + u1) / v1 + 1) * v1 := by rw [Nat.add_mul, Nat.mul_comm _ v1]; omega
    generalize (u0 * 1000000000 + u1) / v1 + 1 = g at *
    have h2 : 1000000000 * (u0 * 1000000000 + u1 + 1) ≤ 1000000000 * (g * v1) := Nat.mul_le_mul_left _ h1
    have h3 : u2 + 1000000000 * (u1 + 1000000000 * u0) + 1 ≤ g * (v2 + 1000000000 * v1) := by
      have : g * (v2 + 1000000000 * v1) = g * v2 + 1000000000 * (g * v1) := by grind
      omega
    have h4 : P * (u2 + 1000000000 * (u1 + 1000000000 * u0) + 1) ≤ P * (g * (v2 + 1000000000 * v1)) := Nat.mul_le_mul_left _ h3
    have h5 : g * V = g * Vl + P * (g * (v2 + 1000000000 * v1)) := by rw [hV]; grind
    rw [Nat.mul_add] at h4
    omega
  · have h1 : P * (u2 + 1000000000 * (u1 + 1000000000 * u0)) < P * ((v2 + 1000000000 * v1 + 1) * 1000000000) := by
      have : V * 1000000000 ≤ P * ((v2 + 1000000000 * v1 + 1) * 1000000000) := by
        have e : V ≤ P * (v2 + 1000000000 * v1 + 1) := by rw [hV, Nat.mul_add P _ 1]; omega
        have := Nat.mul_le_mul_right 1000000000 e
        rwa [Nat.mul_assoc] at this
      omega
    have h2 := Nat.lt_of_mul_lt_mul_left h1
    have h3 : (u0 * 1000000000 + u1) / v1 < 1000000002 := by
      rw [Nat.div_lt_iff_lt_mul (by omega)]
      omega
    omega
theorem Knu.dec (K : Knu U V Ul Vl P u0 u1 u2 v1 v2) {g r : Nat} (hg : g * v1 + r = u0 * 1000000000 + u1) (hc : 1000000000 ≤ g ∨ r * 1000000000 + u2 < g * v2) : 1 ≤ g ∧ U < g * V := by
  obtain ⟨hU, hV, ul, vl, b0, b1, b2, c1, c2, nv, lt⟩ := K
  rcases hc with hc | hc
  · refine ⟨by omega, ?_⟩
    have := Nat.mul_le_mul_right V hc
    rw [Nat.mul_comm] at lt
    omega
  · have hg1 : 1 ≤ g := by
      rcases Nat.eq_zero_or_pos g with h | h
      · subst h; omega
      · exact h
    refine ⟨hg1, ?_⟩
    have h3 : u2 + 1000000000 * (u1 + 1000000000 * u0) + 1 ≤ g * (v2 + 1000000000 * v1) := by
      have : g * (v2 + 1000000000 * v1) = g * v2 + 1000000000 * (g * v1) := by grind
      omega
    have h4 : P * (u2 + 1000000000 * (u1 + 1000000000 * u0) + 1) ≤ P * (g * (v2 + 1000000000 * v1)) := Nat.mul_le_mul_left _ h3
    have h5 : g * V = g * Vl + P * (g * (v2 + 1000000000 * v1)) := by rw [hV]; grind
    rw [Nat.mul_add] at h4
    omega
theorem Knu.brk (K : Knu U V Ul Vl P u0 u1 u2 v1 v2) {g r : Nat} (hg : g ≤ 1000000000) (hr : 1000000000 ≤ r) : g * v2 ≤ r * 1000000000 + u2 := by
  have := Nat.mul_le_mul hg K.c2
  omega
theorem Knu.fin (K : Knu U V Ul Vl P u0 u1 u2 v1 v2) {g r : Nat} (hg : g * v1 + r = u0 * 1000000000 + u1) (hl : g ≤ 1000000000) (hc : g * v2 ≤ r * 1000000000 + u2) : g * V < U + V := by
  obtain ⟨hU, hV, ul, vl, b0, b1, b2, c1, c2, nv, lt⟩ := K
  have h3 : g * (v2 + 1000000000 * v1) ≤ u2 + 1000000000 * (u1 + 1000000000 * u0) := by
    have : g * (v2 + 1000000000 * v1) = g * v2 + 1000000000 * (g * v1) := by grind
    omega
  have h4 : P * (g * (v2 + 1000000000 * v1)) ≤ P * (u2 + 1000000000 * (u1 + 1000000000 * u0)) := Nat.mul_le_mul_left _ h3
  have h5 : g * V = g * Vl + P * (g * (v2 + 1000000000 * v1)) := by rw [hV]; grind
  have h6 : g * Vl ≤ 1000000000 * (P - 1) := Nat.mul_le_mul hl (by omega)
  have h7 : P * 1000000000 ≤ P * (v2 + 1000000000 * v1) := Nat.mul_le_mul_left _ (by omega)
  omega
end
/-- A number out of its last two limbs and the others. -/
theorem val_top2 (w : List Int) (hw : Dig w) (m : Nat) (hm : w.length = m + 2) : val w = val (w.take m) + 1000000000 ^ m * ((rd w (m : Int)).toNat + 1000000000 * (rd w ((m + 1 : Nat) : Int)).toNat) := by
  have h1 := val_take w m (by omega)
  have h2 := val_take w (m + 1) (by omega)
  rw [show m + 1 + 1 = w.length by omega, List.take_length] at h2
  rw [h2, h1, Nat.pow_succ]
  grind
theorem val_top1 (w : List Int) (m : Nat) (hm : w.length = m + 1) : val w = val (w.take m) + 1000000000 ^ m * (rd w (m : Int)).toNat := by
  have h1 := val_take w m (by omega)
  rwa [← hm, List.take_length] at h1
/-- The factor that makes the divisor's first limb great. -/
theorem norm_half (b : Nat) (h1 : 1 ≤ b) (h2 : b ≤ 999999999) : 1 ≤ 1000000000 / (b + 1) ∧ 1000000000 / (b + 1) * (b + 1) ≤ 1000000000 ∧ 1000000000 ≤ 2 * (b * (1000000000 / (b + 1))) := by
  have hd : (b + 1) * (1000000000 / (b + 1)) + 1000000000 % (b + 1) = 1000000000 := Nat.div_add_mod _ _
  have hm : 1000000000 % (b + 1) < b + 1 := Nat.mod_lt _ (by omega)
  have hp : 1 ≤ 1000000000 / (b + 1) := (Nat.le_div_iff_mul_le (by omega)).mpr (by omega)
  have hc : 1000000000 / (b + 1) * (b + 1) ≤ 1000000000 := Nat.div_mul_le_self _ _
  refine ⟨hp, hc, ?_⟩
  generalize 1000000000 / (b + 1) = d at *
  by_cases hbig : 500000000 ≤ b
  · have : b * 1 ≤ b * d := Nat.mul_le_mul_left _ hp
    omega
  · -- (b + 1) d = B - m, m ≤ b
    have h3 : (b + 1) * d = b * d + d := Nat.succ_mul b d
    have h4 : 2 * (b * d) + 1 ≥ 1000000000 := by
      rcases Nat.lt_or_ge (2 * (b * d) + 1) 1000000000 with h | h
      · exfalso
        -- b d ≤ 499999999, so d + m ≥ B - b d
        have h5 : d + b ≥ 500000001 := by omega
        obtain ⟨k, rfl⟩ : ∃ k, b = k + 1 := ⟨b - 1, by omega⟩
        obtain ⟨e, rfl⟩ : ∃ e, d = e + 1 := ⟨d - 1, by omega⟩
        have h6 : (k + 1) * (e + 1) = k * e + k + e + 1 := by grind
        omega
      · exact h
    omega
theorem Dig_dg (n : Nat) : Dig (dg n) := dg_Dig n
/-- A number's last limb. -/
theorem dg_top (n : Nat) (m : Nat) (hl : (dg n).length = m + 1) : 1 ≤ (rd (dg n) (m : Int)).toNat ∧ (rd (dg n) (m : Int)).toNat ≤ 999999999 ∧ rd (dg n) (m : Int) = ((rd (dg n) (m : Int)).toNat : Int) ∧ n = val ((dg n).take m) + 1000000000 ^ m * (rd (dg n) (m : Int)).toNat ∧ val ((dg n).take m) < 1000000000 ^ m := by
  have h1 := dg_last n
  have h2 := Dig_rd (dg_Dig n) m
  have h3 := val_top1 (dg n) m hl
  have h4 := val_lt (Dig_take m (dg_Dig n))
  rw [List.length_take, Nat.min_eq_left (by omega)] at h4
  rw [val_dg] at h3
  rcases h1 with h1 | h1
  · omega
  · rw [hl, Nat.add_sub_cancel] at h1
    exact ⟨by omega, by omega, by omega, h3, h4⟩
/-- The divisor made great. -/
theorem norm_ok (B m : Nat) (hl : (dg B).length = m + 2) (b1 d : Nat) (hb : rd (dg B) ((m + 1 : Nat) : Int) = b1) (hd : d = 1000000000 / (b1 + 1)) :
    1 ≤ b1 ∧ b1 ≤ 999999999 ∧ 1 ≤ d ∧ d ≤ 500000000 ∧ (dg (B * d)).length = m + 2 ∧ 1000000000 ≤ 2 * (rd (dg (B * d)) ((m + 1 : Nat) : Int)).toNat := by
  obtain ⟨t1, t2, t3, t4, t5⟩ := dg_top B (m + 1) hl
  have e : (rd (dg B) ((m + 1 : Nat) : Int)).toNat = b1 := by omega
  rw [e] at t1 t2 t4
  obtain ⟨n1, n2, n3⟩ := norm_half b1 t1 t2
  rw [← hd] at n1 n2 n3
  have hd5 : d ≤ 500000000 := by
    have : d * 2 ≤ d * (b1 + 1) := Nat.mul_le_mul_left d (by omega)
    omega
  have hP : 0 < 1000000000 ^ (m + 1) := Nat.pow_pos (by decide)
  -- B d < base^(m+2)
  have hup : B * d < 1000000000 ^ (m + 2) := by
    have h1 : B < 1000000000 ^ (m + 1) * (b1 + 1) := by rw [Nat.mul_add, Nat.mul_one]; omega
    have h2 : B * d < 1000000000 ^ (m + 1) * (b1 + 1) * d := (Nat.mul_lt_mul_right (by omega)).mpr h1
    have h3 : 1000000000 ^ (m + 1) * (b1 + 1) * d = 1000000000 ^ (m + 1) * (d * (b1 + 1)) := by grind
    have h4 : 1000000000 ^ (m + 1) * (d * (b1 + 1)) ≤ 1000000000 ^ (m + 1) * 1000000000 := Nat.mul_le_mul_left _ n2
    rw [show m + 2 = (m + 1) + 1 by omega, Nat.pow_succ 1000000000 (m + 1)]
    omega
  have hlow : 1000000000 ^ (m + 1) * (b1 * d) ≤ B * d := by
    have h1 : 1000000000 ^ (m + 1) * b1 ≤ B := by omega
    have := Nat.mul_le_mul_right d h1
    rwa [Nat.mul_assoc] at this
  have hlen : (dg (B * d)).length = m + 2 := by
    have h1 : (dg (B * d)).length ≤ m + 2 := dg_length _ _ hup
    have h2 : ¬ (dg (B * d)).length ≤ m + 1 := by
      rw [dg_len_iff]
      have : 1000000000 ^ (m + 1) * 1 ≤ 1000000000 ^ (m + 1) * (b1 * d) := Nat.mul_le_mul_left _ (by omega)
      omega
    omega
  obtain ⟨s1, s2, s3, s4, s5⟩ := dg_top (B * d) (m + 1) hlen
  refine ⟨t1, t2, n1, hd5, hlen, ?_⟩
  generalize (rd (dg (B * d)) ((m + 1 : Nat) : Int)).toNat = v1 at *
  have hv1 : b1 * d ≤ v1 := by
    rcases Nat.lt_or_ge v1 (b1 * d) with h | h
    · exfalso
      have h6 : 1000000000 ^ (m + 1) * (v1 + 1) ≤ 1000000000 ^ (m + 1) * (b1 * d) := Nat.mul_le_mul_left _ h
      rw [Nat.mul_add, Nat.mul_one] at h6
      omega
    · exact h
  omega
/-- The window of one round: its first limbs and its last. -/
theorem window (x : Int) (r : List Int) (n : Nat) (hr : r.length = n) (hn : 0 < n) : x :: r = (x :: r).take n ++ [rd r ((n - 1 : Nat) : Int)] ∧ ((x :: r).take n).length = n := by
  have hl : (x :: r).length = n + 1 := by simp [hr]
  constructor
  · have h := take_snoc (x :: r) n (by omega)
    rw [List.take_of_length_le (by omega)] at h
    have e : rd (x :: r) (n : Int) = rd r ((n - 1 : Nat) : Int) := by
      obtain ⟨m, rfl⟩ : ∃ m, n = m + 1 := ⟨n - 1, by omega⟩
      rw [rd_nat, rd_nat, List.getD_cons_succ]
      simp
    rw [e] at h
    exact h
  · rw [List.length_take]; omega
/-- The figures of a window over a divisor. -/
theorem knu_of (w v : List Int) (t m : Nat) (hw : Dig w) (hv : Dig v) (hwl : w.length = m + 2) (hvl : v.length = m + 2) (ht : t ≤ 999999999) (u1 u2 v1 v2 : Nat) (hu1 : rd w ((m + 1 : Nat) : Int) = u1) (hu2 : rd w (m : Int) = u2) (hv1 : rd v ((m + 1 : Nat) : Int) = v1) (hv2 : rd v (m : Int) = v2) (hn : 1000000000 ≤ 2 * v1) (hlt : val w + t * 1000000000 ^ (m + 2) < val v * 1000000000) :
    Knu (val w + t * 1000000000 ^ (m + 2)) (val v) (val (w.take m)) (val (v.take m)) (1000000000 ^ m) t u1 u2 v1 v2 := by
  have a1 := val_top2 w hw m hwl
  have a2 := val_top2 v hv m hvl
  have b1 := val_lt (Dig_take m hw)
  have b2 := val_lt (Dig_take m hv)
  rw [List.length_take, Nat.min_eq_left (by omega)] at b1 b2
  have r1 := Dig_rd hw m
  have r2 := Dig_rd hw (m + 1)
  have r3 := Dig_rd hv m
  have r4 := Dig_rd hv (m + 1)
  rw [hu1] at a1 r2
  rw [hu2] at a1 r1
  rw [hv1] at a2 r4
  rw [hv2] at a2 r3
  simp only [Int.toNat_natCast] at a1 a2
  refine ⟨?_, a2, b1, b2, ht, by omega, by omega, by omega, by omega, hn, hlt⟩
  rw [a1, Nat.pow_succ, Nat.pow_succ]
  grind
/-- The guess, put right. -/
theorem guess_ok {U V g : Nat} (hV : 0 < V) (h1 : U < (g + 1) * V) (h2 : g * V < U + V) :
    ((U : Int) - g * V < 0 → 1 ≤ g ∧ g - 1 = U / V ∧ (U : Int) - g * V + V = ((U % V : Nat) : Int)) ∧ (¬ ((U : Int) - g * V < 0) → g = U / V ∧ (U : Int) - g * V = ((U % V : Nat) : Int)) := by
  constructor
  · intro hneg
    have hg : 1 ≤ g := by
      rcases Nat.eq_zero_or_pos g with h | h
      · subst h; simp at hneg; omega
      · exact h
    obtain ⟨k, rfl⟩ : ∃ k, g = k + 1 := ⟨g - 1, by omega⟩
    rw [Nat.add_mul, Nat.one_mul] at h2
    have hneg' : (U : Int) - ((k * V : Nat) : Int) - V < 0 := by
      rw [Int.natCast_mul]
      have : (((k + 1 : Nat) : Int)) * V = k * V + V := by rw [Int.natCast_add, Int.add_mul]; simp
      omega
    obtain ⟨r, hr⟩ : ∃ r, U = k * V + r := ⟨U - k * V, by omega⟩
    obtain ⟨q1, q2⟩ := divmod_of hr (by omega)
    refine ⟨hg, by omega, ?_⟩
    rw [← q2]
    have : (((k + 1 : Nat) : Int)) * V = ((k * V : Nat) : Int) + V := by rw [Int.natCast_add, Int.add_mul, Int.natCast_mul]; simp
    omega
  · intro hneg
    rw [← Int.natCast_mul] at hneg ⊢
    obtain ⟨r, hr⟩ : ∃ r, U = g * V + r := ⟨U - g * V, by omega⟩
    rw [Nat.add_mul, Nat.one_mul] at h1
    obtain ⟨q1, q2⟩ := divmod_of hr (by omega)
    exact ⟨q1, by rw [← q2]; omega⟩
/-- One round of the division, told of numbers. -/
theorem over_round (u : List Int) (hu : Dig u) (i : Nat) (hi : i < u.length) (qs r : List Int) (V : Nat) (hV : 0 < V) (hr : val r < V) (hv : val (u.drop (i + 1)) = val qs * V + val r) (x : Nat) (hx : rd u (i : Int) = x) (q : Nat) (hq : q = (x + 1000000000 * val r) / V) (s : List Int) (hs : val s = (x + 1000000000 * val r) % V) :
    x + 1000000000 * val r < V * 1000000000 ∧ q ≤ 999999999 ∧ val s < V ∧ val (u.drop i) = val ((q : Int) :: qs) * V + val s := by
  have rx := Dig_rd hu i
  rw [hx] at rx
  have hlt : x + 1000000000 * val r < V * 1000000000 := by omega
  refine ⟨hlt, ?_, by rw [hs]; exact Nat.mod_lt _ hV, ?_⟩
  · have : (x + 1000000000 * val r) / V < 1000000000 := by
      rw [Nat.div_lt_iff_lt_mul hV, Nat.mul_comm 1000000000 V]
      exact hlt
    omega
  · rw [drop_rd u i hi, hx, val, val, hv, hs, hq]
    simp only [Int.toNat_natCast]
    have hd : V * ((x + 1000000000 * val r) / V) + (x + 1000000000 * val r) % V = x + 1000000000 * val r := Nat.div_add_mod _ _
    generalize (x + 1000000000 * val r) / V = a at *
    generalize (x + 1000000000 * val r) % V = b at *
    grind
theorem mul_len (A d : Nat) (h1 : 1 ≤ d) (h2 : d ≤ 1000000000) : (dg A).length ≤ (dg (A * d)).length ∧ (dg (A * d)).length ≤ (dg A).length + 1 := by
  constructor
  · refine dg_len_mono ?_
    have := Nat.mul_le_mul_left A h1
    omega
  · rw [dg_len_iff, Nat.pow_succ]
    have h3 := (dg_len_iff A (dg A).length).mp (Nat.le_refl _)
    have h4 := Nat.mul_le_mul_left A h2
    have h5 := (Nat.mul_lt_mul_right (show 0 < 1000000000 by decide)).mpr h3
    omega
theorem rd_right (p s : List Int) (k : Nat) : rd (p ++ s) ((p.length + k : Nat) : Int) = rd s (k : Int) := by
  rw [rd_nat, rd_nat, List.getD_eq_getElem?_getD, List.getElem?_append_right (by omega), List.getD_eq_getElem?_getD, Nat.add_sub_cancel_left]
theorem rd_left (p s : List Int) (k : Nat) (h : k < p.length) : rd (p ++ s) (k : Int) = rd p (k : Int) := by
  rw [rd_nat, rd_nat, List.getD_eq_getElem?_getD, List.getElem?_append_left h, List.getD_eq_getElem?_getD]
/-- What int computes in one round of the division. -/
theorem over_ints (i m t u1 v1 top ul vl il : Nat) (h1 : ul ≤ 2000) (h2 : i + (m + 2) < ul) (h3 : vl = m + 2) (h4 : il = vl) (ht : t ≤ 999999999) (hu : u1 ≤ 999999999) (htop : top = t * 1000000000 + u1) (hv0 : 0 < v1) (hg : top / v1 ≤ 1000000001) :
    (((i + 1 : Nat) : Int) - 1 = (i : Int)) ∧ IntKind.i64.wrap ((i : Int) - 1) = (i : Int) - 1 ∧ decide ((0 : Int) ≤ (i : Int)) = true ∧
    (0 ≤ ((i + (m + 2) : Nat) : Int)) = True ∧ (0 ≤ ((i + (m + 1) : Nat) : Int)) = True ∧ (0 ≤ ((i + m : Nat) : Int)) = True ∧
    (((i + (m + 2) : Nat) : Int) < (ul : Int)) = True ∧ (((i + (m + 1) : Nat) : Int) < (ul : Int)) = True ∧ (((i + m : Nat) : Int) < (ul : Int)) = True ∧
    IntKind.i64.wrap ((i : Int) + (vl : Int)) = ((i + (m + 2) : Nat) : Int) ∧ IntKind.i64.wrap (((i + (m + 2) : Nat) : Int) - 1) = ((i + (m + 1) : Nat) : Int) ∧ IntKind.i64.wrap (((i + (m + 2) : Nat) : Int) - 2) = ((i + m : Nat) : Int) ∧
    IntKind.i64.wrap ((vl : Int) - 1) = ((m + 1 : Nat) : Int) ∧ IntKind.i64.wrap ((vl : Int) - 2) = (m : Int) ∧
    (0 ≤ ((m + 1 : Nat) : Int)) = True ∧ (0 ≤ (m : Int)) = True ∧ (((m + 1 : Nat) : Int) < (vl : Int)) = True ∧ ((m : Int) < (vl : Int)) = True ∧ (0 < il) = True ∧
    IntKind.i64.wrap ((t : Int) * 1000000000) = ((t * 1000000000 : Nat) : Int) ∧ IntKind.i64.wrap (((t * 1000000000 : Nat) : Int) + (u1 : Int)) = (top : Int) ∧
    Int.tdiv (top : Int) (v1 : Int) = ((top / v1 : Nat) : Int) ∧ Int.tmod (top : Int) (v1 : Int) = ((top % v1 : Nat) : Int) ∧ IntKind.i64.wrap ((top / v1 : Nat) : Int) = ((top / v1 : Nat) : Int) ∧ ((v1 : Int) ≠ 0) = True := by
  refine ⟨by omega, by rw [W64] <;> omega, decide_eq_true (by omega), eq_true (by omega), eq_true (by omega), eq_true (by omega), eq_true (by omega), eq_true (by omega), eq_true (by omega), by rw [W64] <;> omega, by rw [W64] <;> omega, by rw [W64] <;> omega, by rw [W64] <;> omega, by rw [W64] <;> omega, eq_true (by omega), eq_true (by omega), eq_true (by omega), eq_true (by omega), eq_true (by omega), by rw [W64] <;> omega, by rw [W64] <;> omega, ?_, ?_, ?_, eq_true (by omega)⟩
  · rw [Int.tdiv_eq_ediv_of_nonneg (by omega)]; exact (Int.natCast_ediv top v1).symm
  · rw [Int.tmod_eq_emod_of_nonneg (by omega)]; exact (Int.natCast_emod top v1).symm
  · generalize top / v1 = z at *
    rw [W64] <;> omega
/-- What int computes while a guess is put right. -/
theorem guess_ints (g r v1 v2 u2 : Nat) (hg : g ≤ 1000000001) (hr : r ≤ 999999999) (hv1 : v1 ≤ 999999999) (hv2 : v2 ≤ 999999999) (hu2 : u2 ≤ 999999999) :
    IntKind.i64.wrap ((g : Int) * (v2 : Int)) = ((g * v2 : Nat) : Int) ∧ IntKind.i64.wrap ((r : Int) * 1000000000) = ((r * 1000000000 : Nat) : Int) ∧ IntKind.i64.wrap (((r * 1000000000 : Nat) : Int) + (u2 : Int)) = ((r * 1000000000 + u2 : Nat) : Int) ∧ IntKind.i64.wrap ((r : Int) + (v1 : Int)) = ((r + v1 : Nat) : Int) ∧ (1 ≤ g → IntKind.i64.wrap ((g : Int) - 1) = ((g - 1 : Nat) : Int)) := by
  have h := Nat.mul_le_mul hg hv2
  rw [← Int.natCast_mul]
  generalize g * v2 = s at *
  exact ⟨by rw [W64] <;> omega, by rw [W64] <;> omega, by rw [W64] <;> omega, by rw [W64] <;> omega, fun h => by rw [W64] <;> omega⟩
end Go.Proofs.Ytbblhgldfcodfaa.Ab
