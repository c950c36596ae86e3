/- The rounds of a division, in closed bundles of plain facts. -/
import Derived.Test.YtbblhgldfcodfaaAbD
set_option linter.unusedVariables false
set_option linter.unusedSimpArgs false
namespace Go.Proofs.Ytbblhgldfcodfaa.Ab
open Go Go.RowKit
/-! ### A division's rounds: what a walk needs of numbers and rows, in closed bundles -/
structure OverInts (i m t u1 v1 top ul vl il : Nat) : Prop where
  e1 : (((i + 1 : Nat) : Int) - 1 = (i : Int))
  e2 : IntKind.i64.wrap ((i : Int) - 1) = (i : Int) - 1
  d3 : decide ((0 : Int) ≤ (i : Int)) = true
  i0 : (0 ≤ ((i + (m + 2) : Nat) : Int)) = True
  i1 : (0 ≤ ((i + (m + 1) : Nat) : Int)) = True
  i2 : (0 ≤ ((i + m : Nat) : Int)) = True
  j0 : (((i + (m + 2) : Nat) : Int) < (ul : Int)) = True
  j1 : (((i + (m + 1) : Nat) : Int) < (ul : Int)) = True
  j2 : (((i + m : Nat) : Int) < (ul : Int)) = True
  x0 : IntKind.i64.wrap ((i : Int) + (vl : Int)) = ((i + (m + 2) : Nat) : Int)
  x1 : IntKind.i64.wrap (((i + (m + 2) : Nat) : Int) - 1) = ((i + (m + 1) : Nat) : Int)
  x2 : IntKind.i64.wrap (((i + (m + 2) : Nat) : Int) - 2) = ((i + m : Nat) : Int)
  x3 : IntKind.i64.wrap ((vl : Int) - 1) = ((m + 1 : Nat) : Int)
  x4 : IntKind.i64.wrap ((vl : Int) - 2) = (m : Int)
  l1 : (0 ≤ ((m + 1 : Nat) : Int)) = True
  l2 : (0 ≤ (m : Int)) = True
  l3 : (((m + 1 : Nat) : Int) < (vl : Int)) = True
  l4 : ((m : Int) < (vl : Int)) = True
  l5 : (0 < il) = True
  z1 : IntKind.i64.wrap ((t : Int) * 1000000000) = ((t * 1000000000 : Nat) : Int)
  z2 : IntKind.i64.wrap (((t * 1000000000 : Nat) : Int) + (u1 : Int)) = (top : Int)
  z3 : Int.tdiv (top : Int) (v1 : Int) = ((top / v1 : Nat) : Int)
  z4 : Int.tmod (top : Int) (v1 : Int) = ((top % v1 : Nat) : Int)
  z5 : IntKind.i64.wrap ((top / v1 : Nat) : Int) = ((top / v1 : Nat) : Int)
  z6 : ((v1 : Int) ≠ 0) = True
structure RoundIn (u v r qs : List Int) (i m N : Nat) : Prop where
  Du : Dig u
  Dv : Dig v
  hvl : v.length = m + 2
  f6 : 1000000000 ≤ 2 * (rd v ((m + 1 : Nat) : Int)).toNat
  hN : N + (m + 2) = u.length
  hi : i + 1 ≤ N
  hul : u.length ≤ 2000
  hrl : r.length = m + 2
  hrD : Dig r
  hrv : val r < val v
  hql : i + 1 + qs.length = N
  hqD : Dig qs
  hval : val (u.drop (i + 1)) = val qs * val v + val r
  hV0 : 0 < val v
structure RoundData (u v r qs : List Int) (i m N : Nat) (w pre zs : List Int) (t u1 u2 v1 v2 top U : Nat) : Prop where
  row : u.take (i + 1) ++ (r ++ List.replicate (N - (i + 1)) 0) = pre ++ (w ++ (t : Int) :: zs)
  prel : pre.length = i
  wl : w.length = m + 2
  Dw : Dig w
  t9 : t ≤ 999999999
  len : pre.length + v.length + 1 + zs.length ≤ 5000
  hs1 : u.length - i = m + 2 + 1 + zs.length
  hUw : (val w : Int) + (t : Int) * ((1000000000 ^ (m + 2) : Nat) : Int) = (U : Int)
  K : Knu U (val v) (val (w.take m)) (val (v.take m)) (1000000000 ^ m) t u1 u2 v1 v2
  htop : top = t * 1000000000 + u1
  k1 : U < (top / v1 + 1) * val v ∧ top / v1 ≤ 1000000001
  n0 : nth (ints (pre ++ (w ++ (t : Int) :: zs))) (i + (m + 2)) = some (I (t : Int))
  n1 : nth (ints (pre ++ (w ++ (t : Int) :: zs))) (i + (m + 1)) = some (I (u1 : Int))
  n2 : nth (ints (pre ++ (w ++ (t : Int) :: zs))) (i + m) = some (I (u2 : Int))
  y1 : nth (ints v) (m + 1) = some (I (v1 : Int))
  y2 : nth (ints v) m = some (I (v2 : Int))
  row2 : ∀ s : List Int, pre ++ (s ++ 0 :: zs) = u.take i ++ (s ++ List.replicate (N - i) 0)
  fin : ∀ (q : Nat) (s : List Int), q = U / val v → val s = U % val v → q ≤ 999999999 ∧ val s < val v ∧ val (u.drop i) = val ((q : Int) :: qs) * val v + val s
  W : OverInts i m t u1 v1 top u.length v.length (ints v).length
theorem round_data {u v r qs : List Int} {i m N : Nat} (H : RoundIn u v r qs i m N) : ∃ (w pre zs : List Int) (t u1 u2 v1 v2 top U : Nat), RoundData u v r qs i m N w pre zs t u1 u2 v1 v2 top U := by
  obtain ⟨Du, Dv, f5, f6, hN, hi, hul, hrl, hrD, hrv, hql, hqD, hval, hV0⟩ := H
  have hiu : i < u.length := by omega
  obtain ⟨x, hx⟩ : ∃ x : Nat, rd u (i : Int) = x := ⟨(rd u (i : Int)).toNat, by have := Dig_rd Du i; omega⟩
  obtain ⟨w, hw⟩ : ∃ w, w = ((x : Int) :: r).take (m + 2) := ⟨_, rfl⟩
  obtain ⟨t, ht⟩ : ∃ t : Nat, rd r ((m + 1 : Nat) : Int) = t := ⟨(rd r ((m + 1 : Nat) : Int)).toNat, by have := Dig_rd hrD (m + 1); omega⟩
  have ht9 : t ≤ 999999999 := by have := Dig_rd hrD (m + 1); omega
  obtain ⟨wa, wb⟩ := window (x : Int) r (m + 2) hrl (by omega)
  rw [← hw] at wa wb
  rw [show m + 2 - 1 = m + 1 by omega, ht] at wa
  have Dxr : Dig ((x : Int) :: r) := Dig_cons.mpr ⟨by have := Dig_rd Du i; omega, hrD⟩
  have Dw : Dig w := by rw [hw]; exact Dig_take _ Dxr
  have hU : val w + t * 1000000000 ^ (m + 2) = x + 1000000000 * val r := by
    have h1 : val ((x : Int) :: r) = x + 1000000000 * val r := by simp [val]
    rw [← h1, wa, val_snoc, wb]
    simp [Nat.mul_comm]
  obtain ⟨pre, hpre⟩ : ∃ pre, pre = u.take i := ⟨_, rfl⟩
  have hprel : pre.length = i := by rw [hpre, List.length_take]; omega
  obtain ⟨zs, hzs⟩ : ∃ zs, zs = List.replicate (N - (i + 1)) (0 : Int) := ⟨_, rfl⟩
  have hzsl : zs.length = N - (i + 1) := by rw [hzs]; simp
  have hrow : u.take (i + 1) ++ (r ++ List.replicate (N - (i + 1)) 0) = pre ++ (w ++ (t : Int) :: zs) := by
    rw [take_snoc u i hiu, hx, ← hpre, ← hzs, List.append_assoc, List.singleton_append, ← List.cons_append, wa, List.append_assoc, List.singleton_append]
  have hrowl : (pre ++ (w ++ (t : Int) :: zs)).length = u.length := by
    simp only [List.length_append, List.length_cons, hprel, wb, hzsl]; omega
  obtain ⟨u1, hu1⟩ : ∃ u1 : Nat, rd w ((m + 1 : Nat) : Int) = u1 := ⟨(rd w ((m + 1 : Nat) : Int)).toNat, by have := Dig_rd Dw (m + 1); omega⟩
  obtain ⟨u2, hu2⟩ : ∃ u2 : Nat, rd w (m : Int) = u2 := ⟨(rd w (m : Int)).toNat, by have := Dig_rd Dw m; omega⟩
  obtain ⟨v1, hv1⟩ : ∃ v1 : Nat, rd v ((m + 1 : Nat) : Int) = v1 := ⟨(rd v ((m + 1 : Nat) : Int)).toNat, by have := Dig_rd Dv (m + 1); omega⟩
  obtain ⟨v2, hv2⟩ : ∃ v2 : Nat, rd v (m : Int) = v2 := ⟨(rd v (m : Int)).toNat, by have := Dig_rd Dv m; omega⟩
  have R0 : rd (pre ++ (w ++ (t : Int) :: zs)) ((i + (m + 2) : Nat) : Int) = (t : Int) := by
    rw [← hprel, rd_right, ← wb]
    exact rd_mid _ _ _
  have R1 : rd (pre ++ (w ++ (t : Int) :: zs)) ((i + (m + 1) : Nat) : Int) = (u1 : Int) := by
    rw [← hprel, rd_right, rd_left _ _ _ (by omega), hu1]
  have R2 : rd (pre ++ (w ++ (t : Int) :: zs)) ((i + m : Nat) : Int) = (u2 : Int) := by
    rw [← hprel, rd_right, rd_left _ _ _ (by omega), hu2]
  have hv1n : 1000000000 ≤ 2 * v1 := by rw [hv1] at f6; simpa using f6
  obtain ⟨o1, _, _, _⟩ := over_round u Du i hiu qs r (val v) hV0 hrv hval x hx _ rfl (dg ((x + 1000000000 * val r) % val v)) (val_dg _)
  rw [← hU] at o1
  have K := knu_of w v t m Dw Dv wb f5 ht9 u1 u2 v1 v2 hu1 hu2 hv1 hv2 hv1n o1
  have k1 := K.init
  have n0 := nth_ints (l := pre ++ (w ++ (t : Int) :: zs)) (n := i + (m + 2)) (by omega)
  have n1 := nth_ints (l := pre ++ (w ++ (t : Int) :: zs)) (n := i + (m + 1)) (by omega)
  have n2 := nth_ints (l := pre ++ (w ++ (t : Int) :: zs)) (n := i + m) (by omega)
  rw [R0] at n0
  rw [R1] at n1
  rw [R2] at n2
  have y1 := nth_ints (l := v) (n := m + 1) (by omega)
  have y2 := nth_ints (l := v) (n := m) (by omega)
  rw [hv1] at y1
  rw [hv2] at y2
  obtain ⟨e1, e2, d3, i0, i1, i2, j0, j1, j2, x0, x1, x2, x3, x4, l1, l2, l3, l4, l5, z1, z2, z3, z4, z5, z6⟩ := over_ints i m t u1 v1 (t * 1000000000 + u1) u.length v.length (ints v).length hul (by omega) f5 (ints_length v) ht9 K.b1 rfl (by omega) k1.2
  refine ⟨w, pre, zs, t, u1, u2, v1, v2, t * 1000000000 + u1, val w + t * 1000000000 ^ (m + 2), hrow, hprel, wb, Dw, ht9, by omega, by omega, ?_, K, rfl, k1, n0, n1, n2, y1, y2, ?_, ?_, ⟨e1, e2, d3, i0, i1, i2, j0, j1, j2, x0, x1, x2, x3, x4, l1, l2, l3, l4, l5, z1, z2, z3, z4, z5, z6⟩⟩
  · rw [Int.natCast_add, Int.natCast_mul]
  · intro s
    rw [hpre, hzs, show N - i = N - (i + 1) + 1 by omega, List.replicate_succ]
  · rintro q s hq hs
    obtain ⟨_, r2, r3, r4⟩ := over_round u Du i hiu qs r (val v) hV0 hrv hval x hx q (by rw [hq, hU]) s (by rw [hs, hU])
    exact ⟨r2, r3, r4⟩
/-! A guess that is put right -/
structure GuessIn (U V v1 top g rr : Nat) : Prop where
  hg1 : g * v1 + rr = top
  hg2 : U < (g + 1) * V
  hg3 : g ≤ 1000000001
  hg4 : rr ≤ 999999999
structure GuessData (U V v1 v2 u2 top g rr : Nat) : Prop where
  a1 : IntKind.i64.wrap ((g : Int) * (v2 : Int)) = ((g * v2 : Nat) : Int)
  a2 : IntKind.i64.wrap ((rr : Int) * 1000000000) = ((rr * 1000000000 : Nat) : Int)
  a3 : IntKind.i64.wrap (((rr * 1000000000 : Nat) : Int) + (u2 : Int)) = ((rr * 1000000000 + u2 : Nat) : Int)
  a4 : IntKind.i64.wrap ((rr : Int) + (v1 : Int)) = ((rr + v1 : Nat) : Int)
  a5 : 1 ≤ g → IntKind.i64.wrap ((g : Int) - 1) = ((g - 1 : Nat) : Int)
  b1 : decide ((1000000000 : Int) ≤ (g : Int)) = decide (1000000000 ≤ g)
  b2 : decide (((rr * 1000000000 + u2 : Nat) : Int) < ((g * v2 : Nat) : Int)) = decide (rr * 1000000000 + u2 < g * v2)
  b3 : decide ((1000000000 : Int) ≤ ((rr + v1 : Nat) : Int)) = decide (1000000000 ≤ rr + v1)
  go : (1000000000 ≤ g ∨ rr * 1000000000 + u2 < g * v2) → 1 ≤ g
  nx : (1000000000 ≤ g ∨ rr * 1000000000 + u2 < g * v2) → ¬ 1000000000 ≤ rr + v1 → GuessIn U V v1 top (g - 1) (rr + v1) ∧ g - 1 < g
  br : (1000000000 ≤ g ∨ rr * 1000000000 + u2 < g * v2) → 1000000000 ≤ rr + v1 → U < (g - 1 + 1) * V ∧ (g - 1) * V < U + V ∧ g - 1 ≤ 1000000001
  en : ¬ 1000000000 ≤ g → ¬ rr * 1000000000 + u2 < g * v2 → U < (g + 1) * V ∧ g * V < U + V ∧ g ≤ 1000000001
theorem guess_data {U V Ul Vl P t u1 u2 v1 v2 top g rr : Nat} (K : Knu U V Ul Vl P t u1 u2 v1 v2) (htop : top = t * 1000000000 + u1) (H : GuessIn U V v1 top g rr) : GuessData U V v1 v2 u2 top g rr := by
  obtain ⟨hg1, hg2, hg3, hg4⟩ := H
  have go : (1000000000 ≤ g ∨ rr * 1000000000 + u2 < g * v2) → 1 ≤ g ∧ U < g * V := fun hc => K.dec (by rw [hg1, htop]) hc
  have nx : 1 ≤ g → (g - 1) * v1 + (rr + v1) = top := fun h => by
    obtain ⟨k, rfl⟩ : ∃ k, g = k + 1 := ⟨g - 1, by omega⟩
    rw [← hg1, Nat.add_mul, Nat.add_sub_cancel]; omega
  have bd : ∀ a b : Nat, decide ((a : Int) < (b : Int)) = decide (a < b) := dec_lt
  have bl : ∀ b : Nat, decide ((1000000000 : Int) ≤ (b : Int)) = decide (1000000000 ≤ b) := fun b => by
    by_cases h : 1000000000 ≤ b
    · rw [decide_eq_true h]; exact decide_eq_true (by omega)
    · rw [decide_eq_false h]; exact decide_eq_false (by omega)
  obtain ⟨a1, a2, a3, a4, a5⟩ := guess_ints g rr v1 v2 u2 hg3 hg4 K.c1 K.c2 K.b2
  refine ⟨a1, a2, a3, a4, a5, bl g, bd _ _, bl _, fun h => (go h).1, ?_, ?_, ?_⟩
  · clear a1 a2 a3 a4 a5
    intro hc hb
    obtain ⟨p1, p2⟩ := go hc
    exact ⟨⟨nx p1, by rw [Nat.sub_add_cancel p1]; exact p2, by omega, by omega⟩, by omega⟩
  · clear a1 a2 a3 a4 a5
    intro hc hb
    obtain ⟨p1, p2⟩ := go hc
    refine ⟨by rw [Nat.sub_add_cancel p1]; exact p2, ?_, by omega⟩
    exact K.fin (r := rr + v1) (by rw [nx p1, htop]) (by omega) (K.brk (by omega) hb)
  · clear a1 a2 a3 a4 a5
    intro h1 h2
    exact ⟨hg2, K.fin (by rw [hg1, htop]) (by omega) (by omega), hg3⟩
/-! The round's end -/
structure EndData (U V g m : Nat) (s : List Int) : Prop where
  sv : val s = U % V
  sl : s.length = m + 2
  sD : Dig s
  ng : (U : Int) - (g : Int) * (V : Int) < 0 → (decide (topI (m + 2) ((U : Int) - (g : Int) * (V : Int)) < 0) = true) ∧ 1 ≤ g ∧ g - 1 = U / V ∧ -2000000000 ≤ topI (m + 2) ((U : Int) - (g : Int) * (V : Int)) ∧ topI (m + 2) ((U : Int) - (g : Int) * (V : Int)) ≤ 2000000000 ∧
    (val (lowL (m + 2) ((U : Int) - (g : Int) * (V : Int))) : Int) + topI (m + 2) ((U : Int) - (g : Int) * (V : Int)) * ((1000000000 ^ (m + 2) : Nat) : Int) + (V : Int) = ((U % V : Nat) : Int) ∧ IntKind.i64.wrap ((g : Int) - 1) = ((g - 1 : Nat) : Int)
  nn : ¬ ((U : Int) - (g : Int) * (V : Int) < 0) → (decide (topI (m + 2) ((U : Int) - (g : Int) * (V : Int)) < 0) = false) ∧ g = U / V ∧ (U : Int) - (g : Int) * (V : Int) = ((U % V : Nat) : Int)
  lo : lowL (m + 2) ((U % V : Nat) : Int) = s
  to : topI (m + 2) ((U % V : Nat) : Int) = 0
theorem end_data {U V g m : Nat} (hV0 : 0 < V) (hvP : V < 1000000000 ^ (m + 2)) (h1 : U < (g + 1) * V) (h2 : g * V < U + V) (h3 : g ≤ 1000000001) : EndData U V g m (lowL (m + 2) ((U % V : Nat) : Int)) := by
  obtain ⟨gk1, gk2⟩ := guess_ok hV0 h1 h2
  have hmod : U % V < V := Nat.mod_lt _ hV0
  refine ⟨?_, lowL_length _ _, lowL_Dig _ _, ?_, ?_, rfl, top_zero (Int.natCast_nonneg _) (Int.ofNat_lt.mpr (by omega))⟩
  · rw [low_val (Int.natCast_nonneg _) (Int.ofNat_lt.mpr (by omega)), Int.toNat_natCast]
  · intro hneg
    obtain ⟨q1, q2, q3⟩ := gk1 hneg
    have wv := win_val (m + 2) ((U : Int) - (g : Int) * (V : Int))
    have tb : -1 ≤ topI (m + 2) ((U : Int) - (g : Int) * (V : Int)) := by
      refine Int.le_ediv_of_mul_le (by have : 0 < 1000000000 ^ (m + 2) := Nat.pow_pos (by decide); omega) ?_
      have : (g : Int) * (V : Int) < U + V := by rw [← Int.natCast_mul]; exact_mod_cast h2
      omega
    have tb2 : topI (m + 2) ((U : Int) - (g : Int) * (V : Int)) < 0 := (topI_neg _ _).mpr hneg
    refine ⟨decide_eq_true tb2, q1, q2, by omega, by omega, by rw [wv, q3], ?_⟩
    clear wv q3
    rw [W64] <;> omega
  · intro hneg
    obtain ⟨q1, q2⟩ := gk2 hneg
    exact ⟨decide_eq_false (fun h => hneg ((topI_neg _ _).mp h)), q1, q2⟩
theorem rep_set (i : Nat) (qs : List Int) (z : Int) : (List.replicate (i + 1) 0 ++ qs).set i z = List.replicate i 0 ++ (z :: qs) := by
  have := set_mid (List.replicate i 0) qs 0 z
  rw [List.length_replicate] at this
  rw [List.replicate_succ', List.append_assoc, List.singleton_append, this, List.append_assoc]
  rfl
/-! The reference's guess: it is searched for -/
structure DigitData (R B m x b1 : Nat) : Prop where
  lb : (dg B).length = m + 1
  b0 : 1 ≤ b1
  b9 : b1 ≤ 999999999
  rb : rd (dg B) (m : Int) = b1
  lr : (dg R).length = m + 1 ∧ rd (dg R) (m : Int) = x ∧ x ≤ 999999999 ∨ (dg R).length = m + 2 ∧ ∃ y z : Nat, rd (dg R) (m : Int) = y ∧ rd (dg R) ((m + 1 : Nat) : Int) = z ∧ x = y + z * 1000000000 ∧ y ≤ 999999999 ∧ z ≤ 999999999
  lo : x / (b1 + 1) ≤ R / B
  hi : R / B ≤ x / b1
  q9 : R / B ≤ 999999999
  x9 : x ≤ 999999999999999999
theorem digit_data {R B : Nat} (hB : B ≠ 0) (h1 : B ≤ R) (h2 : R < B * 1000000000) : ∃ m x b1, DigitData R B m x b1 := by
  have hlb := dg_len_mono h1
  have hl0 : 0 < (dg B).length := by rw [dg_pos hB]; simp
  obtain ⟨m, hm⟩ : ∃ m, (dg B).length = m + 1 := ⟨(dg B).length - 1, by omega⟩
  obtain ⟨t1, t2, t3, t4, t5⟩ := dg_top B m hm
  obtain ⟨b1, hb1⟩ : ∃ b1, b1 = (rd (dg B) (m : Int)).toNat := ⟨_, rfl⟩
  rw [← hb1] at t1 t2 t3 t4
  have hBlt := (dg_len_iff B (m + 1)).mp (by omega)
  have hRlt : (dg R).length ≤ m + 2 := by
    rw [dg_len_iff, show m + 2 = (m + 1) + 1 by omega, Nat.pow_succ 1000000000 (m + 1)]
    exact Nat.lt_trans h2 ((Nat.mul_lt_mul_right (show 0 < 1000000000 by decide)).mpr hBlt)
  have hP : 0 < 1000000000 ^ m := Nat.pow_pos (by decide)
  have key : ∀ x Rl : Nat, R = Rl + 1000000000 ^ m * x → Rl < 1000000000 ^ m → x / (b1 + 1) ≤ R / B ∧ R / B ≤ x / b1 := by
    intro x Rl hR hRl
    constructor
    · rw [Nat.le_div_iff_mul_le (by omega)]
      have e1 : B ≤ 1000000000 ^ m * (b1 + 1) := by rw [Nat.mul_add, Nat.mul_one]; omega
      have e2 : x / (b1 + 1) * B ≤ x / (b1 + 1) * (1000000000 ^ m * (b1 + 1)) := Nat.mul_le_mul_left _ e1
      have e3 : x / (b1 + 1) * (1000000000 ^ m * (b1 + 1)) = 1000000000 ^ m * (x / (b1 + 1) * (b1 + 1)) := by grind
      have e4 : 1000000000 ^ m * (x / (b1 + 1) * (b1 + 1)) ≤ 1000000000 ^ m * x := Nat.mul_le_mul_left _ (Nat.div_mul_le_self _ _)
      omega
    · rw [Nat.le_div_iff_mul_le (by omega)]
      have e1 : 1000000000 ^ m * b1 ≤ B := by omega
      have e2 : R / B * (1000000000 ^ m * b1) ≤ R / B * B := Nat.mul_le_mul_left _ e1
      have e3 : R / B * (1000000000 ^ m * b1) = 1000000000 ^ m * (R / B * b1) := by grind
      have e4 := Nat.div_mul_le_self R B
      have e5 : 1000000000 ^ m * (R / B * b1) < 1000000000 ^ m * (x + 1) := by rw [Nat.mul_add, Nat.mul_one]; omega
      have := Nat.lt_of_mul_lt_mul_left e5
      omega
  have hq9 : R / B ≤ 999999999 := by
    have : R / B < 1000000000 := by rw [Nat.div_lt_iff_lt_mul (by omega), Nat.mul_comm]; exact h2
    omega
  have DR := dg_Dig R
  rcases Nat.lt_or_ge (m + 1) (dg R).length with h | h
  · have hl : (dg R).length = m + 2 := by omega
    have hv := val_top2 (dg R) DR m hl
    have ht := val_lt (Dig_take m DR)
    rw [List.length_take, Nat.min_eq_left (by omega)] at ht
    rw [val_dg] at hv
    have r1 := Dig_rd DR m
    have r2 := Dig_rd DR (m + 1)
    obtain ⟨y, hy⟩ : ∃ y : Nat, rd (dg R) (m : Int) = y := ⟨(rd (dg R) (m : Int)).toNat, by omega⟩
    obtain ⟨z, hz⟩ : ∃ z : Nat, rd (dg R) ((m + 1 : Nat) : Int) = z := ⟨(rd (dg R) ((m + 1 : Nat) : Int)).toNat, by omega⟩
    rw [hy] at hv r1
    rw [hz] at hv r2
    simp only [Int.toNat_natCast] at hv
    rw [Nat.mul_comm 1000000000 z] at hv
    obtain ⟨k1, k2⟩ := key (y + z * 1000000000) _ hv ht
    exact ⟨m, y + z * 1000000000, b1, hm, t1, t2, t3, .inr ⟨hl, y, z, hy, hz, rfl, by omega, by omega⟩, k1, k2, hq9, by omega⟩
  · have hl : (dg R).length = m + 1 := by omega
    obtain ⟨s1, s2, s3, s4, s5⟩ := dg_top R m hl
    obtain ⟨x, hx⟩ : ∃ x, x = (rd (dg R) (m : Int)).toNat := ⟨_, rfl⟩
    rw [← hx] at s1 s2 s3 s4
    obtain ⟨k1, k2⟩ := key x _ s4 s5
    exact ⟨m, x, b1, hm, t1, t2, t3, .inl ⟨hl, s3, s2⟩, k1, k2, hq9, by omega⟩
theorem tdiv_nn (a b : Nat) : Int.tdiv (a : Int) (b : Int) = ((a / b : Nat) : Int) := by rw [Int.tdiv_eq_ediv_of_nonneg (by omega)]; exact (Int.natCast_ediv a b).symm
theorem tmod_nn (a b : Nat) : Int.tmod (a : Int) (b : Int) = ((a % b : Nat) : Int) := by rw [Int.tmod_eq_emod_of_nonneg (by omega)]; exact (Int.natCast_emod a b).symm
theorem iw (n : Nat) (h : n ≤ 9223372036854775807) : IntKind.i64.wrap (n : Int) = (n : Int) := W64 (by omega) (by omega)
end Go.Proofs.Ytbblhgldfcodfaa.Ab
