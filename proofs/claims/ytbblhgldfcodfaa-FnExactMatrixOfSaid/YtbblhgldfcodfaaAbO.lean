/- Contracts of the given program's functions and of the reference's (walks). -/
import Derived.Test.YtbblhgldfcodfaaAbA
import Derived.Test.YtbblhgldfcodfaaAbB
import Derived.Test.YtbblhgldfcodfaaAbP
import Derived.Test.YtbblhgldfcodfaaAbV
set_option linter.unusedVariables false
set_option linter.unusedSimpArgs false
namespace Go.Proofs.Ytbblhgldfcodfaa.Ab
open Go
/-! ### Lists of fractions in memory of one's own: the row, and two blocks a fraction -/
def cellsN : List FR → List Nat → List AV
  | x :: l, a :: b :: ns => .v (.bool x.1.1) :: .sl a 0 x.1.2.length 1 :: .sl b 0 x.2.length 1 :: cellsN l ns
  | _, _ => []
def blksO : List FR → Sto
  | [] => []
  | x :: l => .live ⟨3, ints x.1.2⟩ :: .live ⟨3, ints x.2⟩ :: blksO l
def segO (T : Nat) (l : List FR) : Sto := .live ⟨T, cellsN l (List.range' 1 (2 * l.length))⟩ :: blksO l
theorem blksO_length : ∀ l : List FR, (blksO l).length = 2 * l.length
  | [] => rfl
  | x :: l => by simp only [blksO, List.length_cons, blksO_length l]; omega
theorem segO_length (T : Nat) (l : List FR) : (segO T l).length = 2 * l.length + 1 := by simp [segO, blksO_length]
theorem blksO_append : ∀ a b : List FR, blksO (a ++ b) = blksO a ++ blksO b
  | [], b => rfl
  | x :: a, b => by simp [blksO, blksO_append a b]
theorem cellsN_length : ∀ (l : List FR) (ns : List Nat), ns.length = 2 * l.length → (cellsN l ns).length = l.length * 3
  | [], ns, h => rfl
  | x :: l, [], h => by simp at h
  | x :: l, [a], h => by simp at h; omega
  | x :: l, a :: b :: ns, h => by
    simp only [List.length_cons] at h
    simp only [cellsN, List.length_cons, cellsN_length l ns (by omega)]
    omega
theorem cellsN_append : ∀ (l : List FR) (ns : List Nat) (l' : List FR) (ns' : List Nat), ns.length = 2 * l.length → cellsN (l ++ l') (ns ++ ns') = cellsN l ns ++ cellsN l' ns'
  | [], ns, l', ns', h => by
    have : ns = [] := List.length_eq_zero_iff.mp (by simpa using h)
    subst this
    simp [cellsN]
  | x :: l, [], l', ns', h => by simp at h
  | x :: l, [a], l', ns', h => by simp at h; omega
  | x :: l, a :: b :: ns, l', ns', h => by
    simp only [List.length_cons] at h
    simp only [List.cons_append, cellsN, cellsN_append l ns l' ns' (by omega)]
theorem renL_cellsN (ρ : Nat → Nat) : ∀ (l : List FR) (ns : List Nat), AV.renL ρ (cellsN l ns) = cellsN l (ns.map ρ)
  | [], ns => by cases ns <;> rfl
  | x :: l, [] => rfl
  | x :: l, [a] => rfl
  | x :: l, a :: b :: ns => by
    simp only [cellsN, List.map_cons, AV.renL, AV.ren, renL_cellsN ρ l ns]
theorem blksO_ren (ρ : Nat → Nat) : ∀ l : List FR, (blksO l).map (En.ren ρ) = blksO l
  | [] => rfl
  | x :: l => by simp only [blksO, List.map_cons, en_live, blk_ren, renL_ints, blksO_ren ρ l]
theorem frzL_cellsN_id (nm : Nat) (cs : List AV) : ∀ (l : List FR) (ns : List Nat), nm ∉ ns → AV.frzL nm cs (cellsN l ns) = cellsN l ns
  | [], ns, h => by cases ns <;> rfl
  | x :: l, [], h => rfl
  | x :: l, [a], h => rfl
  | x :: l, a :: b :: ns, h => by
    simp only [List.mem_cons, not_or] at h
    have e1 : (a == nm) = false := by simpa using Ne.symm h.1
    have e2 : (b == nm) = false := by simpa using Ne.symm h.2.1
    simp only [cellsN, AV.frzL, AV.frz, frzL_cellsN_id nm cs l ns h.2.2, e1, e2, cond_false]
theorem ncl0 : ∀ {l : List FR} {ns : List Nat} {i : Nat}, ns.length = 2 * l.length → i < l.length → nth (cellsN l ns) (i * 3) = some (.v (.bool (fat l i).1.1))
  | [], ns, i, h, hi => by simp at hi
  | x :: l, [], i, h, hi => by simp at h
  | x :: l, [a], i, h, hi => by simp at h; omega
  | x :: l, a :: b :: ns, 0, h, hi => rfl
  | x :: l, a :: b :: ns, i + 1, h, hi => by
    simp only [List.length_cons] at h hi
    rw [show (i + 1) * 3 = i * 3 + 1 + 1 + 1 by omega]
    exact ncl0 (l := l) (by omega) (by omega)
theorem ncl1 : ∀ {l : List FR} {ns : List Nat} {i : Nat}, ns.length = 2 * l.length → i < l.length → nth (cellsN l ns) (i * 3 + 1) = some (.sl (ns.getD (2 * i) 0) 0 (fat l i).1.2.length 1)
  | [], ns, i, h, hi => by simp at hi
  | x :: l, [], i, h, hi => by simp at h
  | x :: l, [a], i, h, hi => by simp at h; omega
  | x :: l, a :: b :: ns, 0, h, hi => rfl
  | x :: l, a :: b :: ns, i + 1, h, hi => by
    simp only [List.length_cons] at h hi
    rw [show (i + 1) * 3 + 1 = i * 3 + 1 + 1 + 1 + 1 by omega, show 2 * (i + 1) = 2 * i + 1 + 1 by omega]
    exact ncl1 (l := l) (by omega) (by omega)
theorem ncl2 : ∀ {l : List FR} {ns : List Nat} {i : Nat}, ns.length = 2 * l.length → i < l.length → nth (cellsN l ns) (i * 3 + 1 + 1) = some (.sl (ns.getD (2 * i + 1) 0) 0 (fat l i).2.length 1)
  | [], ns, i, h, hi => by simp at hi
  | x :: l, [], i, h, hi => by simp at h
  | x :: l, [a], i, h, hi => by simp at h; omega
  | x :: l, a :: b :: ns, 0, h, hi => rfl
  | x :: l, a :: b :: ns, i + 1, h, hi => by
    simp only [List.length_cons] at h hi
    rw [show (i + 1) * 3 + 1 + 1 = i * 3 + 1 + 1 + 1 + 1 + 1 by omega, show 2 * (i + 1) + 1 = 2 * i + 1 + 1 + 1 by omega]
    exact ncl2 (l := l) (by omega) (by omega)
theorem nbl0 : ∀ {l : List FR} {i : Nat}, i < l.length → nth (blksO l) (2 * i) = some (.live ⟨3, ints (fat l i).1.2⟩)
  | [], i, hi => by simp at hi
  | x :: l, 0, hi => rfl
  | x :: l, i + 1, hi => by
    rw [show 2 * (i + 1) = 2 * i + 1 + 1 by omega]
    exact nbl0 (l := l) (by simpa using hi)
theorem nbl1 : ∀ {l : List FR} {i : Nat}, i < l.length → nth (blksO l) (2 * i + 1) = some (.live ⟨3, ints (fat l i).2⟩)
  | [], i, hi => by simp at hi
  | x :: l, 0, hi => rfl
  | x :: l, i + 1, hi => by
    rw [show 2 * (i + 1) + 1 = 2 * i + 1 + 1 + 1 by omega]
    exact nbl1 (l := l) (by simpa using hi)
theorem cl_bool : ∀ {l : List FR} {ns : List Nat} {i : Nat} (b : Bool), ns.length = 2 * l.length → i < l.length → setN (cellsN l ns) (i * 3) (.v (.bool b)) = cellsN (l.set i ((b, (fat l i).1.2), (fat l i).2)) ns
  | [], ns, i, b, h, hi => by simp at hi
  | x :: l, [], i, b, h, hi => by simp at h
  | x :: l, [a], i, b, h, hi => by simp at h; omega
  | x :: l, a :: c :: ns, 0, b, h, hi => rfl
  | x :: l, a :: c :: ns, i + 1, b, h, hi => by
    simp only [List.length_cons] at h hi
    rw [show (i + 1) * 3 = i * 3 + 1 + 1 + 1 by omega]
    have := cl_bool (l := l) (ns := ns) (i := i) b (by omega) (by omega)
    simp only [cellsN, setN, List.set_cons_succ, fat_cons, this]
theorem cl_mag : ∀ {l : List FR} {ns : List Nat} {i : Nat} {v : List Int}, i < l.length → v.length = (fat l i).1.2.length → cellsN (l.set i (((fat l i).1.1, v), (fat l i).2)) ns = cellsN l ns
  | [], ns, i, v, hi, _ => by simp at hi
  | x :: l, [], 0, v, hi, hv => rfl
  | x :: l, [], i + 1, v, hi, hv => rfl
  | x :: l, [a], 0, v, hi, hv => rfl
  | x :: l, [a], i + 1, v, hi, hv => rfl
  | x :: l, a :: c :: ns, 0, v, hi, hv => by
    have hv' : v.length = x.1.2.length := hv
    show cellsN (((x.1.1, v), x.2) :: l) (a :: c :: ns) = _
    simp only [cellsN, hv']
  | x :: l, a :: c :: ns, i + 1, v, hi, hv => by
    have := cl_mag (l := l) (ns := ns) (i := i) (v := v) (by simpa using hi) hv
    simp only [List.set_cons_succ, cellsN, fat_cons, this]
theorem cl_den : ∀ {l : List FR} {ns : List Nat} {i : Nat} {v : List Int}, i < l.length → v.length = (fat l i).2.length → cellsN (l.set i ((fat l i).1, v)) ns = cellsN l ns
  | [], ns, i, v, hi, _ => by simp at hi
  | x :: l, [], 0, v, hi, hv => rfl
  | x :: l, [], i + 1, v, hi, hv => rfl
  | x :: l, [a], 0, v, hi, hv => rfl
  | x :: l, [a], i + 1, v, hi, hv => rfl
  | x :: l, a :: c :: ns, 0, v, hi, hv => by
    have hv' : v.length = x.2.length := hv
    show cellsN ((x.1, v) :: l) (a :: c :: ns) = _
    simp only [cellsN, hv']
  | x :: l, a :: c :: ns, i + 1, v, hi, hv => by
    have := cl_den (l := l) (ns := ns) (i := i) (v := v) (by simpa using hi) hv
    simp only [List.set_cons_succ, cellsN, fat_cons, this]
theorem bl_bool : ∀ {l : List FR} {i : Nat} (b : Bool), i < l.length → blksO (l.set i ((b, (fat l i).1.2), (fat l i).2)) = blksO l
  | [], i, b, hi => by simp at hi
  | x :: l, 0, b, hi => rfl
  | x :: l, i + 1, b, hi => by
    simp only [List.set_cons_succ, blksO, fat_cons, bl_bool (l := l) (i := i) b (by simpa using hi)]
theorem bl_mag : ∀ {l : List FR} {i : Nat} (v : List Int), i < l.length → blksO (l.set i (((fat l i).1.1, v), (fat l i).2)) = (blksO l).set (2 * i) (.live ⟨3, ints v⟩)
  | [], i, v, hi => by simp at hi
  | x :: l, 0, v, hi => rfl
  | x :: l, i + 1, v, hi => by
    rw [show 2 * (i + 1) = 2 * i + 1 + 1 by omega]
    simp only [List.set_cons_succ, blksO, fat_cons, bl_mag (l := l) (i := i) v (by simpa using hi)]
theorem bl_den : ∀ {l : List FR} {i : Nat} (v : List Int), i < l.length → blksO (l.set i ((fat l i).1, v)) = (blksO l).set (2 * i + 1) (.live ⟨3, ints v⟩)
  | [], i, v, hi => by simp at hi
  | x :: l, 0, v, hi => rfl
  | x :: l, i + 1, v, hi => by
    rw [show 2 * (i + 1) + 1 = 2 * i + 1 + 1 + 1 by omega]
    simp only [List.set_cons_succ, blksO, fat_cons, bl_den (l := l) (i := i) v (by simpa using hi)]
theorem fat_set {l : List FR} {i : Nat} (x : FR) (h : i < l.length) : fat (l.set i x) i = x := by
  unfold fat
  rw [List.getD_eq_getElem?_getD, List.getElem?_set_self h, Option.getD_some]
theorem fat_set_ne {l : List FR} {i j : Nat} (x : FR) (h : i ≠ j) : fat (l.set i x) j = fat l j := by
  unfold fat
  rw [List.getD_eq_getElem?_getD, List.getElem?_set_ne h, ← List.getD_eq_getElem?_getD]
theorem getD_at {ns : List Nat} {j : Nat} (h : j < ns.length) : ns[j]? = some (ns.getD j 0) := by
  rw [List.getD_eq_getElem?_getD, List.getElem?_eq_getElem h, Option.getD_some]
theorem setN_len {α : Type} (l : List α) (n : Nat) (x : α) : (setN l n x).length = l.length := by rw [setN_eq, List.length_set]
theorem nth_lt {α : Type} {l : List α} {n : Nat} {x : α} (h : nth l n = some x) : n < l.length := by rw [nth_eq] at h; exact (List.getElem?_eq_some_iff.1 h).1
theorem nth_set {α : Type} {l : List α} {n : Nat} (x : α) (h : n < l.length) : nth (setN l n x) n = some x := by rw [nth_eq, setN_eq, List.getElem?_set_self h]
theorem nth_set_ne {α : Type} {l : List α} {n m : Nat} (x : α) (h : n ≠ m) : nth (setN l n x) m = nth l m := by rw [nth_eq, setN_eq, List.getElem?_set_ne h, ← nth_eq]
theorem nth_app {α : Type} {l : List α} {n : Nat} {x : α} (t : List α) (h : nth l n = some x) : nth (l ++ t) n = some x := by
  rw [nth_eq, List.getElem?_append_left (nth_lt h), ← nth_eq, h]
theorem nth_app2 {α : Type} {l t : List α} {n : Nat} : nth (l ++ t) (l.length + n) = nth t n := by
  rw [nth_eq, List.getElem?_append_right (by omega), ← nth_eq]
  congr 1
  omega
structure Seg (σ : Sto) (r : Nat) (ns : List Nat) (T : Nat) (l : List FR) : Prop where
  row : nth σ r = some (.live ⟨T, cellsN l ns⟩)
  len : ns.length = 2 * l.length
  blk : ∀ j n, ns[j]? = some n → nth σ n = nth (blksO l) j
  nd : (r :: ns).Nodup
section
variable {σ : Sto} {r : Nat} {ns : List Nat} {T : Nat} {l : List FR}
theorem Seg.mag (h : Seg σ r ns T l) {i : Nat} (hi : i < l.length) : nth σ (ns.getD (2 * i) 0) = some (.live ⟨3, ints (fat l i).1.2⟩) := by
  rw [h.blk (2 * i) _ (getD_at (by rw [h.len]; omega)), nbl0 hi]
theorem Seg.den (h : Seg σ r ns T l) {i : Nat} (hi : i < l.length) : nth σ (ns.getD (2 * i + 1) 0) = some (.live ⟨3, ints (fat l i).2⟩) := by
  rw [h.blk (2 * i + 1) _ (getD_at (by rw [h.len]; omega)), nbl1 hi]
theorem Seg.mem_lt (h : Seg σ r ns T l) {n : Nat} (hn : n ∈ r :: ns) : n < σ.length := by
  rcases List.mem_cons.1 hn with rfl | hn
  · exact nth_lt h.row
  · obtain ⟨j, hj, rfl⟩ := List.mem_iff_getElem.1 hn
    have h1 := h.blk j _ (List.getElem?_eq_getElem hj)
    rw [nth_eq, nth_eq] at h1
    have h2 : j < (blksO l).length := by rw [blksO_length, ← h.len]; exact hj
    rw [List.getElem?_eq_getElem h2] at h1
    exact (List.getElem?_eq_some_iff.1 h1).1
theorem Seg.append (h : Seg σ r ns T l) (t : Sto) : Seg (σ ++ t) r ns T l := by
  refine ⟨nth_app t h.row, h.len, fun j n hn => ?_, h.nd⟩
  have hlt := h.mem_lt (List.mem_cons_of_mem _ (List.mem_of_getElem? hn))
  rw [nth_eq, List.getElem?_append_left hlt, ← nth_eq, h.blk j n hn]
theorem range1_at {n j : Nat} (h : j < n) : (List.range' 1 n)[j]? = some (j + 1) := by
  rw [List.getElem?_range' h]
  congr 1
  omega
theorem range1_out {n j : Nat} (h : ¬ j < n) : (List.range' 1 n)[j]? = none := List.getElem?_eq_none_iff.2 (by rw [List.length_range']; omega)
theorem Seg.canon (T : Nat) (l : List FR) : Seg (segO T l) 0 (List.range' 1 (2 * l.length)) T l := by
  refine ⟨rfl, List.length_range', fun j n hn => ?_, ?_⟩
  · by_cases hj : j < 2 * l.length
    · rw [range1_at hj] at hn
      injection hn with hn
      subst hn
      rfl
    · rw [range1_out hj] at hn
      cases hn
  · refine List.nodup_cons.2 ⟨fun hm => ?_, List.nodup_range'⟩
    rw [List.mem_range'] at hm
    obtain ⟨i, _, hi⟩ := hm
    omega
theorem rho_nil' (b : Nat) : rho [] b = fun n => b + n := rfl
theorem Seg.shift (h : Seg σ r ns T l) (σ1 : Sto) : Seg (σ1 ++ σ.map (En.ren (rho [] σ1.length))) (σ1.length + r) (ns.map (σ1.length + ·)) T l := by
  have at_ : ∀ n, nth (σ1 ++ σ.map (En.ren (rho [] σ1.length))) (σ1.length + n) = (nth σ n).map (En.ren (rho [] σ1.length)) := fun n => by
    rw [nth_app2, nth_eq, nth_eq, List.getElem?_map]
  refine ⟨?_, by rw [List.length_map, h.len], fun j n hn => ?_, ?_⟩
  · rw [at_, h.row]
    simp only [Option.map_some, en_live, blk_ren, renL_cellsN, rho_nil']
  · rw [List.getElem?_map] at hn
    cases hj : ns[j]? with
    | none => rw [hj] at hn; cases hn
    | some m =>
      rw [hj] at hn
      injection hn with hn
      subst hn
      rw [at_, h.blk j m hj, nth_eq, ← List.getElem?_map, blksO_ren]
  · have h1 := h.nd
    have : ((σ1.length + r) :: ns.map (σ1.length + ·)) = (r :: ns).map (σ1.length + ·) := rfl
    rw [this]
    exact List.Pairwise.map _ (fun a b hab => by omega) h1
theorem Seg.bool (h : Seg σ r ns T l) {i : Nat} (hi : i < l.length) (b : Bool) : Seg (setN σ r (.live ⟨T, setN (cellsN l ns) (i * 3) (.v (.bool b))⟩)) r ns T (l.set i ((b, (fat l i).1.2), (fat l i).2)) := by
  refine ⟨?_, by rw [List.length_set]; exact h.len, fun j n hn => ?_, h.nd⟩
  · rw [nth_set _ (nth_lt h.row), cl_bool b h.len hi]
  · rw [nth_set_ne _ (fun e => (List.nodup_cons.1 h.nd).1 (by rw [e]; exact List.mem_of_getElem? hn)), h.blk j n hn, bl_bool b hi]
theorem Seg.setmag (h : Seg σ r ns T l) {i : Nat} (hi : i < l.length) {v : List Int} (hv : v.length = (fat l i).1.2.length) : Seg (setN σ (ns.getD (2 * i) 0) (.live ⟨3, ints v⟩)) r ns T (l.set i (((fat l i).1.1, v), (fat l i).2)) := by
  have hlt : 2 * i < ns.length := by rw [h.len]; omega
  have hm := getD_at hlt
  have hmem := List.mem_of_getElem? hm
  refine ⟨?_, by rw [List.length_set]; exact h.len, fun j n hn => ?_, h.nd⟩
  · rw [nth_set_ne _ (fun e => (List.nodup_cons.1 h.nd).1 (by rw [← e]; exact hmem)), cl_mag hi hv, h.row]
  · rw [bl_mag v hi, nth_eq (List.set _ _ _)]
    by_cases e : n = ns.getD (2 * i) 0
    · have : j = 2 * i := by
        have h2 := (List.nodup_cons.1 h.nd).2
        have hj : j < ns.length := (List.getElem?_eq_some_iff.1 hn).1
        exact (List.getElem?_inj hj h2).1 (by rw [hn, hm, e])
      subst this
      rw [e, nth_set _ (h.mem_lt (List.mem_cons_of_mem _ hmem)), List.getElem?_set_self (by rw [blksO_length]; omega)]
    · have : 2 * i ≠ j := fun e2 => by subst e2; rw [hm] at hn; injection hn with hn; exact e hn.symm
      rw [nth_set_ne _ (Ne.symm e), List.getElem?_set_ne this, h.blk j n hn, nth_eq]
theorem Seg.setden (h : Seg σ r ns T l) {i : Nat} (hi : i < l.length) {v : List Int} (hv : v.length = (fat l i).2.length) : Seg (setN σ (ns.getD (2 * i + 1) 0) (.live ⟨3, ints v⟩)) r ns T (l.set i ((fat l i).1, v)) := by
  have hlt : 2 * i + 1 < ns.length := by rw [h.len]; omega
  have hm := getD_at hlt
  have hmem := List.mem_of_getElem? hm
  refine ⟨?_, by rw [List.length_set]; exact h.len, fun j n hn => ?_, h.nd⟩
  · rw [nth_set_ne _ (fun e => (List.nodup_cons.1 h.nd).1 (by rw [← e]; exact hmem)), cl_den hi hv, h.row]
  · rw [bl_den v hi, nth_eq (List.set _ _ _)]
    by_cases e : n = ns.getD (2 * i + 1) 0
    · have : j = 2 * i + 1 := by
        have h2 := (List.nodup_cons.1 h.nd).2
        have hj : j < ns.length := (List.getElem?_eq_some_iff.1 hn).1
        exact (List.getElem?_inj hj h2).1 (by rw [hn, hm, e])
      subst this
      rw [e, nth_set _ (h.mem_lt (List.mem_cons_of_mem _ hmem)), List.getElem?_set_self (by rw [blksO_length]; omega)]
    · have : 2 * i + 1 ≠ j := fun e2 => by subst e2; rw [hm] at hn; injection hn with hn; exact e hn.symm
      rw [nth_set_ne _ (Ne.symm e), List.getElem?_set_ne this, h.blk j n hn, nth_eq]
/-- What is written elsewhere does not matter. -/
theorem Seg.other (h : Seg σ r ns T l) {m : Nat} (hm : m ∉ r :: ns) (x : En) : Seg (setN σ m x) r ns T l := by
  refine ⟨?_, h.len, fun j n hn => ?_, h.nd⟩
  · rw [nth_set_ne _ (fun e => hm (by rw [e]; exact List.mem_cons_self)), h.row]
  · rw [nth_set_ne _ (fun e => hm (by rw [e]; exact List.mem_cons_of_mem _ (List.mem_of_getElem? hn))), h.blk j n hn]
theorem map_names (L : List Nat) (r base : Nat) : (List.range' 1 L.length).map (rho (r :: L) base) = L := by
  refine List.ext_getElem? fun j => ?_
  rw [List.getElem?_map]
  by_cases h : j < L.length
  · rw [range1_at h, rho_lt L base j h]
    rfl
  · rw [range1_out h, List.getElem?_eq_none_iff.2 (by omega)]
    rfl
theorem Seg.at_ (h : Seg σ r ns T l) (l' : List FR) (hl : l'.length = l.length) {n : Nat} (hn : n < (segO T l').length) : ∃ b, (segO T l')[n]? = some (.live b) := by
  cases n with
  | zero => exact ⟨_, rfl⟩
  | succ n =>
    have h1 : n < (blksO l').length := by simpa [segO] using hn
    have h2 : ∀ (l : List FR) (n : Nat), n < (blksO l).length → ∃ b, (blksO l)[n]? = some (En.live b) := by
      intro l
      induction l with
      | nil => intro n h; simp [blksO] at h
      | cons x l ih =>
        intro n h
        match n with
        | 0 => exact ⟨_, rfl⟩
        | 1 => exact ⟨_, rfl⟩
        | n + 2 => exact ih n (by simp only [blksO, List.length_cons] at h; omega)
    exact h2 l' n h1
theorem Seg.live (h : Seg σ r ns T l) {n : Nat} {b : Blk} (hb : (segO T l)[n]? = some (.live b)) : σ[rho (r :: ns) σ.length n]? = some (.live (b.ren (rho (r :: ns) σ.length))) := by
  cases n with
  | zero =>
    have hb' : b = ⟨T, cellsN l (List.range' 1 (2 * l.length))⟩ := by
      have : (segO T l)[0]? = some (.live ⟨T, cellsN l (List.range' 1 (2 * l.length))⟩) := rfl
      rw [this] at hb
      injection hb with hb
      injection hb with hb
      exact hb.symm
    subst hb'
    have h1 := h.row
    rw [nth_eq] at h1
    show σ[r]? = _
    rw [h1, blk_ren, renL_cellsN, ← h.len, map_names]
  | succ n =>
    have hb' : (blksO l)[n]? = some (.live b) := hb
    have hlt : n < ns.length := by rw [h.len, ← blksO_length]; exact (List.getElem?_eq_some_iff.1 hb').1
    have h1 := h.blk n _ (rho_lt ns σ.length n hlt)
    rw [nth_eq, nth_eq, hb'] at h1
    show σ[rho ns σ.length n]? = _
    rw [h1]
    have h3 : (blksO l).map (En.ren (rho (r :: ns) σ.length)) = blksO l := blksO_ren _ l
    have h4 : ((blksO l).map (En.ren (rho (r :: ns) σ.length)))[n]? = (blksO l)[n]? := by rw [h3]
    rw [List.getElem?_map, hb'] at h4
    simpa [En.ren] using h4.symm
theorem Seg.lend (h : Seg σ r ns T l) (l' : List FR) (hl : l'.length = l.length) : Lend (r :: ns) (segO T l) (segO T l') σ := by
  refine ⟨h.nd, by rw [segO_length, List.length_cons, h.len], by rw [segO_length, List.length_cons, h.len, hl]; omega, fun n hn => ?_⟩
  rw [List.length_cons, h.len] at hn
  obtain ⟨b, hb⟩ := h.at_ l rfl (n := n) (by rw [segO_length]; exact hn)
  exact ⟨⟨b, hb, h.live hb⟩, h.at_ l' hl (by rw [segO_length, hl]; exact hn)⟩
theorem Seg.wrote (h : Seg σ r ns T l) (l' : List FR) (hl : l'.length = l.length) : Seg (wb (rho (r :: ns) σ.length) (r :: ns) (segO T l') σ) r ns T l' := by
  have hmem : ∀ m ∈ r :: ns, m < σ.length := fun m hm => h.mem_lt hm
  have hlen : (r :: ns).length ≤ (segO T l').length := by rw [segO_length, List.length_cons, h.len, hl]; omega
  refine ⟨?_, by rw [h.len, hl], fun j n hn => ?_, h.nd⟩
  · rw [nth_eq, wb_in h.nd hlen hmem (n := 0) rfl rfl, en_live, blk_ren, renL_cellsN, hl, ← h.len, map_names]
  · have hj : j < ns.length := (List.getElem?_eq_some_iff.1 hn).1
    obtain ⟨b, hb⟩ := h.at_ l' hl (n := j + 1) (by rw [segO_length, hl, ← h.len]; omega)
    rw [nth_eq, wb_in h.nd hlen hmem (n := j + 1) (x := .live b) (by simpa using hn) hb]
    have hb' : (blksO l')[j]? = some (.live b) := hb
    rw [nth_eq, hb']
    have h3 := blksO_ren (rho (r :: ns) σ.length) l'
    have h4 : ((blksO l').map (En.ren (rho (r :: ns) σ.length)))[j]? = (blksO l')[j]? := by rw [h3]
    rw [List.getElem?_map, hb'] at h4
    simpa using h4
theorem Seg.far (h : Seg σ r ns T l) {L : List Nat} {ρ : Nat → Nat} {so : Sto} (hd : ∀ m ∈ r :: ns, m ∉ L) : Seg (wb ρ L so σ) r ns T l := by
  have key : ∀ m ∈ r :: ns, nth (wb ρ L so σ) m = nth σ m := fun m hm => by rw [nth_eq, nth_eq, wb_far (h.mem_lt hm) (hd m hm)]
  refine ⟨by rw [key r List.mem_cons_self, h.row], h.len, fun j n hn => ?_, h.nd⟩
  rw [key n (List.mem_cons_of_mem _ (List.mem_of_getElem? hn)), h.blk j n hn]
theorem Seg.fit (h : Seg σ r ns T l) {fr fr' : Fr} {n0 : Nat} (h1 : nodupB (keys fr') = true) (h2 : FitF (rho (r :: ns) σ.length) fr fr') (h3 : n0 ≤ 2 * l.length + 1) (h4 : ∀ n, n < n0 → rho (r :: ns) σ.length n = n) : Fit n0 (r :: ns) fr' (segO T l) fr σ := by
  refine ⟨once_of (nodupB_ok h1), h2.get, h.nd, by rw [segO_length, List.length_cons, h.len], by rw [segO_length]; exact h3, fun n hn => ⟨h4 n, ?_⟩⟩
  obtain ⟨b, hb⟩ := h.at_ l rfl hn
  rw [hb]
  exact h.live hb
theorem res_cells (f : Nat) : ∀ (l : List FR) (ns : List Nat), ns.length = 2 * l.length → (∀ j n, ns[j]? = some n → nth σ n = nth (blksO l) j) → (cellsN l ns).map (res σ (f + 2)) = frs l ∧ (cellsN l ns).all (resOk σ (f + 2)) = true
  | [], ns, h, hb => by cases ns <;> exact ⟨rfl, rfl⟩
  | x :: l, [], h, hb => by simp at h
  | x :: l, [a], h, hb => by simp at h; omega
  | x :: l, a :: b :: ns, h, hb => by
    simp only [List.length_cons] at h
    obtain ⟨i1, i2⟩ := res_cells f l ns (by omega) (fun j n hn => hb (j + 2) n hn)
    have ha : nth σ a = some (.live ⟨3, ints x.1.2⟩) := hb 0 a rfl
    have hc : nth σ b = some (.live ⟨3, ints x.2⟩) := hb 1 b rfl
    refine ⟨?_, ?_⟩
    · simp only [cellsN, List.map_cons, i1, q_rs1, q_rs5, ha, hc, q_rs7, List.drop_zero, ints_all, res_ints, frs_cons, tsI]
    · simp only [cellsN, List.all_cons, i2, q_ro1, q_ro5, ha, hc, q_ro7, List.drop_zero, ints_all, resOk_ints, Bool.and_true]
theorem Seg.res (h : Seg σ r ns T l) (f : Nat) : res σ (f + 3) (.sl r 0 l.length 3) = ratsT l := by
  have h1 := (res_cells f l ns h.len h.blk).1
  rw [q_rs5, h.row, q_rs7, List.drop_zero, ← cellsN_length l ns h.len, List.take_length, h1]
  rfl
theorem Seg.resOk (h : Seg σ r ns T l) (f : Nat) : resOk σ (f + 3) (.sl r 0 l.length 3) = true := by
  have h1 := (res_cells f l ns h.len h.blk).2
  rw [q_ro5, h.row, q_ro7, List.drop_zero, ← cellsN_length l ns h.len, List.take_length, h1]
end
/-! ### Rounds that change no names -/
section
variable {e : Env} {k : List KI} {fr fr' : Fr} {σ : Sto}
def FitI (fr : Fr) : Fr → Prop
  | [] => True
  | (d, x) :: r => get fr d = some x ∧ FitI fr r
theorem FitI.get {fr : Fr} : ∀ {fr' : Fr}, FitI fr fr' → ∀ p ∈ fr', get fr p.1 = some p.2
  | [], _, p, h => by simp at h
  | (d, x) :: r, H, p, h => by
    rcases List.mem_cons.1 h with rfl | h
    · exact H.1
    · exact FitI.get H.2 p h
theorem Sim.part {ι : Nat → Option Nat} {S : Nat → Prop} {a : Act} {w : World} (H : Sim e fr σ ι S a w) (h1 : nodupB (keys fr') = true) (h2 : FitI fr fr') : Sim e fr' σ ι S a w :=
  ⟨H.defers, H.size, once_of (nodupB_ok h1), fun d x h => H.get (h2.get (d, x) h), H.sr, H.ext⟩
theorem Go.part (h1 : nodupB (keys fr') = true) (h2 : FitI fr fr') (h : Go e k fr' σ) : Go e k fr σ := fun ι S a w H => h ι S a w (H.part h1 h2)
theorem Go.enterI {c : Code} {X : Type} (pre : X → Prop) (μ : X → Nat) (F : X → Fr) (T : X → Sto) (x : X) (h0 : pre x) (hT : T x = σ) (h1 : nodupB (keys (F x)) = true) (h2 : FitI fr (F x))
    (round : ∀ x, pre x → Go e (.code c :: .inv (Again e pre μ F T (μ x)) :: k) (F x) (T x)) : Go e (.code (.loop c) :: k) fr σ :=
  Go.part h1 h2 (hT ▸ Go.loop pre μ F T x h0 round)
theorem Go.roundI {X : Type} {pre : X → Prop} {μ : X → Nat} {F : X → Fr} {T : X → Sto} {m : Nat} (x : X) (hp : pre x) (hm : μ x < m) (hT : T x = σ) (h1 : nodupB (keys (F x)) = true) (h2 : FitI fr (F x)) : Go e (.inv (Again e pre μ F T m) :: k) fr σ :=
  fun ι S a w H => ⟨x, ⟨hp, ι, S, hT ▸ H.part h1 h2⟩, hm⟩
/-- A function comes back: what it gives is a list of its own, in whatever names. -/
theorem Go.retSeg {te : TE} {fn : Func} {xs : List AV} {r : AV} {T : Nat} {l : List FR} {q : Nat} {ns : List Nat} (hte : TEok e.P te) (hE : Ends e r (segO T l)) (hf : e.fn = fn) (hS : Seg σ q ns T l) (hres : resA te fr σ fn.results.toList = some xs) (hr : tupA xs = r.ren (rho (q :: ns) σ.length))
    (h3 : e.σ0.length ≤ 2 * l.length + 1) (h4 : ∀ n, n < e.σ0.length → rho (q :: ns) σ.length n = n) : Go e (.code .ret :: k) fr σ := by
  refine Go.ret fun ι S a w H => ?_
  subst hf
  obtain ⟨us, h6, h7⟩ := resA_ok hte H hres
  have hF : Fit e.σ0.length (q :: ns) [] (segO T l) fr σ := hS.fit rfl trivial h3 h4
  have H' := H.fit hF
  have hrun : (results e.fn a.tmps).run e.P w = .ok (if h : us.length = 1 then us[0] else .tuple us.toArray) w := by
    have e1 : results e.fn a.tmps = (do let vs ← e.fn.results.mapM (resM a.tmps); pure (if h : vs.size = 1 then vs[0] else .tuple vs)) := by
      unfold results
      congr 1
    rw [e1, Array.mapM_eq_mapM_toList]
    simp only [Sem.run_bind, Sem.run_map, h7, Result.andThen_ok, Sem.run_pure, List.size_toArray]
    congr 1
  refine ⟨_, hrun, hE _ _ _ w ?_ H'.sr H'.ext⟩
  have h8 : VR (fun n => ι (rho (q :: ns) σ.length n)) S w r (if h : us.length = 1 then us[0] else .tuple us.toArray) := by
    refine (VR.ren _ r _).1 ?_
    rw [← hr]
    cases xs with
    | nil =>
      simp only [VRe] at h6
      subst h6
      simp only [tupA, VR]
      exact ⟨#[], by simp, by simp [VRe]⟩
    | cons x xs =>
      cases xs with
      | nil =>
        simp only [VRe] at h6
        obtain ⟨u, us', rfl, h9, rfl⟩ := h6
        simpa [tupA] using h9
      | cons y ys =>
        have hl := VRe.len h6
        have : ¬ us.length = 1 := by rw [hl]; simp
        rw [dif_neg this]
        simp only [tupA, VR]
        exact ⟨us.toArray, rfl, by simpa using h6⟩
  exact h8
end
/-! ### All that is one's own is written no more -/
section
variable {ι : Nat → Option Nat} {S S' : Nat → Prop} {w : World} {σ : Sto}
theorem seal_l {f : Nat} (ih : ∀ x u, resOk σ f x = true → VR ι S w x u → VR nowhere S' w (res σ f x) u) : ∀ (xs : List AV) (us : List Value), xs.all (resOk σ f) = true → VRl ι S w xs us → VRl nowhere S' w (xs.map (res σ f)) us
  | [], us, _, h => by simp only [List.map_nil, VRl]
  | x :: xs, us, hp, h => by
    simp only [List.map_cons, VRl] at h ⊢
    simp only [List.all_cons, Bool.and_eq_true] at hp
    obtain ⟨v, r, h1, h2, h3⟩ := h
    exact ⟨v, r, h1, ih x v hp.1 h2, seal_l ih xs r hp.2 h3⟩
theorem seal_e {f : Nat} (ih : ∀ x u, resOk σ f x = true → VR ι S w x u → VR nowhere S' w (res σ f x) u) : ∀ (xs : List AV) (us : List Value), xs.all (resOk σ f) = true → VRe ι S w xs us → VRe nowhere S' w (xs.map (res σ f)) us
  | [], us, _, h => by simpa only [List.map_nil, VRe] using h
  | x :: xs, us, hp, h => by
    simp only [List.map_cons, VRe] at h ⊢
    simp only [List.all_cons, Bool.and_eq_true] at hp
    obtain ⟨v, r, h1, h2, h3⟩ := h
    exact ⟨v, r, h1, ih x v hp.1 h2, seal_e ih xs r hp.2 h3⟩
theorem seal_ok (H : SR ι S σ w) (hS : ∀ k, S k → S' k) (hO : ∀ k, Ow ι σ k → S' k) : ∀ (f : Nat) (x : AV) (u : Value), resOk σ f x = true → VR ι S w x u → VR nowhere S' w (res σ f x) u
  | 0, x, u, hp, h => by simp [resOk] at hp
  | f + 1, .v x, u, hp, h => by simpa only [res, VR] using h
  | f + 1, .p n o, u, hp, h => by
    have ih := seal_ok H hS hO f
    simp only [resOk, res, nth_eq] at hp ⊢
    cases hn : σ[n]? with
    | none => rw [hn] at hp; cases hp
    | some en =>
      rw [hn] at hp
      cases en with
      | live b =>
        simp only at hp ⊢
        simp only [VR] at h ⊢
        obtain ⟨g, h1, h2⟩ := h
        rcases H.blk n b hn with ⟨h3, _⟩ | ⟨g', c, h3, h4, h5⟩
        · rw [h1] at h3; cases h3
        · rw [h1] at h3
          injection h3 with h3
          subst h3
          exact ⟨g, 0, c, _, _, by rw [h2, Nat.zero_add], hO g ⟨n, b, hn, h1⟩, h4, seal_l ih _ _ hp (by simpa using h5)⟩
      | _ => cases hp
  | f + 1, .sl n o len e, u, hp, h => by
    have ih := seal_ok H hS hO f
    simp only [resOk, res, nth_eq] at hp ⊢
    cases hn : σ[n]? with
    | none => rw [hn] at hp; cases hp
    | some en =>
      rw [hn] at hp
      cases en with
      | live b =>
        simp only at hp ⊢
        simp only [VR] at h ⊢
        obtain ⟨A, cap, h1, h2, h3⟩ := h
        refine ⟨A, cap, h1, h2, ?_⟩
        rcases h3 with h3 | ⟨g, c, ty, h4, h5, h6, h7⟩
        · have : len = 0 := by omega
          subst this
          simp
        · rcases H.blk n b hn with ⟨h8, _⟩ | ⟨g', c', h8, h9, h10⟩
          · rw [h5] at h8; cases h8
          · rw [h5] at h8
            injection h8 with h8
            subst h8
            rw [h6] at h9
            injection h9 with h9
            injection h9 with e1 e2 e3
            subst e1
            exact .inr ⟨g, o, c, _, _, h4, hO g ⟨n, b, hn, h5⟩, h6, seal_l ih _ _ hp (VRl.take _ (VRl.drop o h10))⟩
      | _ => cases hp
  | f + 1, .tp cs k, u, hp, h => by
    have ih := seal_ok H hS hO f
    simp only [resOk, res] at hp ⊢
    simp only [VR] at h ⊢
    obtain ⟨g, o, c, ty, fz, h1, h2, h3, h4⟩ := h
    exact ⟨g, o, c, ty, fz, h1, hS g h2, h3, seal_l ih _ _ hp h4⟩
  | f + 1, .ts len cs, u, hp, h => by
    have ih := seal_ok H hS hO f
    simp only [resOk, res] at hp ⊢
    simp only [VR] at h ⊢
    obtain ⟨A, cap, h1, h2, h3⟩ := h
    refine ⟨A, cap, h1, h2, ?_⟩
    rcases h3 with rfl | ⟨g, o, c, ty, fz, h4, h5, h6, h7⟩
    · exact .inl rfl
    · exact .inr ⟨g, o, c, ty, fz, h4, hS g h5, h6, seal_l ih _ _ hp h7⟩
  | f + 1, .agg cs, u, hp, h => by
    have ih := seal_ok H hS hO f
    simp only [resOk, res] at hp ⊢
    simp only [VR] at h ⊢
    obtain ⟨c, h1, h2⟩ := h
    exact ⟨c, h1, seal_e ih _ _ hp h2⟩
  | f + 1, .tup cs, u, hp, h => by
    have ih := seal_ok H hS hO f
    simp only [resOk, res] at hp ⊢
    simp only [VR] at h ⊢
    obtain ⟨c, h1, h2⟩ := h
    exact ⟨c, h1, seal_e ih _ _ hp h2⟩
  | f + 1, .fn g a b, u, hp, h => by
    have ih := seal_ok H hS hO f
    simp only [resOk, Bool.and_eq_true, res] at hp ⊢
    simp only [VR] at h ⊢
    obtain ⟨x, y, h1, h2, h3⟩ := h
    exact ⟨x, y, h1, seal_e ih _ _ hp.1 h2, seal_e ih _ _ hp.2 h3⟩
end
theorem Go.sealB {e : Env} {k : List KI} {fr fr' : Fr} {σ : Sto} (f d : Nat) {x : AV} (h0 : e.σ0 = []) (hx : get fr d = some x) (hok : resOk σ f x = true) (h1 : nodupB (keys ((d, res σ f x) :: fr')) = true) (h2 : FitF (rho [] σ.length) fr fr') (h : Go e k ((d, res σ f x) :: fr') []) : Go e k fr σ := by
  intro ι S a w H
  have hM : ∀ k, S k → S k ∨ Ow ι σ k := fun k h => .inl h
  have hown : ∀ k, Ow ι σ k → k < w.heap.size := fun k h => H.sr.lt h
  have hk1 : nodupB (keys fr') = true := by simp only [keys, nodupB, Bool.and_eq_true] at h1; exact h1.2
  have H' := H.fit (L := []) (σ' := []) (Fit.mk' (n0 := e.σ0.length) hk1 rfl (by rw [h0]; rfl) h2 trivial)
  refine h nowhere (fun k => S k ∨ Ow ι σ k) a w ⟨H.defers, H.size, once_of (nodupB_ok h1), ?_, ⟨fun n b hn => by simp at hn, fun n m b b' g hn => by simp at hn, fun n b g hn => by simp at hn, fun k hk => hk.elim (H.sr.imm k) (hown k), fun _ _ => rfl⟩, ?_⟩
  · intro q y hy
    rcases List.mem_cons.1 hy with hy | hy
    · injection hy with e1 e2
      subst e1 e2
      obtain ⟨u, h4, h5⟩ := H.get hx
      exact ⟨u, h4, seal_ok H.sr hM (fun k h => .inr h) f x u hok h5⟩
    · obtain ⟨u, h4, h5⟩ := H'.frm q y hy
      have hn : (fun n => ι (rho [] σ.length n)) = nowhere := by
        funext n
        exact H.sr.top _ (.inl (List.getElem?_eq_none_iff.2 (by rw [rho_nil]; omega)))
      rw [hn] at h5
      exact ⟨u, h4, VR.mov (ι' := nowhere) (S' := fun k => S k ∨ Ow ι σ k) ⟨fun _ _ h => h, hM, fun _ _ => rfl, fun _ c ty fz h => ⟨c, h, rfl⟩⟩ _ _ h5⟩
  · have E := H.ext
    refine ⟨E.os, E.tape, E.output, E.size, E.keep, E.siz, fun k hk => .inl (E.sub k hk), ?_, ?_, by rw [h0]; exact Nat.le_refl _, fun n hn => by rw [h0] at hn; simp at hn⟩
    · rintro k ⟨n, b, hn, _⟩
      simp at hn
    · rintro k (hk | hk)
      · exact E.imn k hk
      · exact .inr (E.new k hk)
/-! ### Marks -/
def mk1 (k : Int) (x : FR) : FR := ((decide (k.tmod 3 = 0), mk (k + 1) x.1.2.length), mk (k + 1 + x.1.2.length) x.2.length)
def mixR : Int → List FR → Nat → List FR
  | k, x :: l, i + 1 => mk1 k x :: mixR (k + 1 + x.1.2.length + x.2.length) l i
  | _, l, _ => l
def mkR : Int → List FR → List FR
  | _, [] => []
  | k, x :: l => mk1 k x :: mkR (k + 1 + x.1.2.length + x.2.length) l
theorem mixR_0 (k : Int) (l : List FR) : mixR k l 0 = l := by cases l <;> rfl
theorem mixR_all : ∀ (k : Int) (l : List FR), mixR k l l.length = mkR k l
  | _, [] => rfl
  | k, x :: l => by simp only [List.length_cons, mixR, mkR, mixR_all]
theorem mixR_length : ∀ (k : Int) (l : List FR) (i : Nat), (mixR k l i).length = l.length
  | _, [], i => by cases i <;> rfl
  | _, x :: l, 0 => rfl
  | k, x :: l, i + 1 => by simp only [mixR, List.length_cons, mixR_length]
theorem mkR_length (k : Int) (l : List FR) : (mkR k l).length = l.length := by rw [← mixR_all, mixR_length]
def posR (k : Int) (l : List FR) (i : Nat) : Int := k + i + tot (l.take i)
theorem posR_0 (k : Int) (l : List FR) : posR k l 0 = k := by simp [posR, tot]
theorem posR_all (k : Int) (l : List FR) : posR k l l.length = k + l.length + tot l := by simp [posR]
theorem posR_cons (k : Int) (x : FR) (l : List FR) (i : Nat) : posR k (x :: l) (i + 1) = posR (k + 1 + x.1.2.length + x.2.length) l i := by
  simp only [posR, List.take_succ_cons, tot, fsz]
  omega
theorem posR_step {l : List FR} {i : Nat} (k : Int) (h : i < l.length) : posR k l (i + 1) = posR k l i + 1 + (fat l i).1.2.length + (fat l i).2.length := by
  induction l generalizing k i with
  | nil => simp at h
  | cons x l ih =>
    cases i with
    | zero => rw [posR_cons, posR_0, posR_0]; rfl
    | succ i => rw [posR_cons, posR_cons, ih _ (by simpa using h)]; rfl
theorem mixR_at {l : List FR} {i : Nat} (k : Int) (h : i < l.length) : fat (mixR k l i) i = fat l i := by
  induction l generalizing k i with
  | nil => simp at h
  | cons x l ih =>
    cases i with
    | zero => rfl
    | succ i => exact ih _ (by simpa using h)
theorem mixR_step {l : List FR} {i : Nat} (k : Int) (h : i < l.length) : mixR k l (i + 1) = (mixR k l i).set i (mk1 (posR k l i) (fat l i)) := by
  induction l generalizing k i with
  | nil => simp at h
  | cons x l ih =>
    cases i with
    | zero => rw [posR_0, mixR_0, mixR, mixR_0]; rfl
    | succ i => rw [mixR, ih _ (by simpa using h), mixR, List.set_cons_succ, posR_cons]; rfl
theorem mkR_at {l : List FR} {i : Nat} (k : Int) (h : i < l.length) : fat (mkR k l) i = mk1 (posR k l i) (fat l i) := by
  induction l generalizing k i with
  | nil => simp at h
  | cons x l ih =>
    cases i with
    | zero => rw [posR_0]; rfl
    | succ i => rw [posR_cons]; exact ih _ (by simpa using h)
theorem posR_le {l : List FR} {i : Nat} (k : Int) (h : i ≤ l.length) : k ≤ posR k l i ∧ posR k l i ≤ k + l.length + tot l := by
  have : tot (l.take i) ≤ tot l := by
    induction l generalizing i with
    | nil => simp
    | cons x l ih =>
      cases i with
      | zero => simp [tot]
      | succ i => simp only [List.take_succ_cons, tot]; have := ih (i := i) (by simpa using h); omega
  unfold posR
  omega
/-! ### Lists half made -/
def partO (l : List FR) (i : Nat) : List AV := cellsN (l.take i) (List.range' 1 (2 * i)) ++ repA (l.length - i) zc
def segP (T : Nat) (l : List FR) (i : Nat) : Sto := .live ⟨T, partO l i⟩ :: blksO (l.take i)
theorem cellsT_length {l : List FR} {i : Nat} (h : i ≤ l.length) : (cellsN (l.take i) (List.range' 1 (2 * i))).length = i * 3 := by
  rw [cellsN_length _ _ (by rw [List.length_range', List.length_take]; omega), List.length_take]
  omega
theorem partO_length {l : List FR} {i : Nat} (h : i ≤ l.length) : (partO l i).length = l.length * 3 := by
  rw [partO, List.length_append, cellsT_length h, repz_length]; omega
theorem range_two (i : Nat) : List.range' 1 (2 * (i + 1)) = List.range' 1 (2 * i) ++ [2 * i + 1, 2 * i + 1 + 1] := by
  rw [show 2 * (i + 1) = 2 * i + 2 by omega, ← List.range'_append_1]
  congr 1
  rw [show 1 + 2 * i = 2 * i + 1 by omega]
  rfl
theorem partO_set {l : List FR} {i : Nat} (h : i < l.length) : setN (setN (setN (partO l i) (i * 3) (.v (.bool (fat l i).1.1))) (i * 3 + 1) (.sl (2 * i + 1) 0 (fat l i).1.2.length 1)) (i * 3 + 1 + 1) (.sl (2 * i + 1 + 1) 0 (fat l i).2.length 1) = partO l (i + 1) := by
  obtain ⟨d, hd⟩ : ∃ d, l.length - i = d + 1 := ⟨l.length - i - 1, by omega⟩
  have hP := cellsT_length (Nat.le_of_lt h)
  unfold partO
  rw [hd, show l.length - (i + 1) = d by omega, repA_succ, ftake h, range_two, cellsN_append _ _ _ _ (by rw [List.length_range', List.length_take]; omega)]
  simp only [setN_eq]
  rw [List.set_append_right _ _ (by omega), List.set_append_right _ _ (by omega), List.set_append_right _ _ (by omega), hP, List.append_assoc]
  congr 1
  rw [show i * 3 - i * 3 = 0 by omega, show i * 3 + 1 - i * 3 = 1 by omega, show i * 3 + 1 + 1 - i * 3 = 2 by omega]
  rfl
theorem segP_0 (T : Nat) (l : List FR) : segP T l 0 = [.live ⟨T, repA l.length zc⟩] := rfl
theorem segP_all (T : Nat) (l : List FR) : segP T l l.length = segO T l := by
  unfold segP segO partO
  rw [List.take_length, Nat.sub_self, repz0, List.append_nil]
theorem segP_length (T : Nat) {l : List FR} {i : Nat} (h : i ≤ l.length) : (segP T l i).length = 2 * i + 1 := by
  simp only [segP, List.length_cons, blksO_length, List.length_take]; omega
theorem blks_step {l : List FR} {i : Nat} (h : i < l.length) : blksO (l.take i) ++ [.live ⟨3, ints (fat l i).1.2⟩, .live ⟨3, ints (fat l i).2⟩] = blksO (l.take (i + 1)) := by
  rw [ftake h, blksO_append]; rfl
theorem blks_take {l : List FR} {i : Nat} (h : i ≤ l.length) : (blksO (l.take i)).length = 2 * i := by rw [blksO_length, List.length_take]; omega
theorem segO_id (T : Nat) (l : List FR) : (segO T l).map (En.ren fun x => x) = segO T l := by
  simp only [segO, List.map_cons, en_live, blk_ren, renL_cellsN, List.map_id', blksO_ren]
theorem segO_id0 (T : Nat) (l : List FR) : (segO T l).map (En.ren (rho [] 0)) = segO T l := by
  have : rho [] 0 = fun x => x := by funext x; rw [rho_nil]; omega
  rw [this, segO_id]
theorem res_frs (σ : Sto) (f : Nat) : ∀ l : List FR, (frs l).map (res σ (f + 2)) = frs l ∧ (frs l).all (resOk σ (f + 2)) = true
  | [] => ⟨rfl, rfl⟩
  | x :: l => by
    obtain ⟨i1, i2⟩ := res_frs σ f l
    refine ⟨?_, ?_⟩
    · simp only [frs_cons, List.map_cons, i1, q_rs1, q_rs3, tsI, res_ints]
    · simp only [frs_cons, List.all_cons, i2, q_ro1, q_ro3, tsI, resOk_ints, Bool.and_true]
theorem res_rats (σ : Sto) (f : Nat) (l : List FR) : res σ (f + 3) (ratsT l) = ratsT l := by rw [ratsT, q_rs3, (res_frs σ f l).1]
theorem resOk_rats (σ : Sto) (f : Nat) (l : List FR) : resOk σ (f + 3) (ratsT l) = true := by rw [ratsT, q_ro3, (res_frs σ f l).2]
theorem Seg.res5 {σ : Sto} {r : Nat} {ns : List Nat} {T : Nat} {l : List FR} (h : Seg σ r ns T l) : Ab.res σ 5 (.sl r 0 l.length 3) = ratsT l := h.res 2
theorem Seg.resOk5 {σ : Sto} {r : Nat} {ns : List Nat} {T : Nat} {l : List FR} (h : Seg σ r ns T l) : Ab.resOk σ 5 (.sl r 0 l.length 3) = true := h.resOk 2
theorem res_rats5 (σ : Sto) (l : List FR) : res σ 5 (ratsT l) = ratsT l := res_rats σ 2 l
theorem resOk_rats5 (σ : Sto) (l : List FR) : resOk σ 5 (ratsT l) = true := resOk_rats σ 2 l
/-! ### One fraction replaced by a new one -/
theorem cl_all : ∀ {l : List FR} {ns : List Nat} {i : Nat} (x : FR) (a b : Nat), ns.length = 2 * l.length → i < l.length → setN (setN (setN (cellsN l ns) (i * 3) (.v (.bool x.1.1))) (i * 3 + 1) (.sl a 0 x.1.2.length 1)) (i * 3 + 1 + 1) (.sl b 0 x.2.length 1) = cellsN (l.set i x) ((ns.set (2 * i) a).set (2 * i + 1) b)
  | [], ns, i, x, a, b, h, hi => by simp at hi
  | y :: l, [], i, x, a, b, h, hi => by simp at h
  | y :: l, [c], i, x, a, b, h, hi => by simp at h; omega
  | y :: l, c :: d :: ns, 0, x, a, b, h, hi => rfl
  | y :: l, c :: d :: ns, i + 1, x, a, b, h, hi => by
    simp only [List.length_cons] at h hi
    rw [show (i + 1) * 3 = i * 3 + 1 + 1 + 1 by omega, show 2 * (i + 1) = 2 * i + 1 + 1 by omega]
    have := cl_all (l := l) (ns := ns) (i := i) x a b (by omega) (by omega)
    simp only [cellsN, setN, List.set_cons_succ, this]
theorem frs_set : ∀ {l : List FR} {i : Nat} (x : FR), i < l.length → setN (setN (setN (frs l) (i * 3) (.v (.bool x.1.1))) (i * 3 + 1) (tsI x.1.2)) (i * 3 + 1 + 1) (tsI x.2) = frs (l.set i x)
  | [], i, x, hi => by simp at hi
  | y :: l, 0, x, hi => rfl
  | y :: l, i + 1, x, hi => by
    rw [show (i + 1) * 3 = i * 3 + 1 + 1 + 1 by omega]
    have := frs_set (l := l) (i := i) x (by simpa using hi)
    simp only [frs_cons, setN, List.set_cons_succ, this]
theorem bl_all : ∀ {l : List FR} {i : Nat} (x : FR), i < l.length → blksO (l.set i x) = ((blksO l).set (2 * i) (.live ⟨3, ints x.1.2⟩)).set (2 * i + 1) (.live ⟨3, ints x.2⟩)
  | [], i, x, hi => by simp at hi
  | y :: l, 0, x, hi => rfl
  | y :: l, i + 1, x, hi => by
    rw [show 2 * (i + 1) = 2 * i + 1 + 1 by omega]
    simp only [List.set_cons_succ, blksO, bl_all (l := l) (i := i) x (by simpa using hi)]
theorem nodup_set2 {L : List Nat} {i a b B : Nat} (h : L.Nodup) (hb : ∀ n ∈ L, n < B) (ha : a = B) (hbb : b = B + 1) : ((L.set i a).set (i + 1) b).Nodup := by
  subst ha hbb
  have key : ∀ j x, ((L.set i a).set (i + 1) (a + 1))[j]? = some x → (x = a + 1 ∧ j = i + 1) ∨ (x = a ∧ j = i) ∨ (x < a ∧ L[j]? = some x) := by
    intro j x hx
    by_cases e1 : j = i + 1
    · subst e1
      rw [List.getElem?_set] at hx
      rw [if_pos rfl] at hx
      split at hx
      · injection hx with hx; exact .inl ⟨hx.symm, rfl⟩
      · cases hx
    · rw [List.getElem?_set_ne (Ne.symm e1)] at hx
      by_cases e2 : j = i
      · subst e2
        rw [List.getElem?_set, if_pos rfl] at hx
        split at hx
        · injection hx with hx; exact .inr (.inl ⟨hx.symm, rfl⟩)
        · cases hx
      · rw [List.getElem?_set_ne (Ne.symm e2)] at hx
        exact .inr (.inr ⟨hb x (List.mem_of_getElem? hx), hx⟩)
  refine List.pairwise_iff_getElem.2 fun p q hp hq hpq he => ?_
  have k1 := key p _ (List.getElem?_eq_getElem hp)
  have k2 := key q _ (List.getElem?_eq_getElem hq)
  rw [← he] at k2
  rcases k1 with ⟨x1, y1⟩ | ⟨x1, y1⟩ | ⟨x1, y1⟩ <;> rcases k2 with ⟨x2, y2⟩ | ⟨x2, y2⟩ | ⟨x2, y2⟩ <;> try omega
  have hlt : p < L.length := (List.getElem?_eq_some_iff.1 y1).1
  have := (List.getElem?_inj hlt h).1 (y1.trans y2.symm)
  omega
theorem Seg.repl {σ : Sto} {r : Nat} {ns : List Nat} {T : Nat} {l : List FR} (h : Seg σ r ns T l) {i : Nat} (hi : i < l.length) (x : FR) :
    Seg (setN (σ ++ [.live ⟨3, ints x.1.2⟩, .live ⟨3, ints x.2⟩]) r (.live ⟨T, setN (setN (setN (cellsN l ns) (i * 3) (.v (.bool x.1.1))) (i * 3 + 1) (.sl σ.length 0 x.1.2.length 1)) (i * 3 + 1 + 1) (.sl (σ.length + 1) 0 x.2.length 1)⟩)) r ((ns.set (2 * i) σ.length).set (2 * i + 1) (σ.length + 1)) T (l.set i x) := by
  have hr := nth_lt h.row
  have n0 : nth (σ ++ [.live ⟨3, ints x.1.2⟩, .live ⟨3, ints x.2⟩]) σ.length = some (.live ⟨3, ints x.1.2⟩) := nth_app2 (n := 0)
  have n1 : nth (σ ++ [.live ⟨3, ints x.1.2⟩, .live ⟨3, ints x.2⟩]) (σ.length + 1) = some (.live ⟨3, ints x.2⟩) := nth_app2 (n := 1)
  refine ⟨?_, by rw [List.length_set, List.length_set, List.length_set]; exact h.len, fun j n hn => ?_, ?_⟩
  · rw [nth_set _ (by rw [List.length_append]; omega), cl_all x _ _ h.len hi]
  · rw [bl_all x hi, nth_eq (List.set _ _ _)]
    by_cases e1 : 2 * i + 1 = j
    · subst e1
      rw [List.getElem?_set_self (by rw [List.length_set, h.len]; omega)] at hn
      injection hn with hn
      subst hn
      rw [nth_set_ne _ (by omega), n1, List.getElem?_set_self (by rw [List.length_set, blksO_length]; omega)]
    · rw [List.getElem?_set_ne e1] at hn ⊢
      by_cases e2 : 2 * i = j
      · subst e2
        rw [List.getElem?_set_self (by rw [h.len]; omega)] at hn
        injection hn with hn
        subst hn
        rw [nth_set_ne _ (by omega), n0, List.getElem?_set_self (by rw [blksO_length]; omega)]
      · rw [List.getElem?_set_ne e2] at hn ⊢
        have hlt := h.mem_lt (List.mem_cons_of_mem _ (List.mem_of_getElem? hn))
        have hne : r ≠ n := fun e => (List.nodup_cons.1 h.nd).1 (by rw [e]; exact List.mem_of_getElem? hn)
        rw [nth_set_ne _ hne, nth_eq, List.getElem?_append_left hlt, ← nth_eq, h.blk j n hn, nth_eq]
  · exact nodup_set2 (L := r :: ns) (i := 2 * i + 1) h.nd (fun n hn => h.mem_lt hn) rfl rfl
theorem rho_canon {n m b : Nat} (h : n < m + 1) : rho (0 :: List.range' 1 m) b n = n := by
  cases n with
  | zero => rfl
  | succ n =>
    have h1 := rho_lt (List.range' 1 m) b n (by rw [List.length_range']; omega)
    rw [range1_at (by omega)] at h1
    injection h1 with h1
    exact h1.symm
theorem nth_end (T : Nat) (l : List FR) (x : En) : nth (segO T l ++ [x]) (2 * l.length + 1) = some x := by
  rw [← segO_length T l]
  exact nth_app2 (n := 0)
/-! ### A variable that is written no more: other blocks keep their words -/
theorem Step.kill {ι : Nat → Option Nat} {S : Nat → Prop} {w : World} {σ : Sto} (H : SR ι S σ w) {nm : Nat} {b : Blk} (hb : σ[nm]? = some (.live b)) :
    Frz ι (fun k => S k ∨ ι nm = some k) w nm b.cells ∧ Step σ ι S w (setN σ nm .dead) ι (fun k => S k ∨ ι nm = some k) w := by
  have M : Mov ι ι S (fun k => S k ∨ ι nm = some k) w w := ⟨fun _ _ h => h, fun _ h => .inl h, fun _ _ => rfl, fun _ c ty fz h => ⟨c, h, rfl⟩⟩
  have hF : Frz ι (fun k => S k ∨ ι nm = some k) w nm b.cells := by
    rcases H.blk nm b hb with h | ⟨g, c, hg, hw, hc⟩
    · exact .inl h
    · exact .inr ⟨g, c, _, _, hg, .inr hg, hw, VRl.mov M _ _ hc⟩
  have hlt : nm < σ.length := (List.getElem?_eq_some_iff.1 hb).1
  have me : (setN σ nm .dead)[nm]? = some .dead := by rw [setN_eq]; simp [hlt]
  have ne : ∀ n, n ≠ nm → (setN σ nm .dead)[n]? = σ[n]? := fun n hn => by rw [setN_eq, List.getElem?_set_ne (Ne.symm hn)]
  have lv : ∀ n x, (setN σ nm .dead)[n]? = some (En.live x) → σ[n]? = some (En.live x) ∧ n ≠ nm := fun n x h => by
    by_cases e : n = nm
    · subst e; rw [me] at h; cases h
    · exact ⟨(ne n e) ▸ h, e⟩
  refine ⟨hF, ⟨⟨?_, ?_, ?_, ?_, ?_⟩, ⟨rfl, rfl, rfl, Nat.le_refl _, fun _ _ _ => rfl, fun _ c ty fz h => ⟨c, h, rfl⟩, fun _ h => .inl h, ?_, ?_, Nat.le_of_eq (setN_len _ _ _).symm, ?_⟩, fun _ _ h => h⟩⟩
  · intro n x h
    obtain ⟨h1, h2⟩ := lv n x h
    rcases H.blk n x h1 with h3 | ⟨g', d, e1, e2, e3⟩
    · exact .inl h3
    · exact .inr ⟨g', d, e1, e2, VRl.mov M _ _ e3⟩
  · intro n m x y k hx hy hn hm
    exact H.inj n m x y k (lv n x hx).1 (lv m y hy).1 hn hm
  · rintro n x k hx hn (hk | hk)
    · exact H.own n x k (lv n x hx).1 hn hk
    · exact (lv n x hx).2 (H.inj n nm x b _ (lv n x hx).1 hb hn hk)
  · rintro k (hk | hk)
    · exact H.imm k hk
    · exact H.lt ⟨nm, b, hb, hk⟩
  · intro n hn
    by_cases e : n = nm
    · subst e
      rw [me] at hn
      rcases hn with hn | hn <;> cases hn
    · rw [ne n e] at hn
      exact H.top n hn
  · rintro k ⟨n, x, hx, hn⟩
    exact .inr ⟨n, x, (lv n x hx).1, hn⟩
  · rintro k (hk | hk)
    · exact .inl hk
    · exact .inr (.inr ⟨nm, b, hb, hk⟩)
  · intro n _
    refine ⟨fun h => ?_, fun x hx => .inr ⟨rfl, x, (lv n x hx).1⟩⟩
    by_cases e : n = nm
    · subst e; rw [me] at h; cases h
    · rw [ne n e] at h; exact h
def FitZ (nm : Nat) (cs : List AV) (fr : Fr) : Fr → Prop
  | [] => True
  | (d, y) :: r => (get fr d).map (AV.frz nm cs) = some y ∧ FitZ nm cs fr r
theorem FitZ.get {nm : Nat} {cs : List AV} {fr : Fr} : ∀ {fr' : Fr}, FitZ nm cs fr fr' → ∀ p ∈ fr', (get fr p.1).map (AV.frz nm cs) = some p.2
  | [], _, p, h => by simp at h
  | (d, x) :: r, H, p, h => by
    rcases List.mem_cons.1 h with rfl | h
    · exact H.1
    · exact FitZ.get H.2 p h
theorem Go.kill {e : Env} {k : List KI} {fr : Fr} {σ : Sto} (nm : Nat) (fr' : Fr) {b : Blk} (hb : nth σ nm = some (.live b)) (h1 : nodupB (keys fr') = true) (h2 : FitZ nm b.cells fr fr') (h : Go e k fr' (setN σ nm .dead)) : Go e k fr σ := by
  intro ι S a w H
  rw [nth_eq] at hb
  obtain ⟨hF, s⟩ := Step.kill H.sr hb
  have H' := H.step s
  refine h _ _ a w ⟨H'.defers, H'.size, once_of (nodupB_ok h1), fun d y hy => ?_, H'.sr, H'.ext⟩
  have h3 := h2.get (d, y) hy
  cases hg : Ab.get fr d with
  | none => rw [hg] at h3; cases h3
  | some x =>
    rw [hg] at h3
    injection h3 with h3
    obtain ⟨u, h4, h5⟩ := H'.get hg
    have h3' : AV.frz nm b.cells x = y := h3
    exact ⟨u, h4, h3' ▸ VR.frz hF _ _ h5⟩
theorem Go.killSeg {e : Env} {k : List KI} {fr : Fr} {σ : Sto} {T : Nat} {l : List FR} (nm : Nat) (fr' : Fr) {b : Blk} (hS : Seg σ 0 (List.range' 1 (2 * l.length)) T l) (hb : nth σ nm = some (.live b)) (hnm : 2 * l.length + 1 ≤ nm) (h0 : e.σ0 = []) (h1 : nodupB (keys fr') = true) (h2 : FitZ nm b.cells fr fr')
    (h3 : FitF (rho (0 :: List.range' 1 (2 * l.length)) σ.length) fr' fr') (h : Go e k fr' (segO T l)) : Go e k fr σ := by
  refine Go.kill nm fr' hb h1 h2 ?_
  have hno : nm ∉ 0 :: List.range' 1 (2 * l.length) := fun hm => by
    rcases List.mem_cons.1 hm with hm | hm
    · omega
    · rw [List.mem_range'] at hm
      obtain ⟨i, h4, h5⟩ := hm
      omega
  have hS2 := hS.other hno .dead
  exact Go.fit (0 :: List.range' 1 (2 * l.length)) (hS2.fit (n0 := e.σ0.length) h1 (by rw [setN_len]; exact h3) (by rw [h0]; exact Nat.zero_le _) (fun n hn => by rw [h0] at hn; simp at hn)) h
theorem nth_seg (T : Nat) (l : List FR) (t : Sto) (j : Nat) : nth (segO T l ++ t) (2 * l.length + 1 + j) = nth t j := by
  rw [← segO_length T l]
  exact nth_app2
theorem Seg.nfar {σ : Sto} {L : List Nat} {ρ : Nat → Nat} {so : Sto} {m : Nat} {x : En} (h : nth σ m = some x) (hm : m ∉ L) : nth (wb ρ L so σ) m = some x := by
  have := nth_lt h
  rw [nth_eq, wb_far this hm, ← nth_eq, h]
theorem not_canon {n m : Nat} (h : m + 1 ≤ n) : n ∉ 0 :: List.range' 1 m := fun hm => by
  rcases List.mem_cons.1 hm with hm | hm
  · omega
  · rw [List.mem_range'] at hm
    obtain ⟨i, h4, h5⟩ := hm
    omega
theorem res_mat {σ : Sto} {r : Nat} {ns : List Nat} {T : Nat} {l : List FR} (h : Seg σ r ns T l) (x y : Int) : res σ 6 (.agg [I x, I y, .sl r 0 l.length 3]) = .agg [I x, I y, ratsT l] ∧ resOk σ 6 (.agg [I x, I y, .sl r 0 l.length 3]) = true := by
  refine ⟨?_, ?_⟩
  · rw [q_rs4]
    simp only [List.map_cons, List.map_nil, h.res5]
    rfl
  · rw [q_ro4]
    simp only [List.all_cons, List.all_nil, h.resOk5]
    rfl
theorem res_matT (σ : Sto) (l : List FR) (x y : Int) : res σ 6 (.agg [I x, I y, ratsT l]) = .agg [I x, I y, ratsT l] ∧ resOk σ 6 (.agg [I x, I y, ratsT l]) = true := by
  refine ⟨?_, ?_⟩
  · rw [q_rs4]
    simp only [List.map_cons, List.map_nil, res_rats5]
    rfl
  · rw [q_ro4]
    simp only [List.all_cons, List.all_nil, resOk_rats5]
    rfl
theorem setN_seg (T : Nat) (l : List FR) (t : Sto) (j : Nat) (y : En) : setN (segO T l ++ t) (2 * l.length + 1 + j) y = segO T l ++ setN t j y := by
  rw [setN_eq, setN_eq, List.set_append_right _ _ (by rw [segO_length]; omega), segO_length]
  congr 2
  omega
theorem setN_end (T : Nat) (l : List FR) (x y : En) : setN (segO T l ++ [x]) (2 * l.length + 1) y = segO T l ++ [y] := setN_seg T l [x] 0 y
theorem nth_seg0 (T : Nat) (l : List FR) (x : En) (t : Sto) : nth (segO T l ++ x :: t) (2 * l.length + 1) = some x := nth_seg T l (x :: t) 0
theorem setN_seg0 (T : Nat) (l : List FR) (x y : En) (t : Sto) : setN (segO T l ++ x :: t) (2 * l.length + 1) y = segO T l ++ y :: t := setN_seg T l (x :: t) 0 y
theorem nth_app_end {α : Type} (σ : List α) (x : α) : nth (σ ++ [x]) σ.length = some x := nth_app2 (n := 0)
theorem setN_app_end {α : Type} (σ : List α) (x y : α) : setN (σ ++ [x]) σ.length y = σ ++ [y] := by
  rw [setN_eq, List.set_append_right _ _ (Nat.le_refl _), Nat.sub_self]
  rfl
theorem nth_seg1 (T : Nat) (l : List FR) (x y : En) (t : Sto) : nth (segO T l ++ x :: y :: t) (2 * l.length + 1 + 1) = some y := nth_seg T l (x :: y :: t) 1
theorem res_rat {σ : Sto} {a b : Nat} {u v : List Int} (s : Bool) (ha : nth σ a = some (.live ⟨3, ints u⟩)) (hb : nth σ b = some (.live ⟨3, ints v⟩)) : res σ 4 (.agg [.v (.bool s), .sl a 0 u.length 1, .sl b 0 v.length 1]) = .agg [.v (.bool s), tsI u, tsI v] ∧ resOk σ 4 (.agg [.v (.bool s), .sl a 0 u.length 1, .sl b 0 v.length 1]) = true := by
  refine ⟨?_, ?_⟩
  · simp only [q_rs4, List.map_cons, List.map_nil, q_rs1, q_rs5, ha, hb, q_rs7, List.drop_zero, ints_all, res_ints, tsI]
  · simp only [q_ro4, List.all_cons, List.all_nil, q_ro1, q_ro5, ha, hb, q_ro7, List.drop_zero, ints_all, resOk_ints, Bool.and_true]
theorem res_ratT (σ : Sto) (s : Bool) (u v : List Int) : res σ 4 (.agg [.v (.bool s), tsI u, tsI v]) = .agg [.v (.bool s), tsI u, tsI v] ∧ resOk σ 4 (.agg [.v (.bool s), tsI u, tsI v]) = true := by
  refine ⟨?_, ?_⟩
  · simp only [q_rs4, List.map_cons, List.map_nil, q_rs1, q_rs3, res_ints, tsI]
  · simp only [q_ro4, List.all_cons, List.all_nil, q_ro1, q_ro3, resOk_ints, tsI, Bool.and_true]
theorem plain_cells : ∀ (l : List FR) (ns : List Nat), plainL (cellsN l ns) = true
  | [], ns => by cases ns <;> rfl
  | x :: l, [] => rfl
  | x :: l, [a] => rfl
  | x :: l, a :: b :: ns => by simp only [cellsN, plainL, plainA, plain_cells l ns, Bool.and_true]
theorem plain_blks : ∀ l : List FR, plainS (blksO l) = true
  | [] => rfl
  | x :: l => by simp only [blksO, plainS, plainE, plain_ints, plain_blks l, Bool.and_true]
theorem plain_seg (T : Nat) (l : List FR) : plainS (segO T l) = true := by simp only [segO, plainS, plainE, plain_cells, plain_blks, Bool.and_true]
theorem shift_far (T : Nat) (l q : List FR) : ∀ m ∈ ((segO T l).length + 0) :: (List.range' 1 (2 * q.length)).map ((segO T l).length + ·), m ∉ 0 :: List.range' 1 (2 * l.length) := fun m hm => by
  have hN := segO_length T l
  refine not_canon ?_
  rcases List.mem_cons.1 hm with hm | hm
  · omega
  · obtain ⟨j, _, hj⟩ := List.mem_map.1 hm
    omega
/-! ### One list behind another -/
theorem Seg.concat {σ : Sto} {q p T : Nat} {ns ms : List Nat} {l l2 : List FR} (h : Seg σ q ns T l) (h2 : Seg σ p ms T l2) (hd : ∀ m ∈ q :: ns, m ∉ ms) :
    Seg (setN σ q .dead ++ [.live ⟨T, cellsN l ns ++ cellsN l2 ms⟩]) σ.length (ns ++ ms) T (l ++ l2) := by
  have hl : (setN σ q .dead).length = σ.length := setN_len _ _ _
  have old : ∀ n, n < σ.length → n ≠ q → nth (setN σ q .dead ++ [.live ⟨T, cellsN l ns ++ cellsN l2 ms⟩]) n = nth σ n := fun n hn hq => by
    rw [nth_eq, List.getElem?_append_left (by rw [hl]; exact hn), ← nth_eq, nth_set_ne _ (Ne.symm hq)]
  refine ⟨?_, by rw [List.length_append, List.length_append, h.len, h2.len]; omega, fun j n hn => ?_, ?_⟩
  · rw [cellsN_append _ _ _ _ h.len]
    have : nth (setN σ q .dead ++ [.live ⟨T, cellsN l ns ++ cellsN l2 ms⟩]) (setN σ q .dead).length = some (.live ⟨T, cellsN l ns ++ cellsN l2 ms⟩) := nth_app_end _ _
    rwa [hl] at this
  · rw [blksO_append]
    by_cases hj : j < ns.length
    · rw [List.getElem?_append_left hj] at hn
      have hm := List.mem_of_getElem? hn
      rw [old n (h.mem_lt (List.mem_cons_of_mem _ hm)) (fun e => (List.nodup_cons.1 h.nd).1 (e ▸ hm)), h.blk j n hn, nth_eq, nth_eq, List.getElem?_append_left (by rw [blksO_length, ← h.len]; exact hj)]
    · rw [List.getElem?_append_right (by omega)] at hn
      have hm := List.mem_of_getElem? hn
      rw [old n (h2.mem_lt (List.mem_cons_of_mem _ hm)) (fun e => hd q List.mem_cons_self (e ▸ hm)), h2.blk _ n hn, nth_eq, nth_eq, List.getElem?_append_right (by rw [blksO_length, ← h.len]; omega), blksO_length, ← h.len]
  · refine List.nodup_cons.2 ⟨fun hm => ?_, List.nodup_append.2 ⟨(List.nodup_cons.1 h.nd).2, (List.nodup_cons.1 h2.nd).2, fun a ha b hb e => hd a (List.mem_cons_of_mem _ ha) (e ▸ hb)⟩⟩
    rcases List.mem_append.1 hm with hm | hm
    · exact Nat.lt_irrefl _ (h.mem_lt (List.mem_cons_of_mem _ hm))
    · exact Nat.lt_irrefl _ (h2.mem_lt (List.mem_cons_of_mem _ hm))
theorem ones_cells : ∀ (l : List FR) (ns : List Nat), ones (cellsN l ns) = true
  | [], ns => by cases ns <;> rfl
  | x :: l, [] => rfl
  | x :: l, [a] => rfl
  | x :: l, a :: b :: ns => by simp only [cellsN, ones, AV.one, ones_cells l ns, Bool.and_true]; rfl
theorem cells_all {l : List FR} {ns : List Nat} (h : ns.length = 2 * l.length) : (cellsN l ns).take (l.length * 3) = cellsN l ns := by rw [← cellsN_length l ns h, List.take_length]
theorem res_tpm {σ : Sto} {r : Nat} {ns : List Nat} {T : Nat} {l : List FR} (h : Seg σ r ns T l) (x y : Int) : res σ 6 (.tp [I x, I y, .sl r 0 l.length 3] 0) = .tp [I x, I y, ratsT l] 0 ∧ resOk σ 6 (.tp [I x, I y, .sl r 0 l.length 3] 0) = true := by
  refine ⟨?_, ?_⟩
  · rw [q_rs2]
    simp only [List.map_cons, List.map_nil, h.res5]
    rfl
  · rw [q_ro2]
    simp only [List.all_cons, List.all_nil, h.resOk5]
    rfl
/-- What a function gives of its own, told as what nobody writes. -/
theorem AC.asTold {P : Program} {f : FuncId} {args : List AV} {σo : Sto} {r : AV} (h : AC P f args [] r σo) (k : Nat) (hok : resOk σo k r = true) : AC P f args [] (res σo k r) [] := by
  refine ⟨h.1, fun ι S w us hs ha => (h.2 ι S w us hs ha).mono ?_⟩
  rintro o w' ⟨u, ι', S', rfl, h1, h2, E⟩
  refine ⟨u, nowhere, fun k => S' k ∨ Ow ι' σo k, rfl, seal_ok h2 (fun k hk => .inl hk) (fun k hk => .inr hk) k r u hok h1, ⟨fun n b hn => by simp at hn, fun n m b b' g hn => by simp at hn, fun n b g hn => by simp at hn, fun k hk => hk.elim (h2.imm k) (fun hk => h2.lt hk), fun _ _ => rfl⟩, ⟨E.os, E.tape, E.output, E.size, E.keep, E.siz, fun k hk => .inl (E.sub k hk), ?_, ?_, Nat.le_refl _, fun n hn => by simp at hn⟩⟩
  · rintro k ⟨n, b, hn, _⟩
    simp at hn
  · rintro k (hk | hk)
    · exact E.imn k hk
    · exact .inr (E.new k hk)
end Go.Proofs.Ytbblhgldfcodfaa.Ab
