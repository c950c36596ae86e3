/- Contracts of the given program's functions and of the reference's (walks). -/
import Derived.Test.YtbblhgldfcodfaaAbV
set_option linter.unusedVariables false
set_option linter.unusedSimpArgs false
namespace Go.Proofs.Ytbblhgldfcodfaa.Ab
open Go Go.RowKit
/-! ### Lists of pointers to fractions -/
/-- A fraction's figures, frozen, behind a pointer. -/
def ptr (x : FR) : AV := .tp [.v (.bool x.1.1), tsI x.1.2, tsI x.2] 0
def ptrs (l : List FR) : List AV := l.map ptr
def zp : List AV := [.v (.pointer none)]
theorem ptrs_length (l : List FR) : (ptrs l).length = l.length := by simp [ptrs]
theorem zp_length (n : Nat) : (repA n zp).length = n := by
  induction n with
  | zero => rfl
  | succ n ih => rw [repA_succ, List.length_append, ih]; simp [zp]; omega
theorem renL_ptrs (ρ : Nat → Nat) (l : List FR) : AV.renL ρ (ptrs l) = ptrs l := by
  induction l with
  | nil => rfl
  | cons x l ih => simpa [ptrs, AV.renL, AV.ren, ptr, tsI, renL_ints] using ih
theorem frzL_ptrs (nm : Nat) (cs : List AV) (l : List FR) : AV.frzL nm cs (ptrs l) = ptrs l := by
  induction l with
  | nil => rfl
  | cons x l ih => simpa [ptrs, AV.frzL, AV.frz, ptr, tsI, frzL_ints] using ih
theorem renL_zp (ρ : Nat → Nat) (n : Nat) : AV.renL ρ (repA n zp) = repA n zp := by
  induction n with
  | zero => rfl
  | succ n ih => rw [repA_succ, renL_append, ih]; rfl
theorem frzL_zp (nm : Nat) (cs : List AV) (n : Nat) : AV.frzL nm cs (repA n zp) = repA n zp := by
  induction n with
  | zero => rfl
  | succ n ih => rw [repA_succ, frzL_append, ih]; rfl
/-- The first i pointers are set. -/
def pcs (l : List FR) (i : Nat) : List AV := ptrs (l.take i) ++ repA (l.length - i) zp
theorem pcs_length {l : List FR} {i : Nat} (h : i ≤ l.length) : (pcs l i).length = l.length := by
  unfold pcs
  rw [List.length_append, ptrs_length, zp_length, List.length_take]; omega
theorem renL_pcs (ρ : Nat → Nat) (l : List FR) (i : Nat) : AV.renL ρ (pcs l i) = pcs l i := by unfold pcs; rw [renL_append, renL_ptrs, renL_zp]
theorem frzL_pcs (nm : Nat) (cs : List AV) (l : List FR) (i : Nat) : AV.frzL nm cs (pcs l i) = pcs l i := by unfold pcs; rw [frzL_append, frzL_ptrs, frzL_zp]
theorem pcs_split {l : List FR} {i : Nat} (h : i < l.length) : ∃ d, l.length - i = d + 1 ∧ l.length - (i + 1) = d ∧ (ptrs (l.take i)).length = i := by
  refine ⟨l.length - i - 1, by omega, by omega, ?_⟩
  rw [ptrs_length, List.length_take]; omega
theorem pcs_set {l : List FR} {i : Nat} (h : i < l.length) : setN (pcs l i) i (ptr (fat l i)) = pcs l (i + 1) := by
  obtain ⟨d, h1, h2, h3⟩ := pcs_split h
  unfold pcs
  rw [h1, h2, repA_succ, ftake h, setN_eq, List.set_append_right _ _ (by omega), h3, Nat.sub_self]
  simp [ptrs, zp]
theorem pcs_set0 {l : List FR} {i : Nat} (h : i < l.length) : setN (pcs l i) i (.v (.pointer none)) = pcs l i := by
  obtain ⟨d, h1, h2, h3⟩ := pcs_split h
  unfold pcs
  rw [h1, repA_succ, setN_eq, List.set_append_right _ _ (by omega), h3, Nat.sub_self]
  simp [zp]
theorem pcs_at {l : List FR} {i : Nat} (h : i < l.length) : nth (pcs l (i + 1)) i = some (ptr (fat l i)) := by
  unfold pcs
  rw [nth_eq, ftake h, List.getElem?_append_left (by rw [ptrs_length, List.length_append, List.length_take, List.length_singleton]; omega)]
  unfold ptrs
  rw [List.map_append, List.getElem?_append_right (by rw [List.length_map, List.length_take]; omega), List.length_map, List.length_take, Nat.min_eq_left (by omega)]
  simp
theorem pcs_at0 {l : List FR} {i : Nat} (h : i < l.length) : nth (pcs l i) i = some (.v (.pointer none)) := by
  obtain ⟨d, h1, h2, h3⟩ := pcs_split h
  unfold pcs
  rw [h1, repA_succ, nth_eq, List.getElem?_append_right (by omega), h3, Nat.sub_self]
  simp [zp]
theorem pcs_0 (l : List FR) : repA l.length zp = pcs l 0 := rfl
theorem pcs_all (l : List FR) : pcs l l.length = ptrs l := by
  unfold pcs
  rw [List.take_length, Nat.sub_self]
  simp [repA]
theorem ptrs_all (l : List FR) : (ptrs l).take l.length = ptrs l := by rw [← ptrs_length, List.take_length]
theorem nth_ptrs {l : List FR} {i : Nat} (h : i < l.length) : nth (ptrs l) i = some (ptr (fat l i)) := by
  rw [nth_eq]
  unfold ptrs fat
  rw [List.getElem?_map, List.getD_eq_getElem?_getD, List.getElem?_eq_getElem h]
  rfl
end Go.Proofs.Ytbblhgldfcodfaa.Ab
