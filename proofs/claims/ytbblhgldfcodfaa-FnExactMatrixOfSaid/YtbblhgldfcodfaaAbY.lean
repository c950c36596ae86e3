/- Contracts of the given program's functions and of the reference's (walks). -/
import Derived.Test.YtbblhgldfcodfaaAbW
import Derived.Test.YtbblhgldfcodfaaAbC
set_option linter.unusedVariables false
set_option linter.unusedSimpArgs false
namespace Go.Proofs.Ytbblhgldfcodfaa.Ab
open Go Go.RowKit
/-! ### Grids of pointers to fractions -/
/-- A finished row. -/
def rwA (row : List FR) : AV := .ts row.length (ptrs row)
def rws (L : List (List FR)) : List AV := L.map rwA
def gridT (r c : Int) (L : List (List FR)) : AV := .agg [.v (.int .i64 r), .v (.int .i64 c), .ts L.length (rws L)]
def zn : List AV := [.v (.slice none 0 0)]
theorem rws_length (L : List (List FR)) : (rws L).length = L.length := by simp [rws]
theorem zn_length (n : Nat) : (repA n zn).length = n := by
  induction n with
  | zero => rfl
  | succ n ih => rw [repA_succ, List.length_append, ih]; simp [zn]; omega
theorem renL_rws (ρ : Nat → Nat) (L : List (List FR)) : AV.renL ρ (rws L) = rws L := by
  induction L with
  | nil => rfl
  | cons x l ih => simpa [rws, AV.renL, AV.ren, rwA, renL_ptrs] using ih
theorem frzL_rws (nm : Nat) (cs : List AV) (L : List (List FR)) : AV.frzL nm cs (rws L) = rws L := by
  induction L with
  | nil => rfl
  | cons x l ih => simpa [rws, AV.frzL, AV.frz, rwA, frzL_ptrs] using ih
theorem renL_zn (ρ : Nat → Nat) (n : Nat) : AV.renL ρ (repA n zn) = repA n zn := by
  induction n with
  | zero => rfl
  | succ n ih => rw [repA_succ, renL_append, ih]; rfl
theorem frzL_zn (nm : Nat) (cs : List AV) (n : Nat) : AV.frzL nm cs (repA n zn) = repA n zn := by
  induction n with
  | zero => rfl
  | succ n ih => rw [repA_succ, frzL_append, ih]; rfl
/-- The first i rows are finished. -/
def rcs (L : List (List FR)) (i : Nat) : List AV := rws (L.take i) ++ repA (L.length - i) zn
/-- .. and row i is x. -/
def rcx (L : List (List FR)) (i : Nat) (x : AV) : List AV := rws (L.take i) ++ x :: repA (L.length - (i + 1)) zn
theorem rcs_length {L : List (List FR)} {i : Nat} (h : i ≤ L.length) : (rcs L i).length = L.length := by
  unfold rcs
  rw [List.length_append, rws_length, zn_length, List.length_take]; omega
theorem rcx_length {L : List (List FR)} {i : Nat} (h : i < L.length) (x : AV) : (rcx L i x).length = L.length := by
  unfold rcx
  rw [List.length_append, List.length_cons, rws_length, zn_length, List.length_take]; omega
theorem renL_rcs (ρ : Nat → Nat) (L : List (List FR)) (i : Nat) : AV.renL ρ (rcs L i) = rcs L i := by unfold rcs; rw [renL_append, renL_rws, renL_zn]
theorem frzL_rcs (nm : Nat) (cs : List AV) (L : List (List FR)) (i : Nat) : AV.frzL nm cs (rcs L i) = rcs L i := by unfold rcs; rw [frzL_append, frzL_rws, frzL_zn]
theorem renL_rcx (ρ : Nat → Nat) (L : List (List FR)) (i : Nat) (x : AV) : AV.renL ρ (rcx L i x) = rcx L i (x.ren ρ) := by
  unfold rcx
  rw [renL_append, renL_rws]
  simp only [AV.renL, renL_zn]
theorem frzL_rcx (nm : Nat) (cs : List AV) (L : List (List FR)) (i : Nat) (x : AV) : AV.frzL nm cs (rcx L i x) = rcx L i (x.frz nm cs) := by
  unfold rcx
  rw [frzL_append, frzL_rws]
  simp only [AV.frzL, frzL_zn]
theorem rcs_set {L : List (List FR)} {i : Nat} (h : i < L.length) (x : AV) : setN (rcs L i) i x = rcx L i x := by
  unfold rcs rcx
  have h3 : (rws (L.take i)).length = i := by rw [rws_length, List.length_take]; omega
  obtain ⟨d, h1, h2⟩ : ∃ d, L.length - i = d + 1 ∧ L.length - (i + 1) = d := ⟨L.length - i - 1, by omega, by omega⟩
  rw [h1, h2, repA_succ, setN_eq, List.set_append_right _ _ (by omega), h3, Nat.sub_self]
  simp [zn]
theorem rcx_at {L : List (List FR)} {i : Nat} (h : i < L.length) (x : AV) : nth (rcx L i x) i = some x := by
  unfold rcx
  have h3 : (rws (L.take i)).length = i := by rw [rws_length, List.length_take]; omega
  rw [nth_eq, List.getElem?_append_right (by omega), h3, Nat.sub_self]
  rfl
theorem rcx_done {L : List (List FR)} {i : Nat} (h : i < L.length) {x : AV} (hx : x = rwA (L.getD i [])) : rcx L i x = rcs L (i + 1) := by
  subst hx
  unfold rcs rcx
  rw [List.take_succ_eq_append_getElem h]
  unfold rws
  rw [List.map_append, List.append_assoc]
  congr 1
  rw [List.getD_eq_getElem?_getD, List.getElem?_eq_getElem h]
  rfl
theorem rcs_all (L : List (List FR)) : rcs L L.length = rws L := by
  unfold rcs
  rw [List.take_length, Nat.sub_self]
  simp [repA]
theorem rws_all (L : List (List FR)) : (rws L).take L.length = rws L := by rw [← rws_length, List.take_length]
theorem nth_rws {L : List (List FR)} {i : Nat} (h : i < L.length) : nth (rws L) i = some (rwA (L.getD i [])) := by
  rw [nth_eq]
  unfold rws
  rw [List.getElem?_map, List.getD_eq_getElem?_getD, List.getElem?_eq_getElem h]
  rfl
/-- The rows that a function tells. -/
def gro (c : Nat) (f : Nat → FR) : List FR := (List.range c).map f
def grd (r c : Nat) (G : Nat → Nat → FR) : List (List FR) := (List.range r).map fun i => gro c (G i)
theorem gro_length (c : Nat) (f : Nat → FR) : (gro c f).length = c := by simp [gro]
theorem grd_length (r c : Nat) (G : Nat → Nat → FR) : (grd r c G).length = r := by simp [grd]
theorem gro_at {c : Nat} (f : Nat → FR) {k : Nat} (h : k < c) : fat (gro c f) k = f k := by
  unfold fat gro
  rw [List.getD_eq_getElem?_getD, List.getElem?_map, List.getElem?_range h]
  rfl
theorem grd_at {r c : Nat} (G : Nat → Nat → FR) {i : Nat} (h : i < r) : (grd r c G).getD i [] = gro c (G i) := by
  unfold grd
  rw [List.getD_eq_getElem?_getD, List.getElem?_map, List.getElem?_range h]
  rfl
end Go.Proofs.Ytbblhgldfcodfaa.Ab
