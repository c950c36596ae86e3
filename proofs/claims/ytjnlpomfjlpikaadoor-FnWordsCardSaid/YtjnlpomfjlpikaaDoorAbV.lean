/- Contracts of the given program's functions and of the reference's (walks). -/
import Derived.Test.YtjnlpomfjlpikaaDoorAbP
set_option linter.unusedVariables false
set_option linter.unusedSimpArgs false
namespace Go.Proofs.YtjnlpomfjlpikaaDoor.Ab
open Go Go.RowKit
/-! ### Lists of fractions -/
abbrev FR := (Bool × List Int) × List Int
def frc (x : FR) : List AV := [.v (.bool x.1.1), tsI x.1.2, tsI x.2]
def frs (l : List FR) : List AV := l.flatMap frc
def ratsT (l : List FR) : AV := .ts l.length (frs l)
def fz : FR := ((false, []), [])
def fat (l : List FR) (i : Nat) : FR := l.getD i fz
theorem frs_cons (x : FR) (l : List FR) : frs (x :: l) = .v (.bool x.1.1) :: tsI x.1.2 :: tsI x.2 :: frs l := rfl
theorem frs_length (l : List FR) : (frs l).length = l.length * 3 := by
  induction l with
  | nil => rfl
  | cons x l ih => rw [frs_cons]; simp only [List.length_cons, ih]; omega
theorem fat_cons (x : FR) (l : List FR) (i : Nat) : fat (x :: l) (i + 1) = fat l i := rfl
theorem nfr0 : ∀ {l : List FR} {i : Nat}, i < l.length → nth (frs l) (i * 3) = some (.v (.bool (fat l i).1.1))
  | x :: l, 0, _ => rfl
  | x :: l, i + 1, h => by rw [fat_cons, ← nfr0 (l := l) (i := i) (by simpa using h), frs_cons, Nat.add_mul]; rfl
theorem nfr1 : ∀ {l : List FR} {i : Nat}, i < l.length → nth (frs l) (i * 3 + 1) = some (tsI (fat l i).1.2)
  | x :: l, 0, _ => rfl
  | x :: l, i + 1, h => by rw [fat_cons, ← nfr1 (l := l) (i := i) (by simpa using h), frs_cons, show (i + 1) * 3 + 1 = i * 3 + 1 + 3 by omega]; rfl
theorem nfr2 : ∀ {l : List FR} {i : Nat}, i < l.length → nth (frs l) (i * 3 + 1 + 1) = some (tsI (fat l i).2)
  | x :: l, 0, _ => rfl
  | x :: l, i + 1, h => by rw [fat_cons, ← nfr2 (l := l) (i := i) (by simpa using h), frs_cons, show (i + 1) * 3 + 1 + 1 = i * 3 + 1 + 1 + 3 by omega]; rfl
theorem renL_frs (ρ : Nat → Nat) (l : List FR) : AV.renL ρ (frs l) = frs l := by
  induction l with
  | nil => rfl
  | cons x l ih => rw [frs_cons]; simp only [AV.renL, AV.ren, tsI, renL_ints, ih]
theorem frzL_frs (nm : Nat) (cs : List AV) (l : List FR) : AV.frzL nm cs (frs l) = frs l := by
  induction l with
  | nil => rfl
  | cons x l ih => rw [frs_cons]; simp only [AV.frzL, AV.frz, tsI, frzL_ints, ih]
/-- How much room a fraction takes, and a list of them. -/
def fsz (x : FR) : Nat := x.1.2.length + x.2.length
def tot : List FR → Nat
  | [] => 0
  | x :: l => fsz x + tot l
theorem fdrop {l : List FR} {i : Nat} (h : i < l.length) : l.drop i = fat l i :: l.drop (i + 1) := by
  rw [List.drop_eq_getElem_cons h]
  unfold fat
  rw [List.getD_eq_getElem?_getD, List.getElem?_eq_getElem h]
  rfl
theorem ftake {l : List FR} {i : Nat} (h : i < l.length) : l.take (i + 1) = l.take i ++ [fat l i] := by
  rw [List.take_succ_eq_append_getElem h]
  unfold fat
  rw [List.getD_eq_getElem?_getD, List.getElem?_eq_getElem h]
  rfl
theorem frs_append (a b : List FR) : frs (a ++ b) = frs a ++ frs b := by simp [frs]
theorem tot_at {l : List FR} {i : Nat} (h : i < l.length) : fsz (fat l i) ≤ tot l := by
  induction l generalizing i with
  | nil => simp at h
  | cons x l ih =>
    cases i with
    | zero => simp only [tot, fat, List.getD_cons_zero]; omega
    | succ i => rw [fat_cons, tot]; have := ih (i := i) (by simpa using h); omega
def zc : List AV := [.v (.bool false), .v (.slice none 0 0), .v (.slice none 0 0)]
theorem repA_succ (n : Nat) (cs : List AV) : repA (n + 1) cs = cs ++ repA n cs := by simp [repA, List.replicate_succ]
theorem repz_length (n : Nat) : (repA n zc).length = n * 3 := by
  induction n with
  | zero => rfl
  | succ n ih => rw [repA_succ, List.length_append, ih]; simp [zc]; omega
theorem renL_append (ρ : Nat → Nat) : ∀ (a b : List AV), AV.renL ρ (a ++ b) = AV.renL ρ a ++ AV.renL ρ b
  | [], b => rfl
  | x :: a, b => by simp [AV.renL, renL_append ρ a b]
theorem renL_zc (ρ : Nat → Nat) (n : Nat) : AV.renL ρ (repA n zc) = repA n zc := by
  induction n with
  | zero => rfl
  | succ n ih => rw [repA_succ, renL_append, ih]; rfl
theorem frzL_append (nm : Nat) (cs : List AV) : ∀ (a b : List AV), AV.frzL nm cs (a ++ b) = AV.frzL nm cs a ++ AV.frzL nm cs b
  | [], b => rfl
  | x :: a, b => by simp [AV.frzL, frzL_append nm cs a b]
theorem frzL_zc (nm : Nat) (cs : List AV) (n : Nat) : AV.frzL nm cs (repA n zc) = repA n zc := by
  induction n with
  | zero => rfl
  | succ n ih => rw [repA_succ, frzL_append, ih]; rfl
theorem part_length {l : List FR} {i : Nat} (h : i ≤ l.length) : (frs (l.take i) ++ repA (l.length - i) zc).length = l.length * 3 := by
  rw [List.length_append, frs_length, repz_length, List.length_take]; omega
theorem part_set {l : List FR} {i : Nat} (h : i < l.length) : setN (setN (setN (frs (l.take i) ++ repA (l.length - i) zc) (i * 3) (.v (.bool (fat l i).1.1))) (i * 3 + 1) (tsI (fat l i).1.2)) (i * 3 + 1 + 1) (tsI (fat l i).2) = frs (l.take (i + 1)) ++ repA (l.length - (i + 1)) zc := by
  obtain ⟨d, hd⟩ : ∃ d, l.length - i = d + 1 := ⟨l.length - i - 1, by omega⟩
  have hP : (frs (l.take i)).length = i * 3 := by rw [frs_length, List.length_take]; omega
  rw [hd, show l.length - (i + 1) = d by omega, repA_succ, ftake h, frs_append]
  simp only [setN_eq]
  rw [List.set_append_right _ _ (by omega), List.set_append_right _ _ (by omega), List.set_append_right _ _ (by omega), hP, List.append_assoc]
  congr 1
  rw [show i * 3 - i * 3 = 0 by omega, show i * 3 + 1 - i * 3 = 1 by omega, show i * 3 + 1 + 1 - i * 3 = 2 by omega]
  rfl
theorem frs_all (l : List FR) : (frs l).take (l.length * 3) = frs l := by rw [← frs_length, List.take_length]
theorem repz0 : repA 0 zc = [] := rfl
end Go.Proofs.YtjnlpomfjlpikaaDoor.Ab
