/- Contracts of the given program's functions and of the reference's (walks). -/
import Derived.Test.YtjnlpomfjlpikaaDoorAbA
import Derived.Test.YtjnlpomfjlpikaaDoorAbB
import Derived.Test.YtjnlpomfjlpikaaDoorAbP
import Derived.Test.YtjnlpomfjlpikaaDoorAbV
set_option linter.unusedVariables false
set_option linter.unusedSimpArgs false
namespace Go.Proofs.YtjnlpomfjlpikaaDoor.Ab
open Go
/-! ### Lists of strings -/
def St (s : ByteArray) : AV := .v (.string s)
def strs (l : List ByteArray) : List AV := l.map St
def strT (l : List ByteArray) : AV := .ts l.length (strs l)
def slS (n : Nat) (l : List ByteArray) : AV := .sl n 0 l.length 1
def sat (l : List ByteArray) (i : Nat) : ByteArray := l.getD i ByteArray.empty
theorem strs_length (l : List ByteArray) : (strs l).length = l.length := by simp [strs]
theorem nth_strs {l : List ByteArray} {n : Nat} (h : n < l.length) : nth (strs l) n = some (.v (.string (sat l n))) := by
  rw [nth_eq, strs, List.getElem?_map, List.getElem?_eq_getElem h]
  unfold sat
  rw [List.getD_eq_getElem?_getD, List.getElem?_eq_getElem h]
  rfl
theorem strs_set (l : List ByteArray) (n : Nat) (x : ByteArray) : setN (strs l) n (.v (.string x)) = strs (l.set n x) := by rw [setN_eq]; simp [strs, St, List.map_set]
theorem strs_append (a b : List ByteArray) : strs a ++ strs b = strs (a ++ b) := by simp [strs]
theorem strs_snoc (p : List ByteArray) (x : ByteArray) : strs p ++ [.v (.string x)] = strs (p ++ [x]) := by rw [← strs_append]; rfl
theorem strs_take (l : List ByteArray) (n : Nat) : (strs l).take n = strs (l.take n) := by simp [strs]
theorem strs_all (l : List ByteArray) : (strs l).take (l.length * 1) = strs l := by rw [Nat.mul_one, strs_take, List.take_length]
theorem strs_all' (l : List ByteArray) : (strs l).take l.length = strs l := by rw [strs_take, List.take_length]
theorem renL_strs (ρ : Nat → Nat) (l : List ByteArray) : AV.renL ρ (strs l) = strs l := by
  induction l with
  | nil => rfl
  | cons x l ih => simp only [strs, List.map_cons, AV.renL, St, AV.ren] at ih ⊢; rw [ih]
theorem frzL_strs (nm : Nat) (cs : List AV) (l : List ByteArray) : AV.frzL nm cs (strs l) = strs l := by
  induction l with
  | nil => rfl
  | cons x l ih => simp only [strs, List.map_cons, AV.frzL, St, AV.frz] at ih ⊢; rw [ih]
theorem plain_strs (l : List ByteArray) : plainL (strs l) = true := by
  induction l with
  | nil => rfl
  | cons x l ih => simp only [strs, List.map_cons, plainL, St, plainA, Bool.true_and] at ih ⊢; exact ih
theorem res_strs (σ : Sto) (f : Nat) (l : List ByteArray) : (strs l).map (res σ (f + 1)) = strs l := by
  induction l with
  | nil => rfl
  | cons x l ih => simp only [strs, List.map_cons, St, q_rs1] at ih ⊢; rw [ih]
theorem resOk_strs (σ : Sto) (f : Nat) (l : List ByteArray) : (strs l).all (resOk σ (f + 1)) = true := by
  induction l with
  | nil => rfl
  | cons x l ih => simp only [strs, List.map_cons, List.all_cons, St, q_ro1, Bool.true_and] at ih ⊢; exact ih
theorem sat_set {l : List ByteArray} {i : Nat} (x : ByteArray) (h : i < l.length) : sat (l.set i x) i = x := by
  unfold sat
  rw [List.getD_eq_getElem?_getD, List.getElem?_set_self h, Option.getD_some]
theorem beq_bytes (s : ByteArray) : (s.toList == s.toList) = true := beq_self_eq_true _
/-! ### Marks -/
def tx (k : Nat) : ByteArray := if h : k = 0 then ByteArray.empty else tx (k / 10) ++ pushAll [((48 + k % 10 : Nat) : Int)]
theorem tx_0 : tx 0 = ByteArray.empty := by rw [tx]; simp
theorem tx_pos {k : Nat} (h : k ≠ 0) : tx k = tx (k / 10) ++ pushAll [((48 + k % 10 : Nat) : Int)] := by rw [tx]; simp [h]
def mtx (k : Nat) : ByteArray := ⟨#[109]⟩ ++ tx k
def mkS (k : Nat) : Nat → List ByteArray
  | 0 => []
  | n + 1 => mtx k :: mkS (k + 1) n
theorem mkS_length (k n : Nat) : (mkS k n).length = n := by
  induction n generalizing k with
  | zero => rfl
  | succ n ih => simp [mkS, ih]
theorem mkS_at {k n i : Nat} (h : i < n) : sat (mkS k n) i = mtx (k + i) := by
  induction n generalizing k i with
  | zero => omega
  | succ n ih =>
    cases i with
    | zero => rfl
    | succ i =>
      have := ih (k := k + 1) (i := i) (by omega)
      rw [show k + (i + 1) = k + 1 + i by omega, ← this]
      rfl
def mixS (k : Nat) (l : List ByteArray) (i : Nat) : List ByteArray := mkS k i ++ l.drop i
theorem mixS_length {k : Nat} {l : List ByteArray} {i : Nat} (h : i ≤ l.length) : (mixS k l i).length = l.length := by simp [mixS, mkS_length]; omega
theorem mkS_succ (k i : Nat) : mkS k (i + 1) = mkS k i ++ [mtx (k + i)] := by
  induction i generalizing k with
  | zero => rfl
  | succ i ih =>
    show mtx k :: mkS (k + 1) (i + 1) = mtx k :: (mkS (k + 1) i ++ _)
    rw [ih, show k + 1 + i = k + (i + 1) by omega]
theorem mixS_step {k : Nat} {l : List ByteArray} {i : Nat} (h : i < l.length) : (mixS k l i).set i (mtx (k + i)) = mixS k l (i + 1) := by
  unfold mixS
  rw [mkS_succ, List.set_append_right _ _ (by rw [mkS_length]; exact Nat.le_refl _), mkS_length, Nat.sub_self, List.drop_eq_getElem_cons h, List.set_cons_zero, List.append_assoc]
  rfl
end Go.Proofs.YtjnlpomfjlpikaaDoor.Ab
