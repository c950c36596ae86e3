/- Contracts of functions of this claim that the print does not take, proved by hand. -/
import Derived.Test.YtmnahdoomnbdoaaProg
import Derived.Below
import Derived.Deep.Draws
import Derived.Deep.AppendLies
import Derived.Maps.AppendAt
import Derived.OwnWalk
import Derived.Laws.BytesArg
import Derived.Laws.MakeOwn
import Derived.Laws.OwnMore
import Derived.Deep.OwnRows
import Derived.Tactics
import Derived.Lib.ConvBytes
import Derived.Laws.Slices
import Derived.WalkKit
import Derived.KernelRfl
import Derived.RowKit3
import Derived.Deep.LoopGhost
import Derived.Deep.QuietTactic
import Derived.BigQuiet
import Derived.WideLaws
import Derived.Deep.DeepCutAuto
import Derived.Deep.CutBlock
import Derived.Deep.RegionHeld3
import Derived.Laws.Rows
import Derived.Lib.AppendStr
import Derived.ArgAppend
import Derived.Laws.IdiomCopy
import Derived.OrdersHeld
import Derived.Laws.BitsLemmas
import Derived.RowKit
import Derived.Test.YtmnahdoomnbdoaaWWords
import Derived.Test.YtmnahdoomnbdoaaWLast
import Derived.Test.YtmnahdoomnbdoaaWTab
import Derived.Test.YtmnahdoomnbdoaaWFour
import Derived.Test.YtmnahdoomnbdoaaWQPut
import Derived.Test.YtmnahdoomnbdoaaWApart
import Derived.Test.YtmnahdoomnbdoaaWArr
import Derived.Test.YtmnahdoomnbdoaaWZeros
import Derived.Test.YtmnahdoomnbdoaaWFoot
import Derived.Test.YtmnahdoomnbdoaaWKept
import Derived.Test.YtmnahdoomnbdoaaWShare
import Derived.Test.YtmnahdoomnbdoaaWN
import Derived.Test.YtmnahdoomnbdoaaWFootNe
import Derived.Test.YtmnahdoomnbdoaaWAt
import Derived.Test.YtmnahdoomnbdoaaWEqStruct
import Derived.Test.YtmnahdoomnbdoaaWRepsOne
import Derived.Test.YtmnahdoomnbdoaaWInv
import Derived.Test.YtmnahdoomnbdoaaWInvWords
import Derived.Test.YtmnahdoomnbdoaaWGuard
import Derived.Test.YtmnahdoomnbdoaaWNEv
import Derived.Test.YtmnahdoomnbdoaaWMore
namespace Go.Proofs.Ytmnahdoomnbdoaa.Ext
open Go.RowKit Go.Proofs.YtmnahdoomnbdoaaW.PrintWords Go.Proofs.YtmnahdoomnbdoaaW.PrintLast Go.Proofs.YtmnahdoomnbdoaaW.PrintMore
set_option linter.unusedVariables false
set_option linter.unusedSimpArgs false

/-! ### impl.NatOk: slices.ContainsFunc with a function literal -/
def badB (x : Int) : Bool := decide (x < 0) || decide (1000000000 ≤ x)
def idxB : List Int → Int → Int
  | [], _ => -1
  | x :: xs, i => if badB x = true then i else idxB xs (i + 1)
theorem idxB_any (l : List Int) : ∀ i : Int, 0 ≤ i → (decide (0 ≤ idxB l i) = l.any badB) := by
  induction l with
  | nil => intro i _; simp [idxB]
  | cons x xs ih =>
    intro i hi
    by_cases h : badB x = true
    · simp [idxB, h, hi]
    · simp only [idxB, if_neg h, List.any_cons, ih (i + 1) (by omega)]
      simp only [Bool.not_eq_true] at h
      rw [h, Bool.false_or]
/-- Does the list hold the limbs of a natural number? -/
def natOkB (l : List Int) : Bool := decide (l.length ≤ 60) && (l.isEmpty || !decide (rd l ((l.length : Int) - 1) = 0)) && !l.any badB

set_option maxHeartbeats 2000000 in
theorem bad_calls (x : Int) (w : World) : Calls Try.prog 93 #[.int .i64 x] w fun e w' => e = .returned (.bool (badB x)) ∧ Drawn0 w w' := by
  by_cases c1 : x < 0
  · have c1b : decide (x < 0) = true := decide_eq_true c1
    rw [show badB x = true by simp [badB, c1]]
    clear c1
    go_enter Try.func93, Try.ntmps93
    go_wp2
    repeat (go_quiet (fail); try go_wp2)
    go_ret
    exact ⟨rfl, by repeat (first | exact Drawn0.refl _ | apply Drawn0.step)⟩
  · have c1b : decide (x < 0) = false := decide_eq_false c1
    by_cases c2 : 1000000000 ≤ x
    · have c2b : decide (1000000000 ≤ x) = true := decide_eq_true c2
      rw [show badB x = true by simp [badB, c2]]
      clear c1 c2
      go_enter Try.func93, Try.ntmps93
      go_wp2
      repeat (go_quiet (fail); try go_wp2)
      go_ret
      exact ⟨rfl, by repeat (first | exact Drawn0.refl _ | apply Drawn0.step)⟩
    · have c2b : decide (1000000000 ≤ x) = false := decide_eq_false c2
      rw [show badB x = false by simp [badB, c1, c2]]
      clear c1 c2
      go_enter Try.func93, Try.ntmps93
      go_wp2
      repeat (go_quiet (fail); try go_wp2)
      go_ret
      exact ⟨rfl, by repeat (first | exact Drawn0.refl _ | apply Drawn0.step)⟩

set_option maxHeartbeats 4000000 in
theorem index_calls (A0 : Option Addr) (c0 : Nat) (l0 : List Int) (w : World) (hr0 : Kd.C (Kd.int .i64) w A0 l0.length l0) (hc0 : l0.length ≤ c0) :
    Calls Try.prog 102 #[.slice A0 l0.length c0, .func (.func 93) #[] #[]] w fun e w' => e = .returned (.int .i64 (idxB l0 0)) ∧ Drawn0 w w' := by
  have HR0 := Aside0.mk hr0
  have HC0 := Aside0.mk hc0
  have hl : l0.length ≤ 9223372036854775807 := Kd.C_max hr0
  clear hr0 hc0
  go_enter Try.func102, Try.ntmps102
  go_wp2
  go_loopg [5, 8] l0.length (fun gg _ s8 wr => ∃ kk : Nat, kk ≤ l0.length ∧ l0.length - kk ≤ gg ∧ s8 = .int .i64 kk ∧ Drawn0 w wr ∧ Aside0 (idxB (l0.drop kk) kk = idxB l0 0))
  case atStart => exact ⟨0, Nat.zero_le _, by omega, rfl, Drawn0.refl _, ⟨rfl⟩⟩
  case round =>
    obtain ⟨kk, hkk, hg, rfl, ⟨m1, rfl⟩, HA⟩ := hrel
    by_cases hlt : kk < l0.length
    · have p5 : (0 : Int) ≤ (kk : Int) := by omega
      have q5 : (kk : Int) < (l0.length : Int) := by omega
      obtain ⟨ad, ead, hx⟩ := Kd.at_int HR0.out (kk : Int) p5 q5
      cases ead
      rw [Int.toNat_natCast] at hx
      have e : idxB (l0.drop kk) kk = if badB (rd l0 kk) = true then (kk : Int) else idxB (l0.drop (kk + 1)) (kk + 1) := by
        rw [List.drop_eq_getElem_cons hlt, idxB, rd]
        simp [List.getD_eq_getElem?_getD, List.getElem?_eq_getElem hlt]
      cases hq : badB (rd l0 kk) with
      | true =>
        have HE := Aside0.mk (show idxB l0 0 = (kk : Int) by rw [← HA.out, e, hq]; rfl)
        have hcall : ∀ W, Calls Try.prog 93 #[.int .i64 (rd l0 kk)] W fun e w' => e = .returned (.bool true) ∧ Drawn0 W w' := fun W => by have := bad_calls (rd l0 kk) W; rwa [hq] at this
        clear e hq HA
        go_wp2_with (go_at_call 93; refine (hcall _).mono ?_; rintro e w' ⟨rfl, ⟨q', rfl⟩⟩)
        go_ret
        exact ⟨by rw [HE.out]; rfl, by repeat (first | exact Drawn0.refl _ | apply Drawn0.step)⟩
      | false =>
        have HE := Aside0.mk (show idxB (l0.drop (kk + 1)) ((kk + 1 : Nat) : Int) = idxB l0 0 by rw [← HA.out, e, hq]; simp)
        have hcall : ∀ W, Calls Try.prog 93 #[.int .i64 (rd l0 kk)] W fun e w' => e = .returned (.bool false) ∧ Drawn0 W w' := fun W => by have := bad_calls (rd l0 kk) W; rwa [hq] at this
        clear e hq HA
        go_wp2_with (go_at_call 93; refine (hcall _).mono ?_; rintro e w' ⟨rfl, ⟨q', rfl⟩⟩)
        go_roundg (l0.length - (kk + 1))
        case measure => omega
        case rel => exact ⟨kk + 1, by omega, by omega, by go_num, by repeat (first | exact Drawn0.refl _ | apply Drawn0.step), HE⟩
    · have hltz : ¬ (kk : Int) < (l0.length : Int) := by omega
      have HE := Aside0.mk (show idxB l0 0 = -1 by rw [← HA.out, List.drop_of_length_le (by omega)]; rfl)
      clear HA
      go_wp2
      go_ret
      exact ⟨by rw [HE.out]; rfl, by repeat (first | exact Drawn0.refl _ | apply Drawn0.step)⟩

set_option maxHeartbeats 2000000 in
theorem contains_calls (A0 : Option Addr) (c0 : Nat) (l0 : List Int) (w : World) (hr0 : Kd.C (Kd.int .i64) w A0 l0.length l0) (hc0 : l0.length ≤ c0) :
    Calls Try.prog 92 #[.slice A0 l0.length c0, .func (.func 93) #[] #[]] w fun e w' => e = .returned (.bool (l0.any badB)) ∧ Drawn0 w w' := by
  rw [← idxB_any l0 0 (by omega)]
  have HR0 := Aside0.mk hr0
  have HC0 := Aside0.mk hc0
  clear hr0 hc0
  go_enter Try.func92, Try.ntmps92
  go_wp2_with (go_at_call 102; refine (index_calls A0 c0 l0 _ HR0.out HC0.out).mono ?_; rintro e w' ⟨rfl, ⟨q', rfl⟩⟩)
  go_ret
  exact ⟨rfl, by repeat (first | exact Drawn0.refl _ | apply Drawn0.step)⟩

set_option maxHeartbeats 8000000 in
theorem natOk_calls (A0 : Option Addr) (c0 : Nat) (l0 : List Int) (w : World) (hr0 : Kd.C (Kd.int .i64) w A0 l0.length l0) (hc0 : l0.length ≤ c0) :
    Calls Try.prog 60 #[.slice A0 l0.length c0] w fun e w' => e = .returned (.bool (natOkB l0)) ∧ Drawn0 w w' := by
  have HR0 := Aside0.mk hr0
  have HC0 := Aside0.mk hc0
  have hl : l0.length ≤ 9223372036854775807 := Kd.C_max hr0
  clear hr0 hc0
  by_cases c1 : 60 < l0.length
  · have c1b : decide ((60 : Int) < (l0.length : Int)) = true := decide_eq_true (by omega)
    have c1c : decide (60 < l0.length) = true := decide_eq_true c1
    rw [show natOkB l0 = false by simp [natOkB]; omega]
    clear c1
    go_enter Try.func60, Try.ntmps60
    go_wp2
    repeat (go_quiet (fail); try go_wp2)
    go_ret
    exact ⟨rfl, by repeat (first | exact Drawn0.refl _ | apply Drawn0.step)⟩
  · have c1b : decide ((60 : Int) < (l0.length : Int)) = false := decide_eq_false (by omega)
    have c1c : decide (60 < l0.length) = false := decide_eq_false c1
    by_cases c2 : 0 < l0.length
    · have c2b : decide ((0 : Int) < (l0.length : Int)) = true := decide_eq_true (by omega)
      have c2c : decide (0 < l0.length) = true := decide_eq_true c2
      have ew : wrap64 ((l0.length : Int) - 1) = (l0.length : Int) - 1 := by unfold wrap64; omega
      have p5 : (0 : Int) ≤ wrap64 ((l0.length : Int) - 1) := by omega
      have q5 : wrap64 ((l0.length : Int) - 1) < (l0.length : Int) := by omega
      obtain ⟨ad, ead, hx⟩ := Kd.at_int HR0.out (wrap64 ((l0.length : Int) - 1)) p5 q5
      cases ead
      replace p5 := eq_true p5
      replace q5 := eq_true q5
      have EW := Aside0.mk ew
      clear ew hl
      by_cases c3 : rd l0 (wrap64 ((l0.length : Int) - 1)) = 0
      · have c3b : (rd l0 (wrap64 ((l0.length : Int) - 1)) == 0) = true := beq_iff_eq.mpr c3
        rw [show natOkB l0 = false by
          have : l0.isEmpty = false := by cases l0 with | nil => simp at c2 | cons _ _ => rfl
          rw [EW.out] at c3
          simp [natOkB, this, c3]]
        clear c1 c2 c3
        go_enter Try.func60, Try.ntmps60
        go_wp2
        repeat (go_quiet (fail); try go_wp2)
        go_ret
        exact ⟨rfl, by repeat (first | exact Drawn0.refl _ | apply Drawn0.step)⟩
      · have c3b : (rd l0 (wrap64 ((l0.length : Int) - 1)) == 0) = false := beq_eq_false_iff_ne.mpr c3
        rw [show natOkB l0 = !l0.any badB by
          have : decide (l0.length ≤ 60) = true := decide_eq_true (by omega)
          rw [EW.out] at c3
          simp [natOkB, this, c3]]
        clear c1 c2 c3
        go_enter Try.func60, Try.ntmps60
        go_wp2_with (go_at_call 92; refine (contains_calls _ c0 l0 _ HR0.out HC0.out).mono ?_; rintro e w' ⟨rfl, ⟨q', rfl⟩⟩)
        go_ret
        exact ⟨rfl, by repeat (first | exact Drawn0.refl _ | apply Drawn0.step)⟩
    · have c2b : decide ((0 : Int) < (l0.length : Int)) = false := decide_eq_false (by omega)
      have c2c : decide (0 < l0.length) = false := decide_eq_false c2
      rw [show natOkB l0 = !l0.any badB by
        have h0 : l0 = [] := List.length_eq_zero_iff.mp (by omega)
        subst h0; rfl]
      clear c1 c2
      go_enter Try.func60, Try.ntmps60
      go_wp2_with (go_at_call 92; refine (contains_calls _ c0 l0 _ HR0.out HC0.out).mono ?_; rintro e w' ⟨rfl, ⟨q', rfl⟩⟩)
      go_ret
      exact ⟨rfl, by repeat (first | exact Drawn0.refl _ | apply Drawn0.step)⟩

end Go.Proofs.Ytmnahdoomnbdoaa.Ext
