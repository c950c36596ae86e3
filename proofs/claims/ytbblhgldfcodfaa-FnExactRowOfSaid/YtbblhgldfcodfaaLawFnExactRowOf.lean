/- The program's RowOf returns what the reference's returns, for all arguments: no condition. -/
-- The row of this claim: written by a program of this session, not by hand.
import Derived.Test.YtbblhgldfcodfaaRows
import Derived.Test.YtbblhgldfcodfaaLRowOf
import Derived.WalkKit
import Derived.ProofKit
import Derived.OpenShut
import Derived.ShutString
import Derived.ChangeOld
import Derived.Below
import Derived.SizedLaws
namespace Go.Proofs.Ytbblhgldfcodfaa.fnExactRowOf
open Go.ChangeShapes Go.WideShapes Go.ChangeAt Go.RowKit Go.Proofs.Ytbblhgldfcodfaa.Ab
open Go.ChangeMaps (open_string shut_string)
set_option linter.unusedVariables false
theorem own : ownKnob Try.prog.godebug = none := by kernel_rfl
theorem laidOut : laidOutB Try.prog = true := by kernel_rfl
set_option maxRecDepth 100000 in
theorem lifted (os : Os) (started : os.Started) (H : Type) (enc : TypeId × Value → H) :
    ReturnsInHanded {} Try.checked os 7 .any (Rows.fnExactRowOfSpec.pre6 enc Try.prog Try.f7 Rows.fnExactRowOfRow.domain false) (Rows.fnExactRowOfSpec.post enc Try.prog Try.f7 false true false false) := by
  refine returnsInHanded_of_change_sized (C := Try.checked) own started (by kernel_rfl) Try.func7
    (ChangeSpec.witness6 (enc := enc) (C := Try.checked) false ⟨#[], #[(.agg #[(.int .i64 0), (.int .i64 0), (.slice none 0 0)]), (.int .i64 0)], []⟩ 8 (by kernel_rfl) (by kernel_rfl) (by kernel_rfl) (by kernel_rfl)) ?_
  intro W base args ds gs before hval0 hW hcnd hsz0 _
  have hsz : (DataW.weightsEach Try.prog (Try.f7.params.toList ++ Rows.fnExactRowOfSpec.plain.varTypes Try.prog) (ds ++ gs)).all (· ≤ reachBytes) = true := hsz0
  have hval : ∀ (j : Nat) t v, Try.f7.params[j]? = some t → args[j]? = some v → Value.okWide Try.prog W .any base t v := hval0
  have hW' := hW
  obtain ⟨p, q, hA0, hV, rfl, hfz, hnd⟩ := hW
  have hA : DataW.TrodAll enc Try.prog W 0 (fun _ => true) true Try.f7.params.toList args.toList ds p := hA0
  rw [Try.params7] at hA hval hsz
  obtain ⟨v0, vs0, d0, ds0, p0, q0, hargs, rfl, rfl, h0, r0⟩ := trodAll_cons hA
  obtain ⟨v1, vs1, d1, ds1, p1, q1, rfl, rfl, rfl, h1, r1⟩ := trodAll_cons r0
  obtain ⟨rfl, rfl, rfl⟩ := trodAll_nil r1
  obtain rfl : args = #[v0, v1] := by cases args; simp_all
  obtain ⟨rfl, rfl⟩ := trodVars_none hV
  have k0 := h0
  have lt0 : ∀ x ∈ p0, x.block < W.heap.size := by obtain ⟨m, hm⟩ := k0; exact DataW.trod_lt m _ _ _ hm
  obtain ⟨x0, hK0, hG0⟩ : ∃ x : (Int) × (Int) × (List (((Bool) × (List (Int))) × (List (Int)))), VG W ((fun x : (Int) × (Int) × (List (((Bool) × (List (Int))) × (List (Int)))) => (fun n : Int => [AV.v (.int .i64 n)]) x.1 ++ ((fun n : Int => [AV.v (.int .i64 n)]) x.2.1 ++ (fun l : List (((Bool) × (List (Int))) × (List (Int))) => [AV.ts l.length (l.flatMap (fun x : ((Bool) × (List (Int))) × (List (Int)) => (fun x : (Bool) × (List (Int)) => (fun b : Bool => [AV.v (.bool b)]) x.1 ++ (fun l : List (Int) => [AV.ts l.length (l.flatMap (fun n : Int => [AV.v (.int .i64 n)]))]) x.2) x.1 ++ (fun l : List (Int) => [AV.ts l.length (l.flatMap (fun n : Int => [AV.v (.int .i64 n)]))]) x.2))]) x.2.2)) x) v0.cells.toList ∧ (fun x : (Int) × (Int) × (List (((Bool) × (List (Int))) × (List (Int)))) => (fun n : Int => (Lit.int .i64 n).wf = true) x.1 ∧ (fun n : Int => (Lit.int .i64 n).wf = true) x.2.1 ∧ (fun l : List (((Bool) × (List (Int))) × (List (Int))) => (∀ a ∈ l, (fun x : ((Bool) × (List (Int))) × (List (Int)) => (fun x : (Bool) × (List (Int)) => (fun _ : Bool => True) x.1 ∧ (fun l : List (Int) => (∀ a ∈ l, (fun n : Int => (Lit.int .i64 n).wf = true) a) ∧ l.length ≤ maxLen) x.2) x.1 ∧ (fun l : List (Int) => (∀ a ∈ l, (fun n : Int => (Lit.int .i64 n).wf = true) a) ∧ l.length ≤ maxLen) x.2) a) ∧ l.length ≤ maxLen) x.2.2) x := by
    obtain ⟨fuel, hf⟩ := h0
    exact (rdA_struct3 Try.underlying38 rfl (by kernel_rfl) (by kernel_rfl) (by kernel_rfl) (rdA_int Try.underlying3) (rdA_int Try.underlying3) (rdA_slice (sz := 3) Try.underlying36 (by kernel_rfl) (by decide) (fun _ => rfl) (rdA_struct2 Try.underlying26 rfl (by kernel_rfl) (by kernel_rfl) (rdA_struct2 Try.underlying24 rfl (by kernel_rfl) (by kernel_rfl) (rdA_bool Try.underlying4) (rdA_slice (sz := 1) Try.underlying22 (by kernel_rfl) (by decide) (fun _ => rfl) (rdA_int Try.underlying3))) (rdA_slice (sz := 1) Try.underlying22 (by kernel_rfl) (by decide) (fun _ => rfl) (rdA_int Try.underlying3))))) fuel _ _ hf
  obtain ⟨cs0, rfl, _⟩ := okWide_struct Try.underlying38 (hval 0 38 v0 rfl rfl)
  have hV0 : VG W [AV.agg ((fun x : (Int) × (Int) × (List (((Bool) × (List (Int))) × (List (Int)))) => (fun n : Int => [AV.v (.int .i64 n)]) x.1 ++ ((fun n : Int => [AV.v (.int .i64 n)]) x.2.1 ++ (fun l : List (((Bool) × (List (Int))) × (List (Int))) => [AV.ts l.length (l.flatMap (fun x : ((Bool) × (List (Int))) × (List (Int)) => (fun x : (Bool) × (List (Int)) => (fun b : Bool => [AV.v (.bool b)]) x.1 ++ (fun l : List (Int) => [AV.ts l.length (l.flatMap (fun n : Int => [AV.v (.int .i64 n)]))]) x.2) x.1 ++ (fun l : List (Int) => [AV.ts l.length (l.flatMap (fun n : Int => [AV.v (.int .i64 n)]))]) x.2))]) x.2.2)) x0)] [Value.agg cs0] := by simp only [VG, VRe, VR]; exact ⟨_, _, rfl, ⟨cs0, rfl, hK0⟩, rfl⟩
  obtain ⟨x1, rfl, rfl, rfl, w1⟩ := open_int Try.underlying3 (hval 1 3 v1 rfl rfl) h1
  have hV1 : VG W [AV.v (.int .i64 x1)] [Value.int .i64 x1] := by simp [VG, VRe, VR]
  clear hA0 hval0 hsz0 hsz
  have hl := law_FnExactRowOf x0 x1 hG0 w1
  refine (laws_calls hl (VRe.append hV0 hV1)).mono fun e W' ⟨he, bel⟩ => ?_
  subst he
  exact ⟨_, rfl, _, _, _, [], _, [], hW', trodAll_mk1 (shut_bool Try.underlying4 _), (trodAll_cons_mk (Below.trod laidOut (by kernel_rfl) (of_decide_eq_true (by kernel_rfl)) k0 bel lt0) (trodAll_cons_mk (shut_int Try.underlying3 w1) trodAll_mk0)), rfl, bel.frame _, fun h => by cases h⟩
theorem over : Rows.fnExactRowOfRow.holds Try.pinned (OpenSpec.ofChange Rows.fnExactRowOfSpec) :=
  OpenClaim.holds_of_wide 7 Try.f7 rfl rfl rfl rfl rfl rfl rfl ⟨rfl, rfl, rfl, rfl, rfl⟩ rfl rfl rfl rfl rfl (by kernel_rfl) Try.func7 (by kernel_rfl)
    (of_decide_eq_true (by kernel_rfl)) (by unfold Func.isWrapper; first | (rw [if_pos (by decide +kernel)]; kernel_rfl) | (rw [if_neg (by decide +kernel)]; exact ⟨rfl, rfl⟩))
    (fun os started H enc _ => lifted os started H enc)
theorem proved : Rows.FnExactRowOfSaid := over
#print axioms proved
end Go.Proofs.Ytbblhgldfcodfaa.fnExactRowOf
namespace Go.Proofs.Ytbblhgldfcodfaa
/-- The row, under a short name, for the claim. -/
theorem fnExactRowOf_holds : Rows.FnExactRowOfSaid := fnExactRowOf.proved
end Go.Proofs.Ytbblhgldfcodfaa
