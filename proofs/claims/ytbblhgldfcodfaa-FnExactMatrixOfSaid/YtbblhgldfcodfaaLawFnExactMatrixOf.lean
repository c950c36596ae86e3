/- The program's MatrixOf returns what the reference's returns, for all arguments: no condition. -/
-- The row of this claim: written by a program of this session, not by hand.
import Derived.Test.YtbblhgldfcodfaaRows
import Derived.Test.YtbblhgldfcodfaaLMatrixOf
import Derived.WalkKit
import Derived.ProofKit
import Derived.OpenShut
import Derived.ShutString
import Derived.ChangeOld
import Derived.Below
import Derived.SizedLaws
namespace Go.Proofs.Ytbblhgldfcodfaa.fnExactMatrixOf
open Go.ChangeShapes Go.WideShapes Go.ChangeAt Go.RowKit Go.Proofs.Ytbblhgldfcodfaa.Ab
open Go.ChangeMaps (open_string shut_string)
set_option linter.unusedVariables false
theorem own : ownKnob Try.prog.godebug = none := by kernel_rfl
theorem laidOut : laidOutB Try.prog = true := by kernel_rfl
set_option maxRecDepth 100000 in
theorem lifted (os : Os) (started : os.Started) (H : Type) (enc : TypeId × Value → H) :
    ReturnsInHanded {} Try.checked os 8 .any (Rows.fnExactMatrixOfSpec.pre6 enc Try.prog Try.f8 Rows.fnExactMatrixOfRow.domain false) (Rows.fnExactMatrixOfSpec.post enc Try.prog Try.f8 false true false false) := by
  refine returnsInHanded_of_change_sized (C := Try.checked) own started (by kernel_rfl) Try.func8
    (ChangeSpec.witness6 (enc := enc) (C := Try.checked) false ⟨#[], #[(.int .i64 0), (.int .i64 0), (.slice none 0 0)], []⟩ 8 (by kernel_rfl) (by kernel_rfl) (by kernel_rfl) (by kernel_rfl)) ?_
  intro W base args ds gs before hval0 hW hcnd hsz0 _
  have hsz : (DataW.weightsEach Try.prog (Try.f8.params.toList ++ Rows.fnExactMatrixOfSpec.plain.varTypes Try.prog) (ds ++ gs)).all (· ≤ reachBytes) = true := hsz0
  have hval : ∀ (j : Nat) t v, Try.f8.params[j]? = some t → args[j]? = some v → Value.okWide Try.prog W .any base t v := hval0
  have hW' := hW
  obtain ⟨p, q, hA0, hV, rfl, hfz, hnd⟩ := hW
  have hA : DataW.TrodAll enc Try.prog W 0 (fun _ => true) true Try.f8.params.toList args.toList ds p := hA0
  rw [Try.params8] at hA hval hsz
  obtain ⟨v0, vs0, d0, ds0, p0, q0, hargs, rfl, rfl, h0, r0⟩ := trodAll_cons hA
  obtain ⟨v1, vs1, d1, ds1, p1, q1, rfl, rfl, rfl, h1, r1⟩ := trodAll_cons r0
  obtain ⟨v2, vs2, d2, ds2, p2, q2, rfl, rfl, rfl, h2, r2⟩ := trodAll_cons r1
  obtain ⟨rfl, rfl, rfl⟩ := trodAll_nil r2
  obtain rfl : args = #[v0, v1, v2] := by cases args; simp_all
  obtain ⟨rfl, rfl⟩ := trodVars_none hV
  obtain ⟨x0, rfl, rfl, rfl, w0⟩ := open_int Try.underlying3 (hval 0 3 v0 rfl rfl) h0
  have hV0 : VG W [AV.v (.int .i64 x0)] [Value.int .i64 x0] := by simp [VG, VRe, VR]
  obtain ⟨x1, rfl, rfl, rfl, w1⟩ := open_int Try.underlying3 (hval 1 3 v1 rfl rfl) h1
  have hV1 : VG W [AV.v (.int .i64 x1)] [Value.int .i64 x1] := by simp [VG, VRe, VR]
  have k2 := h2
  have lt2 : ∀ x ∈ p2, x.block < W.heap.size := by obtain ⟨m, hm⟩ := k2; exact DataW.trod_lt m _ _ _ hm
  obtain ⟨x2, hK2, hG2⟩ : ∃ x : List (Int), VG W ((fun l : List (Int) => [AV.ts l.length (l.flatMap (fun n : Int => [AV.v (.int .i64 n)]))]) x) v2.cells.toList ∧ (fun l : List (Int) => (∀ a ∈ l, (fun n : Int => (Lit.int .i64 n).wf = true) a) ∧ l.length ≤ maxLen) x := by
    obtain ⟨fuel, hf⟩ := h2
    exact (rdA_slice (sz := 1) Try.underlying22 (by kernel_rfl) (by decide) (fun _ => rfl) (rdA_int Try.underlying3)) fuel _ _ hf
  obtain ⟨b2, len2, cap2, rfl⟩ := okWide_slice Try.underlying22 (hval 2 22 v2 rfl rfl)
  have hV2 : VG W [AV.ts x2.length (x2.flatMap (fun n : Int => [AV.v (.int .i64 n)]))] [Value.slice b2 len2 cap2] := hK2
  clear hA0 hval0 hsz0 hsz
  have hl := law_FnExactMatrixOf x0 x1 x2 w0 w1 hG2
  refine (laws_calls hl (VRe.append hV0 (VRe.append hV1 hV2))).mono fun e W' ⟨he, bel⟩ => ?_
  subst he
  exact ⟨_, rfl, _, _, _, [], _, [], hW', trodAll_mk1 (shut_bool Try.underlying4 _), (trodAll_cons_mk (shut_int Try.underlying3 w0) (trodAll_cons_mk (shut_int Try.underlying3 w1) (trodAll_cons_mk (Below.trod laidOut (by kernel_rfl) (of_decide_eq_true (by kernel_rfl)) k2 bel lt2) trodAll_mk0))), rfl, bel.frame _, fun h => by cases h⟩
theorem over : Rows.fnExactMatrixOfRow.holds Try.pinned (OpenSpec.ofChange Rows.fnExactMatrixOfSpec) :=
  OpenClaim.holds_of_wide 8 Try.f8 rfl rfl rfl rfl rfl rfl rfl ⟨rfl, rfl, rfl, rfl, rfl⟩ rfl rfl rfl rfl rfl (by kernel_rfl) Try.func8 (by kernel_rfl)
    (of_decide_eq_true (by kernel_rfl)) (by unfold Func.isWrapper; first | (rw [if_pos (by decide +kernel)]; kernel_rfl) | (rw [if_neg (by decide +kernel)]; exact ⟨rfl, rfl⟩))
    (fun os started H enc _ => lifted os started H enc)
theorem proved : Rows.FnExactMatrixOfSaid := over
#print axioms proved
end Go.Proofs.Ytbblhgldfcodfaa.fnExactMatrixOf
namespace Go.Proofs.Ytbblhgldfcodfaa
/-- The row, under a short name, for the claim. -/
theorem fnExactMatrixOf_holds : Rows.FnExactMatrixOfSaid := fnExactMatrixOf.proved
end Go.Proofs.Ytbblhgldfcodfaa
