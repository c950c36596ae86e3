-- The walks of this claim's Go functions: written by a program of this session (out of Lean's print of the translation), not by hand.
import Derived.Test.YtfkkoccjgembaaaRows
import Derived.Test.YtfkkoccjgembaaaPFnExactBigIntOkx2
import Derived.Test.YtfkkoccjgembaaaPureFnExactBigIntOk
import Derived.Test.YtfkkoccjgembaaaExtRd
import Derived.WalkKit
import Derived.ProofKit
import Derived.OpenShut
import Derived.ShutString
import Derived.ChangeOld
import Derived.Below
import Derived.SizedLaws
namespace Go.Proofs.Ytfkkoccjgembaaa.fnExactBigIntOk
open Go.ChangeShapes Go.WideShapes Go.ChangeAt Go.RowKit Go.Proofs.YtfkkoccjgembaaaW.PrintWords Go.Proofs.Ytfkkoccjgembaaa.PFnExactBigIntOk
open Go.ChangeMaps (open_string shut_string)
set_option linter.unusedVariables false
theorem own : ownKnob Try.prog.godebug = none := by kernel_rfl
theorem laidOut : laidOutB Try.prog = true := by kernel_rfl
set_option maxRecDepth 100000 in
theorem lifted (os : Os) (started : os.Started) (H : Type) (enc : TypeId × Value → H) :
    ReturnsInHanded {} Try.checked os 9 .any (Rows.fnExactBigIntOkSpec.pre6 enc Try.prog Try.f9 Rows.fnExactBigIntOkRow.domain false) (Rows.fnExactBigIntOkSpec.post enc Try.prog Try.f9 false true false false) := by
  refine returnsInHanded_of_change_sized (C := Try.checked) own started (by kernel_rfl) Try.func9
    (ChangeSpec.witness6 (enc := enc) (C := Try.checked) false ⟨#[], #[(.agg #[(.bool false), (.slice none 0 0)])], []⟩ 8 (by kernel_rfl) (by kernel_rfl) (by kernel_rfl) (by kernel_rfl)) ?_
  intro W base args ds gs before hval0 hW hcnd hsz0 _
  have hsz : (DataW.weightsEach Try.prog (Try.f9.params.toList ++ Rows.fnExactBigIntOkSpec.plain.varTypes Try.prog) (ds ++ gs)).all (· ≤ reachBytes) = true := hsz0
  have hval : ∀ (j : Nat) t v, Try.f9.params[j]? = some t → args[j]? = some v → Value.okWide Try.prog W .any base t v := hval0
  have hW' := hW
  obtain ⟨p, q, hA0, hV, rfl, hfz, hnd⟩ := hW
  have hA : DataW.TrodAll enc Try.prog W 0 (fun _ => true) true Try.f9.params.toList args.toList ds p := hA0
  rw [Try.params9] at hA hval hsz
  obtain ⟨v0, vs0, d0, ds0, p0, q0, hargs, rfl, rfl, h0, r0⟩ := trodAll_cons hA
  obtain ⟨rfl, rfl, rfl⟩ := trodAll_nil r0
  obtain rfl : args = #[v0] := by cases args; simp_all
  obtain ⟨rfl, rfl⟩ := trodVars_none hV
  have k0 := h0
  have lt0 : ∀ x ∈ p0, x.block < W.heap.size := by obtain ⟨m, hm⟩ := k0; exact DataW.trod_lt m _ _ _ hm
  obtain ⟨x0, hK0, hG0⟩ : ∃ x : S37, (k37 : Kd (S37)).K W x v0.cells.toList ∧ (True ∧ ((∀ y ∈ x.f1, (Lit.int .i64 y).wf = true) ∧ x.f1.length ≤ maxLen)) := by
    obtain ⟨fuel, hf⟩ := h0
    exact (Ext.rd_struct2 (mk := S37.mk) Try.underlying37 rfl (by kernel_rfl) rfl (by kernel_rfl) (by kernel_rfl) (fun _ _ => rfl) (Ext.rd_bool Try.underlying4) (Ext.rd_slice Try.underlying24 (by kernel_rfl) (Ext.rd_int Try.underlying3))) fuel _ _ hf
  obtain ⟨cs0, rfl, _⟩ := okWide_struct Try.underlying37 (hval 0 37 v0 rfl rfl)
  obtain ⟨A0_1, c0_1, e0, hc0_1, hr0_1⟩ := k37_open hK0
  have e0' : cs0.toList = _ := e0
  obtain rfl : cs0 = #[.bool x0.f0, .slice A0_1 x0.f1.length c0_1] := Array.toList_inj.mp e0'
  clear hA0 hval0 hsz0 hsz
  obtain ⟨k, hk⟩ := Pure.FnExactBigIntOk x0 hG0
  refine (laws_FnExactBigIntOk.calls k x0.f0 _ _ x0.f1 W hr0_1 hc0_1 hk).mono fun e W' ⟨he, bel0⟩ => ?_
  have bel : Below W.heap.size W W' := bel0
  subst he
  exact ⟨_, rfl, _, _, _, [], _, [], hW', trodAll_mk1 (shut_bool Try.underlying4 _), (trodAll_cons_mk (Below.trod laidOut (by kernel_rfl) (of_decide_eq_true (by kernel_rfl)) k0 bel lt0) trodAll_mk0), rfl, bel.frame _, fun h => by cases h⟩
theorem over : Rows.fnExactBigIntOkRow.holds Try.pinned (OpenSpec.ofChange Rows.fnExactBigIntOkSpec) :=
  OpenClaim.holds_of_wide 9 Try.f9 rfl rfl rfl rfl rfl rfl rfl ⟨rfl, rfl, rfl, rfl, rfl⟩ rfl rfl rfl rfl rfl (by kernel_rfl) Try.func9 (by kernel_rfl)
    (of_decide_eq_true (by kernel_rfl)) (by unfold Func.isWrapper; first | (rw [if_pos (by decide +kernel)]; kernel_rfl) | (rw [if_neg (by decide +kernel)]; exact ⟨rfl, rfl⟩))
    (fun os started H enc _ => lifted os started H enc)
theorem proved : Rows.FnExactBigIntOkSaid := over
#print axioms proved
end Go.Proofs.Ytfkkoccjgembaaa.fnExactBigIntOk
namespace Go.Proofs.Ytfkkoccjgembaaa
/-- The row, under a short name, for the claim. -/
theorem fnExactBigIntOk_holds : Rows.FnExactBigIntOkSaid := fnExactBigIntOk.proved
end Go.Proofs.Ytfkkoccjgembaaa
