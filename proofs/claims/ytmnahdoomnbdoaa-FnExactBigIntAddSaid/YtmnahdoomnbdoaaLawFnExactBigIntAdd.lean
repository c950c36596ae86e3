-- The walks of this claim's Go functions: written by a program of this session (out of Lean's print of the translation), not by hand.
import Derived.Test.YtmnahdoomnbdoaaRows
import Derived.Test.YtmnahdoomnbdoaaPFnExactBigIntAddx7
import Derived.Test.YtmnahdoomnbdoaaPureFnExactBigIntAdd
import Derived.Test.YtmnahdoomnbdoaaExtRd
import Derived.WalkKit
import Derived.ProofKit
import Derived.OpenShut
import Derived.ShutString
import Derived.ChangeOld
import Derived.Below
import Derived.SizedLaws
namespace Go.Proofs.Ytmnahdoomnbdoaa.fnExactBigIntAdd
open Go.ChangeShapes Go.WideShapes Go.ChangeAt Go.RowKit Go.Proofs.YtmnahdoomnbdoaaW.PrintWords Go.Proofs.Ytmnahdoomnbdoaa.PFnExactBigIntAdd
open Go.ChangeMaps (open_string shut_string)
set_option linter.unusedVariables false
theorem own : ownKnob Try.prog.godebug = none := by kernel_rfl
theorem laidOut : laidOutB Try.prog = true := by kernel_rfl
set_option maxRecDepth 100000 in
theorem lifted (os : Os) (started : os.Started) (H : Type) (enc : TypeId × Value → H) :
    ReturnsInHanded {} Try.checked os 10 .any (Rows.fnExactBigIntAddSpec.pre6 enc Try.prog Try.f10 Rows.fnExactBigIntAddRow.domain false) (Rows.fnExactBigIntAddSpec.post enc Try.prog Try.f10 false true false false) := by
  refine returnsInHanded_of_change_sized (C := Try.checked) own started (by kernel_rfl) Try.func10
    (ChangeSpec.witness6 (enc := enc) (C := Try.checked) false ⟨#[], #[(.agg #[(.bool false), (.slice none 0 0)]), (.agg #[(.bool false), (.slice none 0 0)])], []⟩ 8 (by kernel_rfl) (by kernel_rfl) (by kernel_rfl) (by kernel_rfl)) ?_
  intro W base args ds gs before hval0 hW hcnd hsz0 _
  have hsz : (DataW.weightsEach Try.prog (Try.f10.params.toList ++ Rows.fnExactBigIntAddSpec.plain.varTypes Try.prog) (ds ++ gs)).all (· ≤ reachBytes) = true := hsz0
  have hval : ∀ (j : Nat) t v, Try.f10.params[j]? = some t → args[j]? = some v → Value.okWide Try.prog W .any base t v := hval0
  have hW' := hW
  obtain ⟨p, q, hA0, hV, rfl, hfz, hnd⟩ := hW
  have hA : DataW.TrodAll enc Try.prog W 0 (fun _ => true) true Try.f10.params.toList args.toList ds p := hA0
  rw [Try.params10] at hA hval hsz
  obtain ⟨v0, vs0, d0, ds0, p0, q0, hargs, rfl, rfl, h0, r0⟩ := trodAll_cons hA
  obtain ⟨v1, vs1, d1, ds1, p1, q1, rfl, rfl, rfl, h1, r1⟩ := trodAll_cons r0
  obtain ⟨rfl, rfl, rfl⟩ := trodAll_nil r1
  obtain rfl : args = #[v0, v1] := by cases args; simp_all
  obtain ⟨rfl, rfl⟩ := trodVars_none hV
  have k0 := h0
  have lt0 : ∀ x ∈ p0, x.block < W.heap.size := by obtain ⟨m, hm⟩ := k0; exact DataW.trod_lt m _ _ _ hm
  obtain ⟨x0, hK0, hG0⟩ : ∃ x : S28, (k28 : Kd (S28)).K W x v0.cells.toList ∧ (True ∧ ((∀ y ∈ x.f1, (Lit.int .i64 y).wf = true) ∧ x.f1.length ≤ maxLen)) := by
    obtain ⟨fuel, hf⟩ := h0
    exact (Ext.rd_struct2 (mk := S28.mk) Try.underlying28 rfl (by kernel_rfl) rfl (by kernel_rfl) (by kernel_rfl) (fun _ _ => rfl) (Ext.rd_bool Try.underlying4) (Ext.rd_slice Try.underlying22 (by kernel_rfl) (Ext.rd_int Try.underlying3))) fuel _ _ hf
  obtain ⟨cs0, rfl, _⟩ := okWide_struct Try.underlying28 (hval 0 28 v0 rfl rfl)
  obtain ⟨A0_1, c0_1, e0, hc0_1, hr0_1⟩ := k28_open hK0
  have e0' : cs0.toList = _ := e0
  obtain rfl : cs0 = #[.bool x0.f0, .slice A0_1 x0.f1.length c0_1] := Array.toList_inj.mp e0'
  have k1 := h1
  have lt1 : ∀ x ∈ p1, x.block < W.heap.size := by obtain ⟨m, hm⟩ := k1; exact DataW.trod_lt m _ _ _ hm
  obtain ⟨x1, hK1, hG1⟩ : ∃ x : S28, (k28 : Kd (S28)).K W x v1.cells.toList ∧ (True ∧ ((∀ y ∈ x.f1, (Lit.int .i64 y).wf = true) ∧ x.f1.length ≤ maxLen)) := by
    obtain ⟨fuel, hf⟩ := h1
    exact (Ext.rd_struct2 (mk := S28.mk) Try.underlying28 rfl (by kernel_rfl) rfl (by kernel_rfl) (by kernel_rfl) (fun _ _ => rfl) (Ext.rd_bool Try.underlying4) (Ext.rd_slice Try.underlying22 (by kernel_rfl) (Ext.rd_int Try.underlying3))) fuel _ _ hf
  obtain ⟨cs1, rfl, _⟩ := okWide_struct Try.underlying28 (hval 1 28 v1 rfl rfl)
  obtain ⟨A1_1, c1_1, e1, hc1_1, hr1_1⟩ := k28_open hK1
  have e1' : cs1.toList = _ := e1
  obtain rfl : cs1 = #[.bool x1.f0, .slice A1_1 x1.f1.length c1_1] := Array.toList_inj.mp e1'
  clear hA0 hval0 hsz0 hsz
  have hk := Pure.FnExactBigIntAdd x0 x1 hG0 hG1
  refine (laws_FnExactBigIntAdd.calls x0.f0 _ _ x0.f1 x1.f0 _ _ x1.f1 W hr0_1 hc0_1 hr1_1 hc1_1 hk).mono fun e W' ⟨he, bel0⟩ => ?_
  have bel : Below W.heap.size W W' := bel0
  subst he
  exact ⟨_, rfl, _, _, _, [], _, [], hW', trodAll_mk1 (shut_bool Try.underlying4 _), (trodAll_cons_mk (Below.trod laidOut (by kernel_rfl) (of_decide_eq_true (by kernel_rfl)) k0 bel lt0) (trodAll_cons_mk (Below.trod laidOut (by kernel_rfl) (of_decide_eq_true (by kernel_rfl)) k1 bel lt1) trodAll_mk0)), rfl, bel.frame _, fun h => by cases h⟩
theorem over : Rows.fnExactBigIntAddRow.holds Try.pinned (OpenSpec.ofChange Rows.fnExactBigIntAddSpec) :=
  OpenClaim.holds_of_wide 10 Try.f10 rfl rfl rfl rfl rfl rfl rfl ⟨rfl, rfl, rfl, rfl, rfl⟩ rfl rfl rfl rfl rfl (by kernel_rfl) Try.func10 (by kernel_rfl)
    (of_decide_eq_true (by kernel_rfl)) (by unfold Func.isWrapper; first | (rw [if_pos (by decide +kernel)]; kernel_rfl) | (rw [if_neg (by decide +kernel)]; exact ⟨rfl, rfl⟩))
    (fun os started H enc _ => lifted os started H enc)
theorem proved : Rows.FnExactBigIntAddSaid := over
#print axioms proved
end Go.Proofs.Ytmnahdoomnbdoaa.fnExactBigIntAdd
namespace Go.Proofs.Ytmnahdoomnbdoaa
/-- The row, under a short name, for the claim. -/
theorem fnExactBigIntAdd_holds : Rows.FnExactBigIntAddSaid := fnExactBigIntAdd.proved
end Go.Proofs.Ytmnahdoomnbdoaa
