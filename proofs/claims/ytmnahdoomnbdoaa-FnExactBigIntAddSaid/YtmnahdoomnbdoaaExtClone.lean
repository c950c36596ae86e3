/- Contracts of functions of this claim that the print does not take, proved by hand. -/
import Derived.Test.YtmnahdoomnbdoaaProg
import Derived.Below
import Derived.Deep.Draws
import Derived.Deep.AppendLies
import Derived.Maps.AppendAt
import Derived.OwnWalk
import Derived.Laws.BytesArg
import Derived.Laws.MakeOwn
import Derived.Laws.OwnMore
import Derived.Deep.OwnRows
import Derived.Tactics
import Derived.Lib.ConvBytes
import Derived.Laws.Slices
import Derived.WalkKit
import Derived.KernelRfl
import Derived.RowKit3
import Derived.Deep.LoopGhost
import Derived.Deep.QuietTactic
import Derived.BigQuiet
import Derived.WideLaws
import Derived.Deep.DeepCutAuto
import Derived.Deep.CutBlock
import Derived.Deep.RegionHeld3
import Derived.Laws.Rows
import Derived.Lib.AppendStr
import Derived.ArgAppend
import Derived.Laws.IdiomCopy
import Derived.OrdersHeld
import Derived.Laws.BitsLemmas
import Derived.RowKit
import Derived.Test.YtmnahdoomnbdoaaWWords
import Derived.Test.YtmnahdoomnbdoaaWLast
import Derived.Test.YtmnahdoomnbdoaaWTab
import Derived.Test.YtmnahdoomnbdoaaWFour
import Derived.Test.YtmnahdoomnbdoaaWQPut
import Derived.Test.YtmnahdoomnbdoaaWApart
import Derived.Test.YtmnahdoomnbdoaaWArr
import Derived.Test.YtmnahdoomnbdoaaWZeros
import Derived.Test.YtmnahdoomnbdoaaWFoot
import Derived.Test.YtmnahdoomnbdoaaWKept
import Derived.Test.YtmnahdoomnbdoaaWShare
import Derived.Test.YtmnahdoomnbdoaaWN
import Derived.Test.YtmnahdoomnbdoaaWFootNe
import Derived.Test.YtmnahdoomnbdoaaWAt
import Derived.Test.YtmnahdoomnbdoaaWEqStruct
import Derived.Test.YtmnahdoomnbdoaaWRepsOne
import Derived.Test.YtmnahdoomnbdoaaWInv
import Derived.Test.YtmnahdoomnbdoaaWInvWords
import Derived.Test.YtmnahdoomnbdoaaWGuard
import Derived.Test.YtmnahdoomnbdoaaWNEv
import Derived.Test.YtmnahdoomnbdoaaWMore
import Derived.Lib.SliceRun
namespace Go.Proofs.Ytmnahdoomnbdoaa.Ext
open Go.RowKit Go.Proofs.YtmnahdoomnbdoaaW.PrintWords Go.Proofs.YtmnahdoomnbdoaaW.PrintLast Go.Proofs.YtmnahdoomnbdoaaW.PrintMore
set_option linter.unusedVariables false
set_option linter.unusedSimpArgs false

/-! ### slices.Clone at []int -/
theorem infoInt : (Try.prog.info? 3).map (fun i => (i.zero, i.size, i.bytes)) = some (some (.int .i64 0), 1, 8) := by kernel_rfl
set_option maxHeartbeats 4000000 in
set_option maxRecDepth 100000 in
theorem clone_calls (A0 : Option Addr) (c0 : Nat) (l0 : List Int) (w : World) (hr0 : Kd.C (Kd.int .i64) w A0 l0.length l0) (hc0 : l0.length ≤ c0) (hlim : l0.length < 17592186044416) :
    Calls Try.prog 94 #[.slice A0 l0.length c0] w fun e w' => ∃ v0_ : Value, e = .returned (v0_) ∧ Kd.R (Kd.int .i64) 3 w' w.heap.size (fun _ => True) v0_ l0 ∧ Below w.heap.size w w' := by
  have HC0 := Aside0.mk hc0
  have HL := Aside0.mk hlim
  have qe : ∀ (w : World) (a : Option Addr) (n c n' c' : Nat), (binOp .eql 22 (.slice a n c) (.slice none n' c')).run Try.prog w = .ok (.bool a.isNone) w := fun w a n c n' c' => Lib.run_eql_slice_nil w _ _ a n c n' c' Try.underlying22
  clear hlim hc0
  rcases A0 with _ | ad
  · have h0 : l0 = [] := by
      by_cases h : 0 < l0.length
      · obtain ⟨ad, e, _⟩ := Kd.at_int hr0 0 (by omega) (by omega)
        cases e
      · exact List.length_eq_zero_iff.mp (by omega)
    subst h0
    clear hr0
    go_enter Try.func94, Try.ntmps94
    go_wp2
    go_ret
    exact ⟨_, rfl, Kd.R_nil _ _ _ _ _, Below.refl _ _⟩
  · have HR0 := Aside0.mk hr0
    clear hr0
    have HB := Aside0.mk (Below.refl w.heap.size w)
    go_enter Try.func94, Try.ntmps94
    go_wp2_with (first
      | ((with_reducible refine gate_dst (N := 5) rfl ?_); refine Kd.R_lit (Kd.int .i64) _ 3 ?hg (N := 5) ?hd (xs := ([] : List Int)) (inner := []) (ok := fun _ => True) (okp := fun _ => True) ?hr ?hp (fun _ hk => hk) trivial (Below.refl _ _) (Nat.le_refl _) (by simp) ?_; (case hd => rfl); (case hg => rfl); (case hr => first | (go_simp; done) | (go_simp; rfl)); (case hp => exact (Reps.none _ _)); intro v1 w1 ho hb hg_ hnew_; clear hg_ hnew_; have n0 := Aside0.mk (Kd.C_below HR0.out hb); have n1 := Aside0.mk ho; clear HR0 HB; have HR0 := n0; have HO := n1; have HB := Aside0.mk hb; clear n0 n1 hb ho)
      | ((with_reducible refine gate_builtin (b := .append) (xs := #[.tmp 5, .tmp 6]) rfl ?_); at_builtin; refine Kd.R_append_rows (Kd.int .i64) (w0 := w) w.heap.size rfl (.tmp 5) (.tmp 6) 22 3 (.int .i64 0) 8 rfl Try.underlying22 infoInt rfl (by decide) (by omega) _ ([] : List Int) l0 _ _ _ (fun _ => True) (fun _ => False) rfl rfl ?aO ?aR (fun _ _ h => h) (fun _ h => h.elim) ?aF ?aB ?aS ?aL ?_; (case aR => exact HR0.out); (case aB => exact HB.out); (case aF => exact fun _ _ => trivial); (case aO => exact HO.out); (case aS => exact below_size HB.out); (case aL => have := HL.out; simp; omega); intro v1 w1 ho hb hg hat; have HO2 := Aside0.mk ho; have HB2 := Aside0.mk hb; clear hb hg hat ho HO HB HR0))
    go_ret
    exact ⟨_, rfl, by simpa using HO2.out, HB2.out⟩

end Go.Proofs.Ytmnahdoomnbdoaa.Ext
