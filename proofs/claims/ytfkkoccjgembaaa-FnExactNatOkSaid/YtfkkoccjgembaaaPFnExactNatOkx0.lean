-- The walks of this claim's Go functions: written by a program of this session (out of Lean's print of the translation), not by hand.
import Derived.Test.YtfkkoccjgembaaaProg
import Derived.Below
import Derived.Deep.Draws
import Derived.Deep.AppendLies
import Derived.Maps.AppendAt
import Derived.OwnWalk
import Derived.Laws.BytesArg
import Derived.Laws.MakeOwn
import Derived.Laws.OwnMore
import Derived.Deep.OwnRows
import Derived.Tactics
import Derived.Lib.ConvBytes
import Derived.Laws.Slices
import Derived.WalkKit
import Derived.KernelRfl
import Derived.RowKit3
import Derived.Deep.LoopGhost
import Derived.Deep.QuietTactic
import Derived.BigQuiet
import Derived.WideLaws
import Derived.Deep.DeepCutAuto
import Derived.Deep.CutBlock
import Derived.Deep.RegionHeld3
import Derived.Laws.Rows
import Derived.Lib.AppendStr
import Derived.ArgAppend
import Derived.Laws.IdiomCopy
import Derived.OrdersHeld
import Derived.Laws.BitsLemmas
import Derived.RowKit
import Derived.Test.YtfkkoccjgembaaaExtNatOk
import Derived.Test.YtfkkoccjgembaaaWWords
import Derived.Test.YtfkkoccjgembaaaWLast
import Derived.Test.YtfkkoccjgembaaaWTab
import Derived.Test.YtfkkoccjgembaaaWFour
import Derived.Test.YtfkkoccjgembaaaWQPut
import Derived.Test.YtfkkoccjgembaaaWApart
import Derived.Test.YtfkkoccjgembaaaWArr
import Derived.Test.YtfkkoccjgembaaaWZeros
import Derived.Test.YtfkkoccjgembaaaWFoot
import Derived.Test.YtfkkoccjgembaaaWKept
import Derived.Test.YtfkkoccjgembaaaWShare
import Derived.Test.YtfkkoccjgembaaaWN
import Derived.Test.YtfkkoccjgembaaaWFootNe
import Derived.Test.YtfkkoccjgembaaaWAt
import Derived.Test.YtfkkoccjgembaaaWEqStruct
import Derived.Test.YtfkkoccjgembaaaWRepsOne
import Derived.Test.YtfkkoccjgembaaaWInv
import Derived.Test.YtfkkoccjgembaaaWInvWords
import Derived.Test.YtfkkoccjgembaaaWGuard
import Derived.Test.YtfkkoccjgembaaaWNEv
import Derived.Test.YtfkkoccjgembaaaWMore
namespace Go.Proofs.Ytfkkoccjgembaaa.PFnExactNatOk
open Go.RowKit Go.Proofs.YtfkkoccjgembaaaW.PrintWords Go.Proofs.YtfkkoccjgembaaaW.PrintLast Go.Proofs.YtfkkoccjgembaaaW.PrintMore
attribute [local go_sem] max2_int min2_int max_two min_two max_three min_three max_four min_four   -- for this text's walks alone
set_option linter.unusedVariables false
set_option linter.unusedSimpArgs false



def errW : Option Int → Value
  | none => .nilIface
  | some c => .iface 0 (.int .i64 c)
theorem errW_none : errW none = .nilIface := rfl
theorem errW_some (c : Int) : errW (some c) = .iface 0 (.int .i64 c) := rfl

theorem info3 : (Try.prog.info? 3).map (fun i => (i.zero, i.size, i.bytes)) = some (some (.int .i64 0), 1, 8) := by kernel_rfl
-- the values' own types

end Go.Proofs.Ytfkkoccjgembaaa.PFnExactNatOk
