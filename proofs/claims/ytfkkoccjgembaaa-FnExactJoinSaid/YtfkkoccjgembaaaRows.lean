/-
  No cell of these rows narrows 'for every input' (looked for: loops, veiled, ifaces, maps, wideKeys, modest, calm, conditions, laid).
  DERIVED. THE GIVEN ROWS OF THIS SEAT. 12 by the template 'for every input the law returns true; each argument reads behind the call as it read before'; 0 by the template 'total and deterministic' (their statements: YtfkkoccjgembaaaTotals.lean).
  GIVEN WITH THE SEED: the statements are not yours to turn. If you find one false, say at which input.
  Laid BY PROGRAM, IN A SANDBOX (cutbox-rows.mjs): the forced cells as the released guide's own fill.sh prints them over the translation 274abf9960ca1107… (all of the seat's roots in one cut). By AI agents, Wed Nov 11 2026. No macro, syntax, notation, axiom, sorry.
-/
import Derived.Test.YtfkkoccjgembaaaChecked
import GoSem.Claim
import GoSem.ClaimJoined
import GoSem.ClaimMapViews
import Derived.JoinedTies
import Derived.KernelRfl
namespace Go.Proofs.Ytfkkoccjgembaaa
/- THE CELL 'sum', in the pinned program and in every row, IS THE sha256 OF THE DUMP (.gsa) THAT YtfkkoccjgembaaaProg.lean LOADS. Nothing in Lean hashes anything: it is a label: what it is worth is what the hold of that sum in a sandbox is worth. -/
noncomputable def Try.pinned : Pinned := { name := "ytfkkoccjgembaaa", sum := "274abf9960ca1107e79953808bfebdf58a1695712658dbaeaac9222769ae36c4", checked := Try.checked }
namespace Rows
def none {H : Type} : Left H := { results := [], args := [] }

/-- 'laws.FnExactConstants': WHATEVER THE INPUT: true; the input reads as it did. -/
def fnExactConstantsSpec : ChangeSpec := { name := "fnExactConstants", fn := fun _ => fun
  | [] => { results := [.lit (.bool true)], args := [] }
  | _ => none }
def fnExactConstantsRow : OpenClaim := { program := "ytfkkoccjgembaaa", sum := "274abf9960ca1107e79953808bfebdf58a1695712658dbaeaac9222769ae36c4", func := "loop.example/g00830/laws.FnExactConstants", spec := "fnExactConstants", apart := false }
def FnExactConstantsSaid : Prop := fnExactConstantsRow.holds Try.pinned (OpenSpec.ofChange fnExactConstantsSpec)

/-- ITS FALSE NEIGHBOUR: 'it returns false'. Refute it at one input. -/
def fnExactConstantsWrong : ChangeSpec := { name := "fnExactConstants", fn := fun _ => fun
  | [] => { results := [.lit (.bool false)], args := [] }
  | _ => none }
def FnExactConstantsWrongFalsely : Prop := fnExactConstantsRow.holds Try.pinned (OpenSpec.ofChange fnExactConstantsWrong)

/-- 'laws.FnExactIsDigits': WHATEVER THE INPUT: true; the input reads as it did. -/
def fnExactIsDigitsSpec : ChangeSpec := { name := "fnExactIsDigits", fn := fun _ => fun
  | [d] => { results := [.lit (.bool true)], args := [d] }
  | _ => none }
def fnExactIsDigitsRow : OpenClaim := { program := "ytfkkoccjgembaaa", sum := "274abf9960ca1107e79953808bfebdf58a1695712658dbaeaac9222769ae36c4", func := "loop.example/g00830/laws.FnExactIsDigits", spec := "fnExactIsDigits", apart := false }
def FnExactIsDigitsSaid : Prop := fnExactIsDigitsRow.holds Try.pinned (OpenSpec.ofChange fnExactIsDigitsSpec)

/-- ITS FALSE NEIGHBOUR: 'it returns false'. Refute it at one input. -/
def fnExactIsDigitsWrong : ChangeSpec := { name := "fnExactIsDigits", fn := fun _ => fun
  | [d] => { results := [.lit (.bool false)], args := [d] }
  | _ => none }
def FnExactIsDigitsWrongFalsely : Prop := fnExactIsDigitsRow.holds Try.pinned (OpenSpec.ofChange fnExactIsDigitsWrong)

/-- 'laws.FnExactIsName': WHATEVER THE INPUT: true; the input reads as it did. -/
def fnExactIsNameSpec : ChangeSpec := { name := "fnExactIsName", fn := fun _ => fun
  | [d] => { results := [.lit (.bool true)], args := [d] }
  | _ => none }
def fnExactIsNameRow : OpenClaim := { program := "ytfkkoccjgembaaa", sum := "274abf9960ca1107e79953808bfebdf58a1695712658dbaeaac9222769ae36c4", func := "loop.example/g00830/laws.FnExactIsName", spec := "fnExactIsName", apart := false }
def FnExactIsNameSaid : Prop := fnExactIsNameRow.holds Try.pinned (OpenSpec.ofChange fnExactIsNameSpec)

/-- ITS FALSE NEIGHBOUR: 'it returns false'. Refute it at one input. -/
def fnExactIsNameWrong : ChangeSpec := { name := "fnExactIsName", fn := fun _ => fun
  | [d] => { results := [.lit (.bool false)], args := [d] }
  | _ => none }
def FnExactIsNameWrongFalsely : Prop := fnExactIsNameRow.holds Try.pinned (OpenSpec.ofChange fnExactIsNameWrong)

/-- 'laws.FnExactNatOk': WHATEVER THE INPUT: true; the input reads as it did. -/
def fnExactNatOkSpec : ChangeSpec := { name := "fnExactNatOk", fn := fun _ => fun
  | [d] => { results := [.lit (.bool true)], args := [d] }
  | _ => none }
def fnExactNatOkRow : OpenClaim := { program := "ytfkkoccjgembaaa", sum := "274abf9960ca1107e79953808bfebdf58a1695712658dbaeaac9222769ae36c4", func := "loop.example/g00830/laws.FnExactNatOk", spec := "fnExactNatOk", unfollowed := true, recurses := true, apart := false }
def FnExactNatOkSaid : Prop := fnExactNatOkRow.holds Try.pinned (OpenSpec.ofChange fnExactNatOkSpec)

/-- ITS FALSE NEIGHBOUR: 'it returns false'. Refute it at one input. -/
def fnExactNatOkWrong : ChangeSpec := { name := "fnExactNatOk", fn := fun _ => fun
  | [d] => { results := [.lit (.bool false)], args := [d] }
  | _ => none }
def FnExactNatOkWrongFalsely : Prop := fnExactNatOkRow.holds Try.pinned (OpenSpec.ofChange fnExactNatOkWrong)

/-- 'laws.FnExactNatOf': WHATEVER THE INPUT: true; the input reads as it did. -/
def fnExactNatOfSpec : ChangeSpec := { name := "fnExactNatOf", fn := fun _ => fun
  | [d] => { results := [.lit (.bool true)], args := [d] }
  | _ => none }
def fnExactNatOfRow : OpenClaim := { program := "ytfkkoccjgembaaa", sum := "274abf9960ca1107e79953808bfebdf58a1695712658dbaeaac9222769ae36c4", func := "loop.example/g00830/laws.FnExactNatOf", spec := "fnExactNatOf", apart := false }
def FnExactNatOfSaid : Prop := fnExactNatOfRow.holds Try.pinned (OpenSpec.ofChange fnExactNatOfSpec)

/-- ITS FALSE NEIGHBOUR: 'it returns false'. Refute it at one input. -/
def fnExactNatOfWrong : ChangeSpec := { name := "fnExactNatOf", fn := fun _ => fun
  | [d] => { results := [.lit (.bool false)], args := [d] }
  | _ => none }
def FnExactNatOfWrongFalsely : Prop := fnExactNatOfRow.holds Try.pinned (OpenSpec.ofChange fnExactNatOfWrong)

/-- 'laws.FnExactSplitAny': WHATEVER THE INPUT: true; the input reads as it did. -/
def fnExactSplitAnySpec : ChangeSpec := { name := "fnExactSplitAny", fn := fun _ => fun
  | [d1, d2] => { results := [.lit (.bool true)], args := [d1, d2] }
  | _ => none }
def fnExactSplitAnyRow : OpenClaim := { program := "ytfkkoccjgembaaa", sum := "274abf9960ca1107e79953808bfebdf58a1695712658dbaeaac9222769ae36c4", func := "loop.example/g00830/laws.FnExactSplitAny", spec := "fnExactSplitAny", inPlace := ["internal/bytealg.IndexByteString"], apart := false }
def FnExactSplitAnySaid : Prop := fnExactSplitAnyRow.holds Try.pinned (OpenSpec.ofChange fnExactSplitAnySpec)

/-- ITS FALSE NEIGHBOUR: 'it returns false'. Refute it at one input. -/
def fnExactSplitAnyWrong : ChangeSpec := { name := "fnExactSplitAny", fn := fun _ => fun
  | [d1, d2] => { results := [.lit (.bool false)], args := [d1, d2] }
  | _ => none }
def FnExactSplitAnyWrongFalsely : Prop := fnExactSplitAnyRow.holds Try.pinned (OpenSpec.ofChange fnExactSplitAnyWrong)

/-- 'laws.FnExactBigIntOk': WHATEVER THE INPUT: true; the input reads as it did. -/
def fnExactBigIntOkSpec : ChangeSpec := { name := "fnExactBigIntOk", fn := fun _ => fun
  | [d] => { results := [.lit (.bool true)], args := [d] }
  | _ => none }
def fnExactBigIntOkRow : OpenClaim := { program := "ytfkkoccjgembaaa", sum := "274abf9960ca1107e79953808bfebdf58a1695712658dbaeaac9222769ae36c4", func := "loop.example/g00830/laws.FnExactBigIntOk", spec := "fnExactBigIntOk", unfollowed := true, recurses := true, apart := false }
def FnExactBigIntOkSaid : Prop := fnExactBigIntOkRow.holds Try.pinned (OpenSpec.ofChange fnExactBigIntOkSpec)

/-- ITS FALSE NEIGHBOUR: 'it returns false'. Refute it at one input. -/
def fnExactBigIntOkWrong : ChangeSpec := { name := "fnExactBigIntOk", fn := fun _ => fun
  | [d] => { results := [.lit (.bool false)], args := [d] }
  | _ => none }
def FnExactBigIntOkWrongFalsely : Prop := fnExactBigIntOkRow.holds Try.pinned (OpenSpec.ofChange fnExactBigIntOkWrong)

/-- 'laws.FnExactNatCmp': WHATEVER THE INPUT: true; the input reads as it did. -/
def fnExactNatCmpSpec : ChangeSpec := { name := "fnExactNatCmp", fn := fun _ => fun
  | [d1, d2] => { results := [.lit (.bool true)], args := [d1, d2] }
  | _ => none }
def fnExactNatCmpRow : OpenClaim := { program := "ytfkkoccjgembaaa", sum := "274abf9960ca1107e79953808bfebdf58a1695712658dbaeaac9222769ae36c4", func := "loop.example/g00830/laws.FnExactNatCmp", spec := "fnExactNatCmp", unfollowed := true, recurses := true, apart := false }
def FnExactNatCmpSaid : Prop := fnExactNatCmpRow.holds Try.pinned (OpenSpec.ofChange fnExactNatCmpSpec)

/-- ITS FALSE NEIGHBOUR: 'it returns false'. Refute it at one input. -/
def fnExactNatCmpWrong : ChangeSpec := { name := "fnExactNatCmp", fn := fun _ => fun
  | [d1, d2] => { results := [.lit (.bool false)], args := [d1, d2] }
  | _ => none }
def FnExactNatCmpWrongFalsely : Prop := fnExactNatCmpRow.holds Try.pinned (OpenSpec.ofChange fnExactNatCmpWrong)

/-- 'laws.FnExactBigIntOf': WHATEVER THE INPUT: true; the input reads as it did. -/
def fnExactBigIntOfSpec : ChangeSpec := { name := "fnExactBigIntOf", fn := fun _ => fun
  | [d] => { results := [.lit (.bool true)], args := [d] }
  | _ => none }
def fnExactBigIntOfRow : OpenClaim := { program := "ytfkkoccjgembaaa", sum := "274abf9960ca1107e79953808bfebdf58a1695712658dbaeaac9222769ae36c4", func := "loop.example/g00830/laws.FnExactBigIntOf", spec := "fnExactBigIntOf", apart := false }
def FnExactBigIntOfSaid : Prop := fnExactBigIntOfRow.holds Try.pinned (OpenSpec.ofChange fnExactBigIntOfSpec)

/-- ITS FALSE NEIGHBOUR: 'it returns false'. Refute it at one input. -/
def fnExactBigIntOfWrong : ChangeSpec := { name := "fnExactBigIntOf", fn := fun _ => fun
  | [d] => { results := [.lit (.bool false)], args := [d] }
  | _ => none }
def FnExactBigIntOfWrongFalsely : Prop := fnExactBigIntOfRow.holds Try.pinned (OpenSpec.ofChange fnExactBigIntOfWrong)

/-- 'laws.FnExactRatEqual': WHATEVER THE INPUT: true; the input reads as it did. -/
def fnExactRatEqualSpec : ChangeSpec := { name := "fnExactRatEqual", fn := fun _ => fun
  | [d1, d2] => { results := [.lit (.bool true)], args := [d1, d2] }
  | _ => none }
def fnExactRatEqualRow : OpenClaim := { program := "ytfkkoccjgembaaa", sum := "274abf9960ca1107e79953808bfebdf58a1695712658dbaeaac9222769ae36c4", func := "loop.example/g00830/laws.FnExactRatEqual", spec := "fnExactRatEqual", apart := false }
def FnExactRatEqualSaid : Prop := fnExactRatEqualRow.holds Try.pinned (OpenSpec.ofChange fnExactRatEqualSpec)

/-- ITS FALSE NEIGHBOUR: 'it returns false'. Refute it at one input. -/
def fnExactRatEqualWrong : ChangeSpec := { name := "fnExactRatEqual", fn := fun _ => fun
  | [d1, d2] => { results := [.lit (.bool false)], args := [d1, d2] }
  | _ => none }
def FnExactRatEqualWrongFalsely : Prop := fnExactRatEqualRow.holds Try.pinned (OpenSpec.ofChange fnExactRatEqualWrong)

/-- 'laws.FnExactJoin': WHATEVER THE INPUT: true; the input reads as it did. -/
def fnExactJoinSpec : ChangeSpec := { name := "fnExactJoin", fn := fun _ => fun
  | [d1, d2] => { results := [.lit (.bool true)], args := [d1, d2] }
  | _ => none }
def fnExactJoinRow : OpenClaim := { program := "ytfkkoccjgembaaa", sum := "274abf9960ca1107e79953808bfebdf58a1695712658dbaeaac9222769ae36c4", func := "loop.example/g00830/laws.FnExactJoin", spec := "fnExactJoin", inPlace := ["internal/abi.NoEscape", "internal/bytealg.MakeNoZero"], apart := false }
def FnExactJoinSaid : Prop := fnExactJoinRow.holds Try.pinned (OpenSpec.ofChange fnExactJoinSpec)

/-- ITS FALSE NEIGHBOUR: 'it returns false'. Refute it at one input. -/
def fnExactJoinWrong : ChangeSpec := { name := "fnExactJoin", fn := fun _ => fun
  | [d1, d2] => { results := [.lit (.bool false)], args := [d1, d2] }
  | _ => none }
def FnExactJoinWrongFalsely : Prop := fnExactJoinRow.holds Try.pinned (OpenSpec.ofChange fnExactJoinWrong)

/-- 'laws.FnExactNatToInt': WHATEVER THE INPUT: true; the input reads as it did. -/
def fnExactNatToIntSpec : ChangeSpec := { name := "fnExactNatToInt", fn := fun _ => fun
  | [d] => { results := [.lit (.bool true)], args := [d] }
  | _ => none }
def fnExactNatToIntRow : OpenClaim := { program := "ytfkkoccjgembaaa", sum := "274abf9960ca1107e79953808bfebdf58a1695712658dbaeaac9222769ae36c4", func := "loop.example/g00830/laws.FnExactNatToInt", spec := "fnExactNatToInt", unfollowed := true, recurses := true, apart := false }
def FnExactNatToIntSaid : Prop := fnExactNatToIntRow.holds Try.pinned (OpenSpec.ofChange fnExactNatToIntSpec)

/-- ITS FALSE NEIGHBOUR: 'it returns false'. Refute it at one input. -/
def fnExactNatToIntWrong : ChangeSpec := { name := "fnExactNatToInt", fn := fun _ => fun
  | [d] => { results := [.lit (.bool false)], args := [d] }
  | _ => none }
def FnExactNatToIntWrongFalsely : Prop := fnExactNatToIntRow.holds Try.pinned (OpenSpec.ofChange fnExactNatToIntWrong)

/- THE SECOND FORM. 'bulk': how many values and letters a reading holds, each counted each time it is reached (what is shared counts as often as it is met; a slice's spare places count too). A statement '..UptoSaid' is the law's where the arguments, and the package variables that the reading takes, are together of bulk at most 1048576: NARROWER than '..Said'. Prove '..Said' where nothing that the law and all that it calls make is longer than what came in: it says more and counts as full. Else prove '..UptoSaid'. A law counts once. -/
mutual
def uptoBulk {H : Type} : DataW H → Nat
  | .lit (.string bytes) => bytes.length + 1
  | .lit _ => 1
  | .nil => 1
  | .ptr d => uptoBulk d + 1
  | .slice elems spare => uptoBulkAll elems + uptoBulkAll spare + 1
  | .agg parts => uptoBulkAll parts + 1
  | .iface _ d => uptoBulk d + 1
  | .map entries => uptoBulkEntries entries + 1
  | .held _ => 1
def uptoBulkAll {H : Type} : List (DataW H) → Nat
  | [] => 0
  | d :: r => uptoBulk d + uptoBulkAll r
def uptoBulkEntries {H : Type} : List (Lit × DataW H) → Nat
  | [] => 0
  | x :: r => uptoBulkEntry x + uptoBulkEntries r
def uptoBulkEntry {H : Type} : Lit × DataW H → Nat
  | (.string bytes, d) => bytes.length + uptoBulk d + 1
  | (_, d) => uptoBulk d + 1
 end
def uptoSmall : (H : Type) → List (DataW H) → Bool := fun _ ds => decide (uptoBulkAll ds ≤ 1048576)
def OpenSpec.upto (s : _root_.Go.ChangeSpec) : _root_.Go.OpenSpec := { _root_.Go.OpenSpec.ofChange s with cond := some uptoSmall }

/-- 'laws.FnExactConstants', WHERE WHAT IT READS IS OF BULK AT MOST 1048576: true; the input reads as it did. -/
def fnExactConstantsUptoRow : OpenClaim := { program := "ytfkkoccjgembaaa", sum := "274abf9960ca1107e79953808bfebdf58a1695712658dbaeaac9222769ae36c4", func := "loop.example/g00830/laws.FnExactConstants", spec := "fnExactConstants", apart := false, narrowed := true }
def FnExactConstantsUptoSaid : Prop := fnExactConstantsUptoRow.holds Try.pinned (OpenSpec.upto fnExactConstantsSpec)

/-- 'laws.FnExactIsDigits', WHERE WHAT IT READS IS OF BULK AT MOST 1048576: true; the input reads as it did. -/
def fnExactIsDigitsUptoRow : OpenClaim := { program := "ytfkkoccjgembaaa", sum := "274abf9960ca1107e79953808bfebdf58a1695712658dbaeaac9222769ae36c4", func := "loop.example/g00830/laws.FnExactIsDigits", spec := "fnExactIsDigits", apart := false, narrowed := true }
def FnExactIsDigitsUptoSaid : Prop := fnExactIsDigitsUptoRow.holds Try.pinned (OpenSpec.upto fnExactIsDigitsSpec)

/-- 'laws.FnExactIsName', WHERE WHAT IT READS IS OF BULK AT MOST 1048576: true; the input reads as it did. -/
def fnExactIsNameUptoRow : OpenClaim := { program := "ytfkkoccjgembaaa", sum := "274abf9960ca1107e79953808bfebdf58a1695712658dbaeaac9222769ae36c4", func := "loop.example/g00830/laws.FnExactIsName", spec := "fnExactIsName", apart := false, narrowed := true }
def FnExactIsNameUptoSaid : Prop := fnExactIsNameUptoRow.holds Try.pinned (OpenSpec.upto fnExactIsNameSpec)

/-- 'laws.FnExactNatOk', WHERE WHAT IT READS IS OF BULK AT MOST 1048576: true; the input reads as it did. -/
def fnExactNatOkUptoRow : OpenClaim := { program := "ytfkkoccjgembaaa", sum := "274abf9960ca1107e79953808bfebdf58a1695712658dbaeaac9222769ae36c4", func := "loop.example/g00830/laws.FnExactNatOk", spec := "fnExactNatOk", unfollowed := true, recurses := true, apart := false, narrowed := true }
def FnExactNatOkUptoSaid : Prop := fnExactNatOkUptoRow.holds Try.pinned (OpenSpec.upto fnExactNatOkSpec)

/-- 'laws.FnExactNatOf', WHERE WHAT IT READS IS OF BULK AT MOST 1048576: true; the input reads as it did. -/
def fnExactNatOfUptoRow : OpenClaim := { program := "ytfkkoccjgembaaa", sum := "274abf9960ca1107e79953808bfebdf58a1695712658dbaeaac9222769ae36c4", func := "loop.example/g00830/laws.FnExactNatOf", spec := "fnExactNatOf", apart := false, narrowed := true }
def FnExactNatOfUptoSaid : Prop := fnExactNatOfUptoRow.holds Try.pinned (OpenSpec.upto fnExactNatOfSpec)

/-- 'laws.FnExactSplitAny', WHERE WHAT IT READS IS OF BULK AT MOST 1048576: true; the input reads as it did. -/
def fnExactSplitAnyUptoRow : OpenClaim := { program := "ytfkkoccjgembaaa", sum := "274abf9960ca1107e79953808bfebdf58a1695712658dbaeaac9222769ae36c4", func := "loop.example/g00830/laws.FnExactSplitAny", spec := "fnExactSplitAny", inPlace := ["internal/bytealg.IndexByteString"], apart := false, narrowed := true }
def FnExactSplitAnyUptoSaid : Prop := fnExactSplitAnyUptoRow.holds Try.pinned (OpenSpec.upto fnExactSplitAnySpec)

/-- 'laws.FnExactBigIntOk', WHERE WHAT IT READS IS OF BULK AT MOST 1048576: true; the input reads as it did. -/
def fnExactBigIntOkUptoRow : OpenClaim := { program := "ytfkkoccjgembaaa", sum := "274abf9960ca1107e79953808bfebdf58a1695712658dbaeaac9222769ae36c4", func := "loop.example/g00830/laws.FnExactBigIntOk", spec := "fnExactBigIntOk", unfollowed := true, recurses := true, apart := false, narrowed := true }
def FnExactBigIntOkUptoSaid : Prop := fnExactBigIntOkUptoRow.holds Try.pinned (OpenSpec.upto fnExactBigIntOkSpec)

/-- 'laws.FnExactNatCmp', WHERE WHAT IT READS IS OF BULK AT MOST 1048576: true; the input reads as it did. -/
def fnExactNatCmpUptoRow : OpenClaim := { program := "ytfkkoccjgembaaa", sum := "274abf9960ca1107e79953808bfebdf58a1695712658dbaeaac9222769ae36c4", func := "loop.example/g00830/laws.FnExactNatCmp", spec := "fnExactNatCmp", unfollowed := true, recurses := true, apart := false, narrowed := true }
def FnExactNatCmpUptoSaid : Prop := fnExactNatCmpUptoRow.holds Try.pinned (OpenSpec.upto fnExactNatCmpSpec)

/-- 'laws.FnExactBigIntOf', WHERE WHAT IT READS IS OF BULK AT MOST 1048576: true; the input reads as it did. -/
def fnExactBigIntOfUptoRow : OpenClaim := { program := "ytfkkoccjgembaaa", sum := "274abf9960ca1107e79953808bfebdf58a1695712658dbaeaac9222769ae36c4", func := "loop.example/g00830/laws.FnExactBigIntOf", spec := "fnExactBigIntOf", apart := false, narrowed := true }
def FnExactBigIntOfUptoSaid : Prop := fnExactBigIntOfUptoRow.holds Try.pinned (OpenSpec.upto fnExactBigIntOfSpec)

/-- 'laws.FnExactRatEqual', WHERE WHAT IT READS IS OF BULK AT MOST 1048576: true; the input reads as it did. -/
def fnExactRatEqualUptoRow : OpenClaim := { program := "ytfkkoccjgembaaa", sum := "274abf9960ca1107e79953808bfebdf58a1695712658dbaeaac9222769ae36c4", func := "loop.example/g00830/laws.FnExactRatEqual", spec := "fnExactRatEqual", apart := false, narrowed := true }
def FnExactRatEqualUptoSaid : Prop := fnExactRatEqualUptoRow.holds Try.pinned (OpenSpec.upto fnExactRatEqualSpec)

/-- 'laws.FnExactJoin', WHERE WHAT IT READS IS OF BULK AT MOST 1048576: true; the input reads as it did. -/
def fnExactJoinUptoRow : OpenClaim := { program := "ytfkkoccjgembaaa", sum := "274abf9960ca1107e79953808bfebdf58a1695712658dbaeaac9222769ae36c4", func := "loop.example/g00830/laws.FnExactJoin", spec := "fnExactJoin", inPlace := ["internal/abi.NoEscape", "internal/bytealg.MakeNoZero"], apart := false, narrowed := true }
def FnExactJoinUptoSaid : Prop := fnExactJoinUptoRow.holds Try.pinned (OpenSpec.upto fnExactJoinSpec)

/-- 'laws.FnExactNatToInt', WHERE WHAT IT READS IS OF BULK AT MOST 1048576: true; the input reads as it did. -/
def fnExactNatToIntUptoRow : OpenClaim := { program := "ytfkkoccjgembaaa", sum := "274abf9960ca1107e79953808bfebdf58a1695712658dbaeaac9222769ae36c4", func := "loop.example/g00830/laws.FnExactNatToInt", spec := "fnExactNatToInt", unfollowed := true, recurses := true, apart := false, narrowed := true }
def FnExactNatToIntUptoSaid : Prop := fnExactNatToIntUptoRow.holds Try.pinned (OpenSpec.upto fnExactNatToIntSpec)

end Rows
end Go.Proofs.Ytfkkoccjgembaaa
