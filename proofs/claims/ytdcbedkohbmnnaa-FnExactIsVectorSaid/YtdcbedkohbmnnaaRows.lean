/-
  No cell of these rows narrows 'for every input' (looked for: loops, veiled, ifaces, maps, wideKeys, modest, calm, conditions, laid).
  DERIVED. THE GIVEN ROWS OF THIS SEAT. 12 by the template 'for every input the law returns true; each argument reads behind the call as it read before'; 0 by the template 'total and deterministic' (their statements: YtdcbedkohbmnnaaTotals.lean).
  GIVEN WITH THE SEED: the statements are not yours to turn. If you find one false, say at which input.
  Laid BY PROGRAM, IN A SANDBOX (cutbox-rows.mjs): the forced cells as the released guide's own fill.sh prints them over the translation b2138f1510ed8068… (all of the seat's roots in one cut). By AI agents, Wed Nov 11 2026. No macro, syntax, notation, axiom, sorry.
-/
import Derived.Test.YtdcbedkohbmnnaaChecked
import GoSem.Claim
import GoSem.ClaimJoined
import GoSem.ClaimMapViews
import Derived.JoinedTies
import Derived.KernelRfl
namespace Go.Proofs.Ytdcbedkohbmnnaa
/- THE CELL 'sum', in the pinned program and in every row, IS THE sha256 OF THE DUMP (.gsa) THAT YtdcbedkohbmnnaaProg.lean LOADS. Nothing in Lean hashes anything: it is a label: what it is worth is what the hold of that sum in a sandbox is worth. -/
noncomputable def Try.pinned : Pinned := { name := "ytdcbedkohbmnnaa", sum := "b2138f1510ed8068ff4acc8a304220003e962cb568444bae59c0c23275d192f6", checked := Try.checked }
namespace Rows
def none {H : Type} : Left H := { results := [], args := [] }

/-- 'laws.FnExactNatDiv': WHATEVER THE INPUT: true; the input reads as it did. -/
def fnExactNatDivSpec : ChangeSpec := { name := "fnExactNatDiv", fn := fun _ => fun
  | [d1, d2] => { results := [.lit (.bool true)], args := [d1, d2] }
  | _ => none }
def fnExactNatDivRow : OpenClaim := { program := "ytdcbedkohbmnnaa", sum := "b2138f1510ed8068ff4acc8a304220003e962cb568444bae59c0c23275d192f6", func := "loop.example/g00830/laws.FnExactNatDiv", spec := "fnExactNatDiv", unfollowed := true, recurses := true, apart := false }
def FnExactNatDivSaid : Prop := fnExactNatDivRow.holds Try.pinned (OpenSpec.ofChange fnExactNatDivSpec)

/-- ITS FALSE NEIGHBOUR: 'it returns false'. Refute it at one input. -/
def fnExactNatDivWrong : ChangeSpec := { name := "fnExactNatDiv", fn := fun _ => fun
  | [d1, d2] => { results := [.lit (.bool false)], args := [d1, d2] }
  | _ => none }
def FnExactNatDivWrongFalsely : Prop := fnExactNatDivRow.holds Try.pinned (OpenSpec.ofChange fnExactNatDivWrong)

/-- 'laws.FnExactNatGcd': WHATEVER THE INPUT: true; the input reads as it did. -/
def fnExactNatGcdSpec : ChangeSpec := { name := "fnExactNatGcd", fn := fun _ => fun
  | [d1, d2] => { results := [.lit (.bool true)], args := [d1, d2] }
  | _ => none }
def fnExactNatGcdRow : OpenClaim := { program := "ytdcbedkohbmnnaa", sum := "b2138f1510ed8068ff4acc8a304220003e962cb568444bae59c0c23275d192f6", func := "loop.example/g00830/laws.FnExactNatGcd", spec := "fnExactNatGcd", unfollowed := true, recurses := true, apart := false }
def FnExactNatGcdSaid : Prop := fnExactNatGcdRow.holds Try.pinned (OpenSpec.ofChange fnExactNatGcdSpec)

/-- ITS FALSE NEIGHBOUR: 'it returns false'. Refute it at one input. -/
def fnExactNatGcdWrong : ChangeSpec := { name := "fnExactNatGcd", fn := fun _ => fun
  | [d1, d2] => { results := [.lit (.bool false)], args := [d1, d2] }
  | _ => none }
def FnExactNatGcdWrongFalsely : Prop := fnExactNatGcdRow.holds Try.pinned (OpenSpec.ofChange fnExactNatGcdWrong)

/-- 'laws.FnExactRatOk': WHATEVER THE INPUT: true; the input reads as it did. -/
def fnExactRatOkSpec : ChangeSpec := { name := "fnExactRatOk", fn := fun _ => fun
  | [d] => { results := [.lit (.bool true)], args := [d] }
  | _ => none }
def fnExactRatOkRow : OpenClaim := { program := "ytdcbedkohbmnnaa", sum := "b2138f1510ed8068ff4acc8a304220003e962cb568444bae59c0c23275d192f6", func := "loop.example/g00830/laws.FnExactRatOk", spec := "fnExactRatOk", unfollowed := true, recurses := true, apart := false }
def FnExactRatOkSaid : Prop := fnExactRatOkRow.holds Try.pinned (OpenSpec.ofChange fnExactRatOkSpec)

/-- ITS FALSE NEIGHBOUR: 'it returns false'. Refute it at one input. -/
def fnExactRatOkWrong : ChangeSpec := { name := "fnExactRatOk", fn := fun _ => fun
  | [d] => { results := [.lit (.bool false)], args := [d] }
  | _ => none }
def FnExactRatOkWrongFalsely : Prop := fnExactRatOkRow.holds Try.pinned (OpenSpec.ofChange fnExactRatOkWrong)

/-- 'laws.FnExactBigIntFloorDiv': WHATEVER THE INPUT: true; the input reads as it did. -/
def fnExactBigIntFloorDivSpec : ChangeSpec := { name := "fnExactBigIntFloorDiv", fn := fun _ => fun
  | [d1, d2] => { results := [.lit (.bool true)], args := [d1, d2] }
  | _ => none }
def fnExactBigIntFloorDivRow : OpenClaim := { program := "ytdcbedkohbmnnaa", sum := "b2138f1510ed8068ff4acc8a304220003e962cb568444bae59c0c23275d192f6", func := "loop.example/g00830/laws.FnExactBigIntFloorDiv", spec := "fnExactBigIntFloorDiv", unfollowed := true, recurses := true, apart := false }
def FnExactBigIntFloorDivSaid : Prop := fnExactBigIntFloorDivRow.holds Try.pinned (OpenSpec.ofChange fnExactBigIntFloorDivSpec)

/-- ITS FALSE NEIGHBOUR: 'it returns false'. Refute it at one input. -/
def fnExactBigIntFloorDivWrong : ChangeSpec := { name := "fnExactBigIntFloorDiv", fn := fun _ => fun
  | [d1, d2] => { results := [.lit (.bool false)], args := [d1, d2] }
  | _ => none }
def FnExactBigIntFloorDivWrongFalsely : Prop := fnExactBigIntFloorDivRow.holds Try.pinned (OpenSpec.ofChange fnExactBigIntFloorDivWrong)

/-- 'laws.FnExactRatSign': WHATEVER THE INPUT: true; the input reads as it did. -/
def fnExactRatSignSpec : ChangeSpec := { name := "fnExactRatSign", fn := fun _ => fun
  | [d] => { results := [.lit (.bool true)], args := [d] }
  | _ => none }
def fnExactRatSignRow : OpenClaim := { program := "ytdcbedkohbmnnaa", sum := "b2138f1510ed8068ff4acc8a304220003e962cb568444bae59c0c23275d192f6", func := "loop.example/g00830/laws.FnExactRatSign", spec := "fnExactRatSign", unfollowed := true, recurses := true, apart := false }
def FnExactRatSignSaid : Prop := fnExactRatSignRow.holds Try.pinned (OpenSpec.ofChange fnExactRatSignSpec)

/-- ITS FALSE NEIGHBOUR: 'it returns false'. Refute it at one input. -/
def fnExactRatSignWrong : ChangeSpec := { name := "fnExactRatSign", fn := fun _ => fun
  | [d] => { results := [.lit (.bool false)], args := [d] }
  | _ => none }
def FnExactRatSignWrongFalsely : Prop := fnExactRatSignRow.holds Try.pinned (OpenSpec.ofChange fnExactRatSignWrong)

/-- 'laws.FnExactRatCmp': WHATEVER THE INPUT: true; the input reads as it did. -/
def fnExactRatCmpSpec : ChangeSpec := { name := "fnExactRatCmp", fn := fun _ => fun
  | [d1, d2] => { results := [.lit (.bool true)], args := [d1, d2] }
  | _ => none }
def fnExactRatCmpRow : OpenClaim := { program := "ytdcbedkohbmnnaa", sum := "b2138f1510ed8068ff4acc8a304220003e962cb568444bae59c0c23275d192f6", func := "loop.example/g00830/laws.FnExactRatCmp", spec := "fnExactRatCmp", unfollowed := true, recurses := true, apart := false }
def FnExactRatCmpSaid : Prop := fnExactRatCmpRow.holds Try.pinned (OpenSpec.ofChange fnExactRatCmpSpec)

/-- ITS FALSE NEIGHBOUR: 'it returns false'. Refute it at one input. -/
def fnExactRatCmpWrong : ChangeSpec := { name := "fnExactRatCmp", fn := fun _ => fun
  | [d1, d2] => { results := [.lit (.bool false)], args := [d1, d2] }
  | _ => none }
def FnExactRatCmpWrongFalsely : Prop := fnExactRatCmpRow.holds Try.pinned (OpenSpec.ofChange fnExactRatCmpWrong)

/-- 'laws.FnExactRatOf': WHATEVER THE INPUT: true; the input reads as it did. -/
def fnExactRatOfSpec : ChangeSpec := { name := "fnExactRatOf", fn := fun _ => fun
  | [d1, d2] => { results := [.lit (.bool true)], args := [d1, d2] }
  | _ => none }
def fnExactRatOfRow : OpenClaim := { program := "ytdcbedkohbmnnaa", sum := "b2138f1510ed8068ff4acc8a304220003e962cb568444bae59c0c23275d192f6", func := "loop.example/g00830/laws.FnExactRatOf", spec := "fnExactRatOf", unfollowed := true, recurses := true, apart := false }
def FnExactRatOfSaid : Prop := fnExactRatOfRow.holds Try.pinned (OpenSpec.ofChange fnExactRatOfSpec)

/-- ITS FALSE NEIGHBOUR: 'it returns false'. Refute it at one input. -/
def fnExactRatOfWrong : ChangeSpec := { name := "fnExactRatOf", fn := fun _ => fun
  | [d1, d2] => { results := [.lit (.bool false)], args := [d1, d2] }
  | _ => none }
def FnExactRatOfWrongFalsely : Prop := fnExactRatOfRow.holds Try.pinned (OpenSpec.ofChange fnExactRatOfWrong)

/-- 'laws.FnExactRatMake': WHATEVER THE INPUT: true; the input reads as it did. -/
def fnExactRatMakeSpec : ChangeSpec := { name := "fnExactRatMake", fn := fun _ => fun
  | [d1, d2] => { results := [.lit (.bool true)], args := [d1, d2] }
  | _ => none }
def fnExactRatMakeRow : OpenClaim := { program := "ytdcbedkohbmnnaa", sum := "b2138f1510ed8068ff4acc8a304220003e962cb568444bae59c0c23275d192f6", func := "loop.example/g00830/laws.FnExactRatMake", spec := "fnExactRatMake", unfollowed := true, recurses := true, apart := false }
def FnExactRatMakeSaid : Prop := fnExactRatMakeRow.holds Try.pinned (OpenSpec.ofChange fnExactRatMakeSpec)

/-- ITS FALSE NEIGHBOUR: 'it returns false'. Refute it at one input. -/
def fnExactRatMakeWrong : ChangeSpec := { name := "fnExactRatMake", fn := fun _ => fun
  | [d1, d2] => { results := [.lit (.bool false)], args := [d1, d2] }
  | _ => none }
def FnExactRatMakeWrongFalsely : Prop := fnExactRatMakeRow.holds Try.pinned (OpenSpec.ofChange fnExactRatMakeWrong)

/-- 'laws.FnExactRatNeg': WHATEVER THE INPUT: true; the input reads as it did. -/
def fnExactRatNegSpec : ChangeSpec := { name := "fnExactRatNeg", fn := fun _ => fun
  | [d] => { results := [.lit (.bool true)], args := [d] }
  | _ => none }
def fnExactRatNegRow : OpenClaim := { program := "ytdcbedkohbmnnaa", sum := "b2138f1510ed8068ff4acc8a304220003e962cb568444bae59c0c23275d192f6", func := "loop.example/g00830/laws.FnExactRatNeg", spec := "fnExactRatNeg", unfollowed := true, recurses := true, apart := false }
def FnExactRatNegSaid : Prop := fnExactRatNegRow.holds Try.pinned (OpenSpec.ofChange fnExactRatNegSpec)

/-- ITS FALSE NEIGHBOUR: 'it returns false'. Refute it at one input. -/
def fnExactRatNegWrong : ChangeSpec := { name := "fnExactRatNeg", fn := fun _ => fun
  | [d] => { results := [.lit (.bool false)], args := [d] }
  | _ => none }
def FnExactRatNegWrongFalsely : Prop := fnExactRatNegRow.holds Try.pinned (OpenSpec.ofChange fnExactRatNegWrong)

/-- 'laws.FnExactRatMax': WHATEVER THE INPUT: true; the input reads as it did. -/
def fnExactRatMaxSpec : ChangeSpec := { name := "fnExactRatMax", fn := fun _ => fun
  | [d1, d2] => { results := [.lit (.bool true)], args := [d1, d2] }
  | _ => none }
def fnExactRatMaxRow : OpenClaim := { program := "ytdcbedkohbmnnaa", sum := "b2138f1510ed8068ff4acc8a304220003e962cb568444bae59c0c23275d192f6", func := "loop.example/g00830/laws.FnExactRatMax", spec := "fnExactRatMax", unfollowed := true, recurses := true, apart := false }
def FnExactRatMaxSaid : Prop := fnExactRatMaxRow.holds Try.pinned (OpenSpec.ofChange fnExactRatMaxSpec)

/-- ITS FALSE NEIGHBOUR: 'it returns false'. Refute it at one input. -/
def fnExactRatMaxWrong : ChangeSpec := { name := "fnExactRatMax", fn := fun _ => fun
  | [d1, d2] => { results := [.lit (.bool false)], args := [d1, d2] }
  | _ => none }
def FnExactRatMaxWrongFalsely : Prop := fnExactRatMaxRow.holds Try.pinned (OpenSpec.ofChange fnExactRatMaxWrong)

/-- 'laws.FnExactRatMin': WHATEVER THE INPUT: true; the input reads as it did. -/
def fnExactRatMinSpec : ChangeSpec := { name := "fnExactRatMin", fn := fun _ => fun
  | [d1, d2] => { results := [.lit (.bool true)], args := [d1, d2] }
  | _ => none }
def fnExactRatMinRow : OpenClaim := { program := "ytdcbedkohbmnnaa", sum := "b2138f1510ed8068ff4acc8a304220003e962cb568444bae59c0c23275d192f6", func := "loop.example/g00830/laws.FnExactRatMin", spec := "fnExactRatMin", unfollowed := true, recurses := true, apart := false }
def FnExactRatMinSaid : Prop := fnExactRatMinRow.holds Try.pinned (OpenSpec.ofChange fnExactRatMinSpec)

/-- ITS FALSE NEIGHBOUR: 'it returns false'. Refute it at one input. -/
def fnExactRatMinWrong : ChangeSpec := { name := "fnExactRatMin", fn := fun _ => fun
  | [d1, d2] => { results := [.lit (.bool false)], args := [d1, d2] }
  | _ => none }
def FnExactRatMinWrongFalsely : Prop := fnExactRatMinRow.holds Try.pinned (OpenSpec.ofChange fnExactRatMinWrong)

/-- 'laws.FnExactIsVector': WHATEVER THE INPUT: true; the input reads as it did. -/
def fnExactIsVectorSpec : ChangeSpec := { name := "fnExactIsVector", fn := fun _ => fun
  | [d] => { results := [.lit (.bool true)], args := [d] }
  | _ => none }
def fnExactIsVectorRow : OpenClaim := { program := "ytdcbedkohbmnnaa", sum := "b2138f1510ed8068ff4acc8a304220003e962cb568444bae59c0c23275d192f6", func := "loop.example/g00830/laws.FnExactIsVector", spec := "fnExactIsVector", unfollowed := true, recurses := true, apart := false }
def FnExactIsVectorSaid : Prop := fnExactIsVectorRow.holds Try.pinned (OpenSpec.ofChange fnExactIsVectorSpec)

/-- ITS FALSE NEIGHBOUR: 'it returns false'. Refute it at one input. -/
def fnExactIsVectorWrong : ChangeSpec := { name := "fnExactIsVector", fn := fun _ => fun
  | [d] => { results := [.lit (.bool false)], args := [d] }
  | _ => none }
def FnExactIsVectorWrongFalsely : Prop := fnExactIsVectorRow.holds Try.pinned (OpenSpec.ofChange fnExactIsVectorWrong)

/- THE SECOND FORM. 'bulk': how many values and letters a reading holds, each counted each time it is reached (what is shared counts as often as it is met; a slice's spare places count too). A statement '..UptoSaid' is the law's where the arguments, and the package variables that the reading takes, are together of bulk at most 1048576: NARROWER than '..Said'. Prove '..Said' where nothing that the law and all that it calls make is longer than what came in: it says more and counts as full. Else prove '..UptoSaid'. A law counts once. -/
mutual
def uptoBulk {H : Type} : DataW H → Nat
  | .lit (.string bytes) => bytes.length + 1
  | .lit _ => 1
  | .nil => 1
  | .ptr d => uptoBulk d + 1
  | .slice elems spare => uptoBulkAll elems + uptoBulkAll spare + 1
  | .agg parts => uptoBulkAll parts + 1
  | .iface _ d => uptoBulk d + 1
  | .map entries => uptoBulkEntries entries + 1
  | .held _ => 1
def uptoBulkAll {H : Type} : List (DataW H) → Nat
  | [] => 0
  | d :: r => uptoBulk d + uptoBulkAll r
def uptoBulkEntries {H : Type} : List (Lit × DataW H) → Nat
  | [] => 0
  | x :: r => uptoBulkEntry x + uptoBulkEntries r
def uptoBulkEntry {H : Type} : Lit × DataW H → Nat
  | (.string bytes, d) => bytes.length + uptoBulk d + 1
  | (_, d) => uptoBulk d + 1
 end
def uptoSmall : (H : Type) → List (DataW H) → Bool := fun _ ds => decide (uptoBulkAll ds ≤ 1048576)
def OpenSpec.upto (s : _root_.Go.ChangeSpec) : _root_.Go.OpenSpec := { _root_.Go.OpenSpec.ofChange s with cond := some uptoSmall }

/-- 'laws.FnExactNatDiv', WHERE WHAT IT READS IS OF BULK AT MOST 1048576: true; the input reads as it did. -/
def fnExactNatDivUptoRow : OpenClaim := { program := "ytdcbedkohbmnnaa", sum := "b2138f1510ed8068ff4acc8a304220003e962cb568444bae59c0c23275d192f6", func := "loop.example/g00830/laws.FnExactNatDiv", spec := "fnExactNatDiv", unfollowed := true, recurses := true, apart := false, narrowed := true }
def FnExactNatDivUptoSaid : Prop := fnExactNatDivUptoRow.holds Try.pinned (OpenSpec.upto fnExactNatDivSpec)

/-- 'laws.FnExactNatGcd', WHERE WHAT IT READS IS OF BULK AT MOST 1048576: true; the input reads as it did. -/
def fnExactNatGcdUptoRow : OpenClaim := { program := "ytdcbedkohbmnnaa", sum := "b2138f1510ed8068ff4acc8a304220003e962cb568444bae59c0c23275d192f6", func := "loop.example/g00830/laws.FnExactNatGcd", spec := "fnExactNatGcd", unfollowed := true, recurses := true, apart := false, narrowed := true }
def FnExactNatGcdUptoSaid : Prop := fnExactNatGcdUptoRow.holds Try.pinned (OpenSpec.upto fnExactNatGcdSpec)

/-- 'laws.FnExactRatOk', WHERE WHAT IT READS IS OF BULK AT MOST 1048576: true; the input reads as it did. -/
def fnExactRatOkUptoRow : OpenClaim := { program := "ytdcbedkohbmnnaa", sum := "b2138f1510ed8068ff4acc8a304220003e962cb568444bae59c0c23275d192f6", func := "loop.example/g00830/laws.FnExactRatOk", spec := "fnExactRatOk", unfollowed := true, recurses := true, apart := false, narrowed := true }
def FnExactRatOkUptoSaid : Prop := fnExactRatOkUptoRow.holds Try.pinned (OpenSpec.upto fnExactRatOkSpec)

/-- 'laws.FnExactBigIntFloorDiv', WHERE WHAT IT READS IS OF BULK AT MOST 1048576: true; the input reads as it did. -/
def fnExactBigIntFloorDivUptoRow : OpenClaim := { program := "ytdcbedkohbmnnaa", sum := "b2138f1510ed8068ff4acc8a304220003e962cb568444bae59c0c23275d192f6", func := "loop.example/g00830/laws.FnExactBigIntFloorDiv", spec := "fnExactBigIntFloorDiv", unfollowed := true, recurses := true, apart := false, narrowed := true }
def FnExactBigIntFloorDivUptoSaid : Prop := fnExactBigIntFloorDivUptoRow.holds Try.pinned (OpenSpec.upto fnExactBigIntFloorDivSpec)

/-- 'laws.FnExactRatSign', WHERE WHAT IT READS IS OF BULK AT MOST 1048576: true; the input reads as it did. -/
def fnExactRatSignUptoRow : OpenClaim := { program := "ytdcbedkohbmnnaa", sum := "b2138f1510ed8068ff4acc8a304220003e962cb568444bae59c0c23275d192f6", func := "loop.example/g00830/laws.FnExactRatSign", spec := "fnExactRatSign", unfollowed := true, recurses := true, apart := false, narrowed := true }
def FnExactRatSignUptoSaid : Prop := fnExactRatSignUptoRow.holds Try.pinned (OpenSpec.upto fnExactRatSignSpec)

/-- 'laws.FnExactRatCmp', WHERE WHAT IT READS IS OF BULK AT MOST 1048576: true; the input reads as it did. -/
def fnExactRatCmpUptoRow : OpenClaim := { program := "ytdcbedkohbmnnaa", sum := "b2138f1510ed8068ff4acc8a304220003e962cb568444bae59c0c23275d192f6", func := "loop.example/g00830/laws.FnExactRatCmp", spec := "fnExactRatCmp", unfollowed := true, recurses := true, apart := false, narrowed := true }
def FnExactRatCmpUptoSaid : Prop := fnExactRatCmpUptoRow.holds Try.pinned (OpenSpec.upto fnExactRatCmpSpec)

/-- 'laws.FnExactRatOf', WHERE WHAT IT READS IS OF BULK AT MOST 1048576: true; the input reads as it did. -/
def fnExactRatOfUptoRow : OpenClaim := { program := "ytdcbedkohbmnnaa", sum := "b2138f1510ed8068ff4acc8a304220003e962cb568444bae59c0c23275d192f6", func := "loop.example/g00830/laws.FnExactRatOf", spec := "fnExactRatOf", unfollowed := true, recurses := true, apart := false, narrowed := true }
def FnExactRatOfUptoSaid : Prop := fnExactRatOfUptoRow.holds Try.pinned (OpenSpec.upto fnExactRatOfSpec)

/-- 'laws.FnExactRatMake', WHERE WHAT IT READS IS OF BULK AT MOST 1048576: true; the input reads as it did. -/
def fnExactRatMakeUptoRow : OpenClaim := { program := "ytdcbedkohbmnnaa", sum := "b2138f1510ed8068ff4acc8a304220003e962cb568444bae59c0c23275d192f6", func := "loop.example/g00830/laws.FnExactRatMake", spec := "fnExactRatMake", unfollowed := true, recurses := true, apart := false, narrowed := true }
def FnExactRatMakeUptoSaid : Prop := fnExactRatMakeUptoRow.holds Try.pinned (OpenSpec.upto fnExactRatMakeSpec)

/-- 'laws.FnExactRatNeg', WHERE WHAT IT READS IS OF BULK AT MOST 1048576: true; the input reads as it did. -/
def fnExactRatNegUptoRow : OpenClaim := { program := "ytdcbedkohbmnnaa", sum := "b2138f1510ed8068ff4acc8a304220003e962cb568444bae59c0c23275d192f6", func := "loop.example/g00830/laws.FnExactRatNeg", spec := "fnExactRatNeg", unfollowed := true, recurses := true, apart := false, narrowed := true }
def FnExactRatNegUptoSaid : Prop := fnExactRatNegUptoRow.holds Try.pinned (OpenSpec.upto fnExactRatNegSpec)

/-- 'laws.FnExactRatMax', WHERE WHAT IT READS IS OF BULK AT MOST 1048576: true; the input reads as it did. -/
def fnExactRatMaxUptoRow : OpenClaim := { program := "ytdcbedkohbmnnaa", sum := "b2138f1510ed8068ff4acc8a304220003e962cb568444bae59c0c23275d192f6", func := "loop.example/g00830/laws.FnExactRatMax", spec := "fnExactRatMax", unfollowed := true, recurses := true, apart := false, narrowed := true }
def FnExactRatMaxUptoSaid : Prop := fnExactRatMaxUptoRow.holds Try.pinned (OpenSpec.upto fnExactRatMaxSpec)

/-- 'laws.FnExactRatMin', WHERE WHAT IT READS IS OF BULK AT MOST 1048576: true; the input reads as it did. -/
def fnExactRatMinUptoRow : OpenClaim := { program := "ytdcbedkohbmnnaa", sum := "b2138f1510ed8068ff4acc8a304220003e962cb568444bae59c0c23275d192f6", func := "loop.example/g00830/laws.FnExactRatMin", spec := "fnExactRatMin", unfollowed := true, recurses := true, apart := false, narrowed := true }
def FnExactRatMinUptoSaid : Prop := fnExactRatMinUptoRow.holds Try.pinned (OpenSpec.upto fnExactRatMinSpec)

/-- 'laws.FnExactIsVector', WHERE WHAT IT READS IS OF BULK AT MOST 1048576: true; the input reads as it did. -/
def fnExactIsVectorUptoRow : OpenClaim := { program := "ytdcbedkohbmnnaa", sum := "b2138f1510ed8068ff4acc8a304220003e962cb568444bae59c0c23275d192f6", func := "loop.example/g00830/laws.FnExactIsVector", spec := "fnExactIsVector", unfollowed := true, recurses := true, apart := false, narrowed := true }
def FnExactIsVectorUptoSaid : Prop := fnExactIsVectorUptoRow.holds Try.pinned (OpenSpec.upto fnExactIsVectorSpec)

end Rows
end Go.Proofs.Ytdcbedkohbmnnaa
