/-
  No cell of these rows narrows 'for every input' (looked for: loops, veiled, ifaces, maps, wideKeys, modest, calm, conditions, laid).
  DERIVED. THE GIVEN ROWS OF THIS SEAT. 9 by the template 'for every input the law returns true; each argument reads behind the call as it read before'; 0 by the template 'total and deterministic' (their statements: YtbblhgldfcodfaaTotals.lean).
  GIVEN WITH THE SEED: the statements are not yours to turn. If you find one false, say at which input.
  Laid BY PROGRAM, IN A SANDBOX (cutbox-rows.mjs): the forced cells as the released guide's own fill.sh prints them over the translation d73ba1909d3073e9… (all of the seat's roots in one cut). By AI agents, Wed Nov 11 2026. No macro, syntax, notation, axiom, sorry.
-/
import Derived.Test.YtbblhgldfcodfaaChecked
import GoSem.Claim
import GoSem.ClaimJoined
import GoSem.ClaimMapViews
import Derived.JoinedTies
import Derived.KernelRfl
namespace Go.Proofs.Ytbblhgldfcodfaa
/- THE CELL 'sum', in the pinned program and in every row, IS THE sha256 OF THE DUMP (.gsa) THAT YtbblhgldfcodfaaProg.lean LOADS. Nothing in Lean hashes anything: it is a label: what it is worth is what the hold of that sum in a sandbox is worth. -/
noncomputable def Try.pinned : Pinned := { name := "ytbblhgldfcodfaa", sum := "d73ba1909d3073e9c2244dc9a12d74eea1cc6f43346afc94cfe475dcc52569c7", checked := Try.checked }
namespace Rows
def none {H : Type} : Left H := { results := [], args := [] }

/-- 'laws.FnExactRatMul': WHATEVER THE INPUT: true; the input reads as it did. -/
def fnExactRatMulSpec : ChangeSpec := { name := "fnExactRatMul", fn := fun _ => fun
  | [d1, d2] => { results := [.lit (.bool true)], args := [d1, d2] }
  | _ => none }
def fnExactRatMulRow : OpenClaim := { program := "ytbblhgldfcodfaa", sum := "d73ba1909d3073e9c2244dc9a12d74eea1cc6f43346afc94cfe475dcc52569c7", func := "loop.example/g00830/laws.FnExactRatMul", spec := "fnExactRatMul", unfollowed := true, recurses := true, apart := false }
def FnExactRatMulSaid : Prop := fnExactRatMulRow.holds Try.pinned (OpenSpec.ofChange fnExactRatMulSpec)

/-- ITS FALSE NEIGHBOUR: 'it returns false'. Refute it at one input. -/
def fnExactRatMulWrong : ChangeSpec := { name := "fnExactRatMul", fn := fun _ => fun
  | [d1, d2] => { results := [.lit (.bool false)], args := [d1, d2] }
  | _ => none }
def FnExactRatMulWrongFalsely : Prop := fnExactRatMulRow.holds Try.pinned (OpenSpec.ofChange fnExactRatMulWrong)

/-- 'laws.FnExactRatDiv': WHATEVER THE INPUT: true; the input reads as it did. -/
def fnExactRatDivSpec : ChangeSpec := { name := "fnExactRatDiv", fn := fun _ => fun
  | [d1, d2] => { results := [.lit (.bool true)], args := [d1, d2] }
  | _ => none }
def fnExactRatDivRow : OpenClaim := { program := "ytbblhgldfcodfaa", sum := "d73ba1909d3073e9c2244dc9a12d74eea1cc6f43346afc94cfe475dcc52569c7", func := "loop.example/g00830/laws.FnExactRatDiv", spec := "fnExactRatDiv", unfollowed := true, recurses := true, apart := false }
def FnExactRatDivSaid : Prop := fnExactRatDivRow.holds Try.pinned (OpenSpec.ofChange fnExactRatDivSpec)

/-- ITS FALSE NEIGHBOUR: 'it returns false'. Refute it at one input. -/
def fnExactRatDivWrong : ChangeSpec := { name := "fnExactRatDiv", fn := fun _ => fun
  | [d1, d2] => { results := [.lit (.bool false)], args := [d1, d2] }
  | _ => none }
def FnExactRatDivWrongFalsely : Prop := fnExactRatDivRow.holds Try.pinned (OpenSpec.ofChange fnExactRatDivWrong)

/-- 'laws.FnExactMatrixOk': WHATEVER THE INPUT: true; the input reads as it did. -/
def fnExactMatrixOkSpec : ChangeSpec := { name := "fnExactMatrixOk", fn := fun _ => fun
  | [d] => { results := [.lit (.bool true)], args := [d] }
  | _ => none }
def fnExactMatrixOkRow : OpenClaim := { program := "ytbblhgldfcodfaa", sum := "d73ba1909d3073e9c2244dc9a12d74eea1cc6f43346afc94cfe475dcc52569c7", func := "loop.example/g00830/laws.FnExactMatrixOk", spec := "fnExactMatrixOk", unfollowed := true, recurses := true, apart := false }
def FnExactMatrixOkSaid : Prop := fnExactMatrixOkRow.holds Try.pinned (OpenSpec.ofChange fnExactMatrixOkSpec)

/-- ITS FALSE NEIGHBOUR: 'it returns false'. Refute it at one input. -/
def fnExactMatrixOkWrong : ChangeSpec := { name := "fnExactMatrixOk", fn := fun _ => fun
  | [d] => { results := [.lit (.bool false)], args := [d] }
  | _ => none }
def FnExactMatrixOkWrongFalsely : Prop := fnExactMatrixOkRow.holds Try.pinned (OpenSpec.ofChange fnExactMatrixOkWrong)

/-- 'laws.FnExactCellAt': WHATEVER THE INPUT: true; the input reads as it did. -/
def fnExactCellAtSpec : ChangeSpec := { name := "fnExactCellAt", fn := fun _ => fun
  | [d1, d2, d3] => { results := [.lit (.bool true)], args := [d1, d2, d3] }
  | _ => none }
def fnExactCellAtRow : OpenClaim := { program := "ytbblhgldfcodfaa", sum := "d73ba1909d3073e9c2244dc9a12d74eea1cc6f43346afc94cfe475dcc52569c7", func := "loop.example/g00830/laws.FnExactCellAt", spec := "fnExactCellAt", unfollowed := true, recurses := true, apart := false }
def FnExactCellAtSaid : Prop := fnExactCellAtRow.holds Try.pinned (OpenSpec.ofChange fnExactCellAtSpec)

/-- ITS FALSE NEIGHBOUR: 'it returns false'. Refute it at one input. -/
def fnExactCellAtWrong : ChangeSpec := { name := "fnExactCellAt", fn := fun _ => fun
  | [d1, d2, d3] => { results := [.lit (.bool false)], args := [d1, d2, d3] }
  | _ => none }
def FnExactCellAtWrongFalsely : Prop := fnExactCellAtRow.holds Try.pinned (OpenSpec.ofChange fnExactCellAtWrong)

/-- 'laws.FnExactRowOf': WHATEVER THE INPUT: true; the input reads as it did. -/
def fnExactRowOfSpec : ChangeSpec := { name := "fnExactRowOf", fn := fun _ => fun
  | [d1, d2] => { results := [.lit (.bool true)], args := [d1, d2] }
  | _ => none }
def fnExactRowOfRow : OpenClaim := { program := "ytbblhgldfcodfaa", sum := "d73ba1909d3073e9c2244dc9a12d74eea1cc6f43346afc94cfe475dcc52569c7", func := "loop.example/g00830/laws.FnExactRowOf", spec := "fnExactRowOf", unfollowed := true, recurses := true, apart := false }
def FnExactRowOfSaid : Prop := fnExactRowOfRow.holds Try.pinned (OpenSpec.ofChange fnExactRowOfSpec)

/-- ITS FALSE NEIGHBOUR: 'it returns false'. Refute it at one input. -/
def fnExactRowOfWrong : ChangeSpec := { name := "fnExactRowOf", fn := fun _ => fun
  | [d1, d2] => { results := [.lit (.bool false)], args := [d1, d2] }
  | _ => none }
def FnExactRowOfWrongFalsely : Prop := fnExactRowOfRow.holds Try.pinned (OpenSpec.ofChange fnExactRowOfWrong)

/-- 'laws.FnExactMatrixOf': WHATEVER THE INPUT: true; the input reads as it did. -/
def fnExactMatrixOfSpec : ChangeSpec := { name := "fnExactMatrixOf", fn := fun _ => fun
  | [d1, d2, d3] => { results := [.lit (.bool true)], args := [d1, d2, d3] }
  | _ => none }
def fnExactMatrixOfRow : OpenClaim := { program := "ytbblhgldfcodfaa", sum := "d73ba1909d3073e9c2244dc9a12d74eea1cc6f43346afc94cfe475dcc52569c7", func := "loop.example/g00830/laws.FnExactMatrixOf", spec := "fnExactMatrixOf", unfollowed := true, recurses := true, apart := false }
def FnExactMatrixOfSaid : Prop := fnExactMatrixOfRow.holds Try.pinned (OpenSpec.ofChange fnExactMatrixOfSpec)

/-- ITS FALSE NEIGHBOUR: 'it returns false'. Refute it at one input. -/
def fnExactMatrixOfWrong : ChangeSpec := { name := "fnExactMatrixOf", fn := fun _ => fun
  | [d1, d2, d3] => { results := [.lit (.bool false)], args := [d1, d2, d3] }
  | _ => none }
def FnExactMatrixOfWrongFalsely : Prop := fnExactMatrixOfRow.holds Try.pinned (OpenSpec.ofChange fnExactMatrixOfWrong)

/-- 'laws.FnExactIdentityMatrix': WHATEVER THE INPUT: true; the input reads as it did. -/
def fnExactIdentityMatrixSpec : ChangeSpec := { name := "fnExactIdentityMatrix", fn := fun _ => fun
  | [d] => { results := [.lit (.bool true)], args := [d] }
  | _ => none }
def fnExactIdentityMatrixRow : OpenClaim := { program := "ytbblhgldfcodfaa", sum := "d73ba1909d3073e9c2244dc9a12d74eea1cc6f43346afc94cfe475dcc52569c7", func := "loop.example/g00830/laws.FnExactIdentityMatrix", spec := "fnExactIdentityMatrix", unfollowed := true, recurses := true, apart := false }
def FnExactIdentityMatrixSaid : Prop := fnExactIdentityMatrixRow.holds Try.pinned (OpenSpec.ofChange fnExactIdentityMatrixSpec)

/-- ITS FALSE NEIGHBOUR: 'it returns false'. Refute it at one input. -/
def fnExactIdentityMatrixWrong : ChangeSpec := { name := "fnExactIdentityMatrix", fn := fun _ => fun
  | [d] => { results := [.lit (.bool false)], args := [d] }
  | _ => none }
def FnExactIdentityMatrixWrongFalsely : Prop := fnExactIdentityMatrixRow.holds Try.pinned (OpenSpec.ofChange fnExactIdentityMatrixWrong)

/-- 'laws.FnExactZeroVector': WHATEVER THE INPUT: true; the input reads as it did. -/
def fnExactZeroVectorSpec : ChangeSpec := { name := "fnExactZeroVector", fn := fun _ => fun
  | [d] => { results := [.lit (.bool true)], args := [d] }
  | _ => none }
def fnExactZeroVectorRow : OpenClaim := { program := "ytbblhgldfcodfaa", sum := "d73ba1909d3073e9c2244dc9a12d74eea1cc6f43346afc94cfe475dcc52569c7", func := "loop.example/g00830/laws.FnExactZeroVector", spec := "fnExactZeroVector", apart := false }
def FnExactZeroVectorSaid : Prop := fnExactZeroVectorRow.holds Try.pinned (OpenSpec.ofChange fnExactZeroVectorSpec)

/-- ITS FALSE NEIGHBOUR: 'it returns false'. Refute it at one input. -/
def fnExactZeroVectorWrong : ChangeSpec := { name := "fnExactZeroVector", fn := fun _ => fun
  | [d] => { results := [.lit (.bool false)], args := [d] }
  | _ => none }
def FnExactZeroVectorWrongFalsely : Prop := fnExactZeroVectorRow.holds Try.pinned (OpenSpec.ofChange fnExactZeroVectorWrong)

/-- 'laws.FnExactUnitVector': WHATEVER THE INPUT: true; the input reads as it did. -/
def fnExactUnitVectorSpec : ChangeSpec := { name := "fnExactUnitVector", fn := fun _ => fun
  | [d1, d2] => { results := [.lit (.bool true)], args := [d1, d2] }
  | _ => none }
def fnExactUnitVectorRow : OpenClaim := { program := "ytbblhgldfcodfaa", sum := "d73ba1909d3073e9c2244dc9a12d74eea1cc6f43346afc94cfe475dcc52569c7", func := "loop.example/g00830/laws.FnExactUnitVector", spec := "fnExactUnitVector", apart := false }
def FnExactUnitVectorSaid : Prop := fnExactUnitVectorRow.holds Try.pinned (OpenSpec.ofChange fnExactUnitVectorSpec)

/-- ITS FALSE NEIGHBOUR: 'it returns false'. Refute it at one input. -/
def fnExactUnitVectorWrong : ChangeSpec := { name := "fnExactUnitVector", fn := fun _ => fun
  | [d1, d2] => { results := [.lit (.bool false)], args := [d1, d2] }
  | _ => none }
def FnExactUnitVectorWrongFalsely : Prop := fnExactUnitVectorRow.holds Try.pinned (OpenSpec.ofChange fnExactUnitVectorWrong)

/- THE SECOND FORM. 'bulk': how many values and letters a reading holds, each counted each time it is reached (what is shared counts as often as it is met; a slice's spare places count too). A statement '..UptoSaid' is the law's where the arguments, and the package variables that the reading takes, are together of bulk at most 1048576: NARROWER than '..Said'. Prove '..Said' where nothing that the law and all that it calls make is longer than what came in: it says more and counts as full. Else prove '..UptoSaid'. A law counts once. -/
mutual
def uptoBulk {H : Type} : DataW H → Nat
  | .lit (.string bytes) => bytes.length + 1
  | .lit _ => 1
  | .nil => 1
  | .ptr d => uptoBulk d + 1
  | .slice elems spare => uptoBulkAll elems + uptoBulkAll spare + 1
  | .agg parts => uptoBulkAll parts + 1
  | .iface _ d => uptoBulk d + 1
  | .map entries => uptoBulkEntries entries + 1
  | .held _ => 1
def uptoBulkAll {H : Type} : List (DataW H) → Nat
  | [] => 0
  | d :: r => uptoBulk d + uptoBulkAll r
def uptoBulkEntries {H : Type} : List (Lit × DataW H) → Nat
  | [] => 0
  | x :: r => uptoBulkEntry x + uptoBulkEntries r
def uptoBulkEntry {H : Type} : Lit × DataW H → Nat
  | (.string bytes, d) => bytes.length + uptoBulk d + 1
  | (_, d) => uptoBulk d + 1
 end
def uptoSmall : (H : Type) → List (DataW H) → Bool := fun _ ds => decide (uptoBulkAll ds ≤ 1048576)
def OpenSpec.upto (s : _root_.Go.ChangeSpec) : _root_.Go.OpenSpec := { _root_.Go.OpenSpec.ofChange s with cond := some uptoSmall }

/-- 'laws.FnExactRatMul', WHERE WHAT IT READS IS OF BULK AT MOST 1048576: true; the input reads as it did. -/
def fnExactRatMulUptoRow : OpenClaim := { program := "ytbblhgldfcodfaa", sum := "d73ba1909d3073e9c2244dc9a12d74eea1cc6f43346afc94cfe475dcc52569c7", func := "loop.example/g00830/laws.FnExactRatMul", spec := "fnExactRatMul", unfollowed := true, recurses := true, apart := false, narrowed := true }
def FnExactRatMulUptoSaid : Prop := fnExactRatMulUptoRow.holds Try.pinned (OpenSpec.upto fnExactRatMulSpec)

/-- 'laws.FnExactRatDiv', WHERE WHAT IT READS IS OF BULK AT MOST 1048576: true; the input reads as it did. -/
def fnExactRatDivUptoRow : OpenClaim := { program := "ytbblhgldfcodfaa", sum := "d73ba1909d3073e9c2244dc9a12d74eea1cc6f43346afc94cfe475dcc52569c7", func := "loop.example/g00830/laws.FnExactRatDiv", spec := "fnExactRatDiv", unfollowed := true, recurses := true, apart := false, narrowed := true }
def FnExactRatDivUptoSaid : Prop := fnExactRatDivUptoRow.holds Try.pinned (OpenSpec.upto fnExactRatDivSpec)

/-- 'laws.FnExactMatrixOk', WHERE WHAT IT READS IS OF BULK AT MOST 1048576: true; the input reads as it did. -/
def fnExactMatrixOkUptoRow : OpenClaim := { program := "ytbblhgldfcodfaa", sum := "d73ba1909d3073e9c2244dc9a12d74eea1cc6f43346afc94cfe475dcc52569c7", func := "loop.example/g00830/laws.FnExactMatrixOk", spec := "fnExactMatrixOk", unfollowed := true, recurses := true, apart := false, narrowed := true }
def FnExactMatrixOkUptoSaid : Prop := fnExactMatrixOkUptoRow.holds Try.pinned (OpenSpec.upto fnExactMatrixOkSpec)

/-- 'laws.FnExactCellAt', WHERE WHAT IT READS IS OF BULK AT MOST 1048576: true; the input reads as it did. -/
def fnExactCellAtUptoRow : OpenClaim := { program := "ytbblhgldfcodfaa", sum := "d73ba1909d3073e9c2244dc9a12d74eea1cc6f43346afc94cfe475dcc52569c7", func := "loop.example/g00830/laws.FnExactCellAt", spec := "fnExactCellAt", unfollowed := true, recurses := true, apart := false, narrowed := true }
def FnExactCellAtUptoSaid : Prop := fnExactCellAtUptoRow.holds Try.pinned (OpenSpec.upto fnExactCellAtSpec)

/-- 'laws.FnExactRowOf', WHERE WHAT IT READS IS OF BULK AT MOST 1048576: true; the input reads as it did. -/
def fnExactRowOfUptoRow : OpenClaim := { program := "ytbblhgldfcodfaa", sum := "d73ba1909d3073e9c2244dc9a12d74eea1cc6f43346afc94cfe475dcc52569c7", func := "loop.example/g00830/laws.FnExactRowOf", spec := "fnExactRowOf", unfollowed := true, recurses := true, apart := false, narrowed := true }
def FnExactRowOfUptoSaid : Prop := fnExactRowOfUptoRow.holds Try.pinned (OpenSpec.upto fnExactRowOfSpec)

/-- 'laws.FnExactMatrixOf', WHERE WHAT IT READS IS OF BULK AT MOST 1048576: true; the input reads as it did. -/
def fnExactMatrixOfUptoRow : OpenClaim := { program := "ytbblhgldfcodfaa", sum := "d73ba1909d3073e9c2244dc9a12d74eea1cc6f43346afc94cfe475dcc52569c7", func := "loop.example/g00830/laws.FnExactMatrixOf", spec := "fnExactMatrixOf", unfollowed := true, recurses := true, apart := false, narrowed := true }
def FnExactMatrixOfUptoSaid : Prop := fnExactMatrixOfUptoRow.holds Try.pinned (OpenSpec.upto fnExactMatrixOfSpec)

/-- 'laws.FnExactIdentityMatrix', WHERE WHAT IT READS IS OF BULK AT MOST 1048576: true; the input reads as it did. -/
def fnExactIdentityMatrixUptoRow : OpenClaim := { program := "ytbblhgldfcodfaa", sum := "d73ba1909d3073e9c2244dc9a12d74eea1cc6f43346afc94cfe475dcc52569c7", func := "loop.example/g00830/laws.FnExactIdentityMatrix", spec := "fnExactIdentityMatrix", unfollowed := true, recurses := true, apart := false, narrowed := true }
def FnExactIdentityMatrixUptoSaid : Prop := fnExactIdentityMatrixUptoRow.holds Try.pinned (OpenSpec.upto fnExactIdentityMatrixSpec)

/-- 'laws.FnExactZeroVector', WHERE WHAT IT READS IS OF BULK AT MOST 1048576: true; the input reads as it did. -/
def fnExactZeroVectorUptoRow : OpenClaim := { program := "ytbblhgldfcodfaa", sum := "d73ba1909d3073e9c2244dc9a12d74eea1cc6f43346afc94cfe475dcc52569c7", func := "loop.example/g00830/laws.FnExactZeroVector", spec := "fnExactZeroVector", apart := false, narrowed := true }
def FnExactZeroVectorUptoSaid : Prop := fnExactZeroVectorUptoRow.holds Try.pinned (OpenSpec.upto fnExactZeroVectorSpec)

/-- 'laws.FnExactUnitVector', WHERE WHAT IT READS IS OF BULK AT MOST 1048576: true; the input reads as it did. -/
def fnExactUnitVectorUptoRow : OpenClaim := { program := "ytbblhgldfcodfaa", sum := "d73ba1909d3073e9c2244dc9a12d74eea1cc6f43346afc94cfe475dcc52569c7", func := "loop.example/g00830/laws.FnExactUnitVector", spec := "fnExactUnitVector", apart := false, narrowed := true }
def FnExactUnitVectorUptoSaid : Prop := fnExactUnitVectorUptoRow.holds Try.pinned (OpenSpec.upto fnExactUnitVectorSpec)

end Rows
end Go.Proofs.Ytbblhgldfcodfaa
