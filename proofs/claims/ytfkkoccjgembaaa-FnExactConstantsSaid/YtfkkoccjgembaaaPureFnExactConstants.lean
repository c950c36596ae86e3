/- Every exported constant of the program has the value that the specification gives; no condition. -/
import Derived.Test.YtfkkoccjgembaaaPFnExactConstantsx1
import Derived.Test.YtfkkoccjgembaaaLb
set_option linter.unusedVariables false
set_option linter.unusedSimpArgs false
namespace Go.Proofs.Ytfkkoccjgembaaa.Pure
open Go.RowKit Go.Proofs.Ytfkkoccjgembaaa.PFnExactConstants Go.Proofs.YtfkkoccjgembaaaW.PrintWords Go.Proofs.YtfkkoccjgembaaaW.PrintLast Go.Proofs.Ytfkkoccjgembaaa.Lb


theorem FnExactConstants : laws_FnExactConstants.Pure := rfl

end Go.Proofs.Ytfkkoccjgembaaa.Pure
