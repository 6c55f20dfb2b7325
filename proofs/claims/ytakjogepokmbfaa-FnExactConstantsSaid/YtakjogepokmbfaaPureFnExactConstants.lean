/- The program's constants are the reference's: every test of the law is between numbers. No condition. -/
import Derived.Test.YtakjogepokmbfaaPFnExactConstantsx1
namespace Go.Proofs.Ytakjogepokmbfaa.Pure
open Go.RowKit Go.Proofs.Ytakjogepokmbfaa.PFnExactConstants Go.Proofs.YtakjogepokmbfaaW.PrintWords Go.Proofs.YtakjogepokmbfaaW.PrintLast
set_option linter.unusedVariables false
set_option linter.unusedSimpArgs false

theorem FnExactConstants : laws_FnExactConstants.Pure := by
  rfl

end Go.Proofs.Ytakjogepokmbfaa.Pure
