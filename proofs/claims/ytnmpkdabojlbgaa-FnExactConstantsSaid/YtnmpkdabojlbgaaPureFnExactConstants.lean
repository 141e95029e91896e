/- Every exported constant of the program has the value that the document gives it. -/
import Derived.Test.YtnmpkdabojlbgaaPFnExactConstantsx1
import Derived.Test.YtnmpkdabojlbgaaLib
set_option linter.unusedVariables false
set_option linter.unusedSimpArgs false
namespace Go.Proofs.Ytnmpkdabojlbgaa.Pure
namespace EFnExactConstants
open Go.RowKit Go.Proofs.Ytnmpkdabojlbgaa.PFnExactConstants Go.Proofs.YtnmpkdabojlbgaaW.PrintWords Go.Proofs.YtnmpkdabojlbgaaW.PrintLast Go.Proofs.YtnmpkdabojlbgaaW.PrintMore Go.Proofs.Ytnmpkdabojlbgaa.Lib


theorem holds : laws_FnExactConstants.Pure := by
  unfold laws_FnExactConstants.Pure laws_FnExactConstants.f
  rfl

end EFnExactConstants
open Go.RowKit Go.Proofs.Ytnmpkdabojlbgaa.PFnExactConstants Go.Proofs.YtnmpkdabojlbgaaW.PrintWords Go.Proofs.YtnmpkdabojlbgaaW.PrintLast
theorem FnExactConstants : laws_FnExactConstants.Pure := EFnExactConstants.holds
end Go.Proofs.Ytnmpkdabojlbgaa.Pure
