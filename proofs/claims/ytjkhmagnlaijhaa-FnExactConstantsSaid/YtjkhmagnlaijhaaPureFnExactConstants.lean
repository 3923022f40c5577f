/- Proved: every exported constant of the program is the document's, so the law answers true. Conditions: none beyond the statement. -/
import Derived.Test.YtjkhmagnlaijhaaPFnExactConstantsx1
namespace Go.Proofs.Ytjkhmagnlaijhaa.Pure
open Go.RowKit Go.Proofs.Ytjkhmagnlaijhaa.PFnExactConstants Go.Proofs.YtjkhmagnlaijhaaW.PrintWords Go.Proofs.YtjkhmagnlaijhaaW.PrintLast

/-- Pure form: every exported constant of the program is the document's, so the law answers true. -/
theorem FnExactConstants : laws_FnExactConstants.Pure := by
  rfl

end Go.Proofs.Ytjkhmagnlaijhaa.Pure
