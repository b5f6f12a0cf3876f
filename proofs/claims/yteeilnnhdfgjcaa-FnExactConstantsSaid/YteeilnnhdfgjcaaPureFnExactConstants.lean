/- FnExactConstants: the program's constants are the reference's: the law returns true. No condition. -/
import Derived.Test.YteeilnnhdfgjcaaPFnExactConstantsx1
namespace Go.Proofs.Yteeilnnhdfgjcaa.Pure
open Go.RowKit Go.Proofs.Yteeilnnhdfgjcaa.PFnExactConstants Go.Proofs.YteeilnnhdfgjcaaW.PrintWords Go.Proofs.YteeilnnhdfgjcaaW.PrintLast
theorem FnExactConstants : laws_FnExactConstants.Pure := by
  unfold laws_FnExactConstants.Pure laws_FnExactConstants.f
  rfl
end Go.Proofs.Yteeilnnhdfgjcaa.Pure
