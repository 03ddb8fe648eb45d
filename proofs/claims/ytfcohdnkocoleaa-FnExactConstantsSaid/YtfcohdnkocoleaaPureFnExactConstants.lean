/- The program's Constants returns what the reference's Constants returns, for all arguments: the statement over numbers and lists, proved. Conditions: none beyond the bounds of the arguments' kinds. -/
import Derived.Test.YtfcohdnkocoleaaPFnExactConstantsx1
namespace Go.Proofs.Ytfcohdnkocoleaa.Pure
open Go.RowKit Go.Proofs.Ytfcohdnkocoleaa.PFnExactConstants Go.Proofs.YtfcohdnkocoleaaW.PrintWords Go.Proofs.YtfcohdnkocoleaaW.PrintLast Go.Proofs.YtfcohdnkocoleaaW.PrintMore

/-! ## section FnExactConstants -/
theorem FnExactConstants : laws_FnExactConstants.Pure := by
  unfold laws_FnExactConstants.Pure laws_FnExactConstants.f
  rfl

end Go.Proofs.Ytfcohdnkocoleaa.Pure
