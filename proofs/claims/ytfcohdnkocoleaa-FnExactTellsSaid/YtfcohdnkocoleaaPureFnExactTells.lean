/- The program's Tells returns what the reference's Tells returns, for all arguments: the statement over numbers and lists, proved. Conditions: none beyond the bounds of the arguments' kinds. -/
import Derived.Test.YtfcohdnkocoleaaPFnExactTellsx1
namespace Go.Proofs.Ytfcohdnkocoleaa.Pure
open Go.RowKit Go.Proofs.Ytfcohdnkocoleaa.PFnExactTells Go.Proofs.YtfcohdnkocoleaaW.PrintWords Go.Proofs.YtfcohdnkocoleaaW.PrintLast Go.Proofs.YtfcohdnkocoleaaW.PrintMore

/-! ## section FnExactTells -/
theorem FnExactTells : laws_FnExactTells.Pure := by
  intro a _
  unfold laws_FnExactTells.f spec_Tells.f impl_Tells.f
  repeat' split
  all_goals simp_all

end Go.Proofs.Ytfcohdnkocoleaa.Pure
