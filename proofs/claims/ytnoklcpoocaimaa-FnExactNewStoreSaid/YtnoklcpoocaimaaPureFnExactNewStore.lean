/- The program's NewStore returns what the reference's NewStore returns, for all arguments: the statement over numbers and lists, proved. Conditions: none beyond the bounds of the arguments' kinds. -/
import Derived.Test.YtnoklcpoocaimaaStmFnExactNewStore
namespace Go.Proofs.Ytnoklcpoocaimaa.Pure
open Go.RowKit Go.Proofs.Ytnoklcpoocaimaa.PFnExactNewStore Go.Proofs.YtnoklcpoocaimaaW.PrintWords Go.Proofs.YtnoklcpoocaimaaW.PrintLast Go.Proofs.YtnoklcpoocaimaaW.PrintMore

set_option linter.unusedVariables false
set_option linter.unusedSimpArgs false
/-! ## section FnExactNewStore -/
theorem FnExactNewStore : laws_FnExactNewStore.Pure := by
  refine ⟨12, ?_⟩
  decide +kernel

end Go.Proofs.Ytnoklcpoocaimaa.Pure
