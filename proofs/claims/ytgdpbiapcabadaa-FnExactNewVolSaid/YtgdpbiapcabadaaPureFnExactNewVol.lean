/- The program's NewVol returns what the reference's NewVol returns, for all arguments: the statement over numbers and lists, proved. Conditions: none beyond the bounds of the arguments' kinds. -/
import Derived.Test.YtgdpbiapcabadaaStmFnExactNewVol
namespace Go.Proofs.Ytgdpbiapcabadaa.Pure
open Go.RowKit Go.Proofs.Ytgdpbiapcabadaa.PFnExactNewVol Go.Proofs.YtgdpbiapcabadaaW.PrintWords Go.Proofs.YtgdpbiapcabadaaW.PrintLast Go.Proofs.YtgdpbiapcabadaaW.PrintMore

set_option linter.unusedVariables false
set_option linter.unusedSimpArgs false
/-! ## section FnExactNewVol -/
theorem FnExactNewVol : laws_FnExactNewVol.Pure := rfl

end Go.Proofs.Ytgdpbiapcabadaa.Pure
