/- The program's ReadVol returns what the reference's ReadVol returns, for all arguments: the statement over numbers and lists. -/
import Derived.Test.YtiopcpkfjikfdaaStmFnExactReadVol
namespace Go.Proofs.Ytiopcpkfjikfdaa.Pure
open Go.Proofs.Ytiopcpkfjikfdaa.PFnExactVolOk
theorem FnExactReadVol : laws_FnExactReadVol.Pure := fun _ _ => ⟨0, rfl⟩
end Go.Proofs.Ytiopcpkfjikfdaa.Pure
