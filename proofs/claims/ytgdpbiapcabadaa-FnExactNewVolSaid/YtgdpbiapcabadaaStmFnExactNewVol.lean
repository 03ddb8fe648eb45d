/- The statement of FnExactNewVol over numbers and lists ('laws_FnExactNewVol.Pure'), and that the program's law answers true wherever it stands. Written by rowgen.py (mine). -/
import Derived.Test.YtgdpbiapcabadaaXFnExactNewVol
import Derived.Test.YtgdpbiapcabadaaOpen
namespace Go.Proofs.Ytgdpbiapcabadaa.PFnExactNewVol
open Go.RowKit Go.Proofs.YtgdpbiapcabadaaW.PrintWords Go.Proofs.YtgdpbiapcabadaaW.PrintLast Go.Proofs.YtgdpbiapcabadaaW.PrintMore Go.Proofs.Ytgdpbiapcabadaa.Opn
set_option linter.unusedVariables false



/-- THE PURE STATEMENT -/
def laws_FnExactNewVol.Pure : Prop := laws_FnExactNewVol.f  = some true
theorem laws_FnExactNewVol.walk (P : laws_FnExactNewVol.Pure) (w : World) :
    Calls Try.prog 4 #[] w fun e w' => e = .returned (.bool true) ∧ Below w.heap.size w w' := by
  have h := P
  refine (laws_FnExactNewVol.calls  true w h).mono ?_
  rintro e w' ⟨rfl, hd⟩
  exact ⟨rfl, hd⟩

end Go.Proofs.Ytgdpbiapcabadaa.PFnExactNewVol
