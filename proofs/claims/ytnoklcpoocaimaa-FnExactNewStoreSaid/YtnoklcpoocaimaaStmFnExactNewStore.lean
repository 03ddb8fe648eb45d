/- The statement of FnExactNewStore over numbers and lists ('laws_FnExactNewStore.Pure'), and that the program's law answers true wherever it stands. Written by rowgen.py (mine). -/
import Derived.Test.YtnoklcpoocaimaaQFnExactNewStorex4
import Derived.Test.YtnoklcpoocaimaaOpen
namespace Go.Proofs.Ytnoklcpoocaimaa.PFnExactNewStore
open Go.RowKit Go.Proofs.YtnoklcpoocaimaaW.PrintWords Go.Proofs.YtnoklcpoocaimaaW.PrintLast Go.Proofs.YtnoklcpoocaimaaW.PrintMore Go.Proofs.Ytnoklcpoocaimaa.Opn
set_option linter.unusedVariables false



/-- THE PURE STATEMENT -/
def laws_FnExactNewStore.Pure : Prop := ∃ k, laws_FnExactNewStore.f k  = some true
theorem laws_FnExactNewStore.walk (P : laws_FnExactNewStore.Pure) (w : World) :
    Calls Try.prog 11 #[] w fun e w' => e = .returned (.bool true) ∧ Below w.heap.size w w' := by
  obtain ⟨k, h⟩ := P
  refine (laws_FnExactNewStore.calls k  true w rfl h).mono ?_
  rintro e w' ⟨rfl, hd⟩
  exact ⟨rfl, hd⟩

end Go.Proofs.Ytnoklcpoocaimaa.PFnExactNewStore
