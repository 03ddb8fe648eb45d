/- The statement of FnExactReadVol over numbers and lists ('laws_FnExactReadVol.Pure'), and that the program's law answers true wherever it stands. Written by rowgen.py (mine). -/
import Derived.Test.YtiopcpkfjikfdaaQFnExactReadVolx0
import Derived.Test.YtiopcpkfjikfdaaOpen
namespace Go.Proofs.Ytiopcpkfjikfdaa.PFnExactVolOk
open Go.RowKit Go.Proofs.YtiopcpkfjikfdaaW.PrintWords Go.Proofs.YtiopcpkfjikfdaaW.PrintLast Go.Proofs.YtiopcpkfjikfdaaW.PrintMore Go.Proofs.Ytiopcpkfjikfdaa.Opn
set_option linter.unusedVariables false



/-- THE PURE STATEMENT -/
def laws_FnExactReadVol.Pure : Prop := ∀ (a0 : ByteArray), a0.size ≤ 140737488351232 → ∃ k, laws_FnExactReadVol.f k a0 = some true
theorem laws_FnExactReadVol.walk (P : laws_FnExactReadVol.Pure) (a0 : ByteArray) (w : World) (w0 : a0.size ≤ 140737488351232) :
    Calls Try.prog 8 #[.string a0] w fun e w' => e = .returned (.bool true) ∧ Below w.heap.size w w' := by
  obtain ⟨k, h⟩ := P a0 w0
  refine (laws_FnExactReadVol.calls k a0 true w rfl h).mono ?_
  rintro e w' ⟨rfl, hd⟩
  exact ⟨rfl, hd⟩

end Go.Proofs.Ytiopcpkfjikfdaa.PFnExactVolOk
