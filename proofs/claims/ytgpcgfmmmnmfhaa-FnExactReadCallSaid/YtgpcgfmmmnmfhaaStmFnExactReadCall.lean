/- The statement of FnExactReadCall over numbers and lists ('laws_FnExactReadCall.Pure'), and that the program's law answers true wherever it stands. Written by rowgen.py (mine). -/
import Derived.Test.YtgpcgfmmmnmfhaaQFnExactReadCallx6
import Derived.Test.YtgpcgfmmmnmfhaaOpen
namespace Go.Proofs.Ytgpcgfmmmnmfhaa.PFnExactReadCall
open Go.RowKit Go.Proofs.YtgpcgfmmmnmfhaaW.PrintWords Go.Proofs.YtgpcgfmmmnmfhaaW.PrintLast Go.Proofs.YtgpcgfmmmnmfhaaW.PrintMore Go.Proofs.Ytgpcgfmmmnmfhaa.Opn
set_option linter.unusedVariables false



/-- THE PURE STATEMENT -/
def laws_FnExactReadCall.Pure : Prop := ∀ (a0 : ByteArray), a0.size ≤ 140737488351232 → ∃ k, laws_FnExactReadCall.f k a0 = some true
theorem laws_FnExactReadCall.walk (P : laws_FnExactReadCall.Pure) (a0 : ByteArray) (w : World) (w0 : a0.size ≤ 140737488351232) :
    Calls Try.prog 12 #[.string a0] w fun e w' => e = .returned (.bool true) ∧ Below w.heap.size w w' := by
  obtain ⟨k, h⟩ := P a0 w0
  refine (laws_FnExactReadCall.calls k a0 true w rfl h).mono ?_
  rintro e w' ⟨rfl, hd⟩
  exact ⟨rfl, hd⟩

end Go.Proofs.Ytgpcgfmmmnmfhaa.PFnExactReadCall
