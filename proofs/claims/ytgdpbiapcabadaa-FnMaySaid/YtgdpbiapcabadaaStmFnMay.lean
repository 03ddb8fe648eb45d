/- The statement of FnMay over numbers and lists ('laws_FnMay.Pure'), and that the program's law answers true wherever it stands. Written by rowgen.py (mine). -/
import Derived.Test.YtgdpbiapcabadaaQFnMayx4
import Derived.Test.YtgdpbiapcabadaaOpen
namespace Go.Proofs.Ytgdpbiapcabadaa.PFnMay
open Go.RowKit Go.Proofs.YtgdpbiapcabadaaW.PrintWords Go.Proofs.YtgdpbiapcabadaaW.PrintLast Go.Proofs.YtgdpbiapcabadaaW.PrintMore Go.Proofs.Ytgdpbiapcabadaa.Opn
set_option linter.unusedVariables false

theorem opens5 {H : Type} (enc : TypeId × Value → H) (W : World) (base : Nat) (spare : Nat → Bool) (held : Bool) : Opens enc Try.prog W base spare held 5 (Kd.int .u8) (fun n => (Lit.int .u8 n).wf = true) := opens_int enc Try.prog W base spare held Try.underlying5
theorem opens22 {H : Type} (enc : TypeId × Value → H) (W : World) (base : Nat) (spare : Nat → Bool) (held : Bool) : Opens enc Try.prog W base spare held 22 (Kd.slice 5 (Kd.int .u8)) (fun l => l.length ≤ maxLen ∧ ∀ a ∈ l, (Lit.int .u8 a).wf = true) := opens_slice enc Try.prog W base spare held Try.underlying22 (by kernel_rfl) (opens5 enc W base spare held)

/-- THE PURE STATEMENT -/
def laws_FnMay.Pure : Prop := ∀ (l0 : List (Int)), (l0.length ≤ maxLen ∧ ∀ y ∈ l0, (Lit.int .u8 y).wf = true) → ∃ k, laws_FnMay.f k l0 = some true
theorem laws_FnMay.walk (P : laws_FnMay.Pure) (A0 : Option Addr) (c0 : Nat) (l0 : List (Int)) (w : World) (hr0 : Kd.C (Kd.int .u8) w A0 l0.length l0) (hc0 : l0.length ≤ c0) (w0 : (l0.length ≤ maxLen ∧ ∀ y ∈ l0, (Lit.int .u8 y).wf = true)) :
    Calls Try.prog 3 #[.slice A0 l0.length c0] w fun e w' => e = .returned (.bool true) ∧ Below w.heap.size w w' := by
  obtain ⟨k, h⟩ := P l0 w0
  refine (laws_FnMay.calls k A0 c0 l0 true w hr0 hc0 rfl h).mono ?_
  rintro e w' ⟨rfl, hd⟩
  exact ⟨rfl, hd⟩

end Go.Proofs.Ytgdpbiapcabadaa.PFnMay
