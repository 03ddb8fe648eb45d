/- The statement of FnExactShowResult over numbers and lists ('laws_FnExactShowResult.Pure'), and that the program's law answers true wherever it stands. Written by rowgen.py (mine). -/
import Derived.Test.YtgpcgfmmmnmfhaaPFnExactShowResultx1
import Derived.Test.YtgpcgfmmmnmfhaaOpen
namespace Go.Proofs.Ytgpcgfmmmnmfhaa.PFnExactShowResult
open Go.RowKit Go.Proofs.YtgpcgfmmmnmfhaaW.PrintWords Go.Proofs.YtgpcgfmmmnmfhaaW.PrintLast Go.Proofs.YtgpcgfmmmnmfhaaW.PrintMore Go.Proofs.Ytgpcgfmmmnmfhaa.Opn
set_option linter.unusedVariables false

theorem opens3 {H : Type} (enc : TypeId × Value → H) (W : World) (base : Nat) (spare : Nat → Bool) (held : Bool) : Opens enc Try.prog W base spare held 3 (Kd.int .i64) (fun n => (Lit.int .i64 n).wf = true) := opens_int enc Try.prog W base spare held Try.underlying3
theorem opens9 {H : Type} (enc : TypeId × Value → H) (W : World) (base : Nat) (spare : Nat → Bool) (held : Bool) : Opens enc Try.prog W base spare held 9 Kd.string (fun s => s.size ≤ maxLen) := opens_string enc Try.prog W base spare held Try.underlying9
theorem opens40 {H : Type} (enc : TypeId × Value → H) (W : World) (base : Nat) (spare : Nat → Bool) (held : Bool) : Opens enc Try.prog W base spare held 40 (Kd.pair (Kd.int .i64) Kd.string) (fun (x : (Int × ByteArray)) => (fun (x : Int) => (Lit.int .i64 x).wf = true) x.1 ∧ (fun (x : ByteArray) => x.size ≤ maxLen) x.2) := opens_struct enc Try.prog W base spare held Try.underlying40 (by kernel_rfl) (opensF_cons enc Try.prog W base spare held (Ok := (fun (x : Int) => (Lit.int .i64 x).wf = true)) (Oks := (fun (x : ByteArray) => x.size ≤ maxLen)) (opens3 enc W base spare held) (opensF_one enc Try.prog W base spare held (Ok := (fun (x : ByteArray) => x.size ≤ maxLen)) (opens9 enc W base spare held)))

/-- THE PURE STATEMENT -/
def laws_FnExactShowResult.Pure : Prop := ∀ (a0_0 : Int) (a0_1 : ByteArray), (Lit.int .i64 a0_0).wf = true → a0_1.size ≤ maxLen → ∃ k, laws_FnExactShowResult.f k a0_0 a0_1 = some true
theorem laws_FnExactShowResult.walk (P : laws_FnExactShowResult.Pure) (a0_0 : Int) (a0_1 : ByteArray) (w : World) (w0_0 : (Lit.int .i64 a0_0).wf = true) (w0_1 : a0_1.size ≤ maxLen) :
    Calls Try.prog 8 #[.agg #[.int .i64 a0_0, .string a0_1]] w fun e w' => e = .returned (.bool true) ∧ Below w.heap.size w w' := by
  obtain ⟨k, h⟩ := P a0_0 a0_1 w0_0 w0_1
  refine (laws_FnExactShowResult.calls k a0_0 a0_1 true w h).mono ?_
  rintro e w' ⟨rfl, hd⟩
  exact ⟨rfl, hd⟩

end Go.Proofs.Ytgpcgfmmmnmfhaa.PFnExactShowResult
