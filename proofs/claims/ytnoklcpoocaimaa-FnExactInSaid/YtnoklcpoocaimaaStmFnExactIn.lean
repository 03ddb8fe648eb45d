/- The statement of FnExactIn over numbers and lists ('laws_FnExactIn.Pure'), and that the program's law answers true wherever it stands. Written by rowgen.py (mine). -/
import Derived.Test.YtnoklcpoocaimaaQFnExactInx2
import Derived.Test.YtnoklcpoocaimaaOpen
namespace Go.Proofs.Ytnoklcpoocaimaa.PFnExactIn
open Go.RowKit Go.Proofs.YtnoklcpoocaimaaW.PrintWords Go.Proofs.YtnoklcpoocaimaaW.PrintLast Go.Proofs.YtnoklcpoocaimaaW.PrintMore Go.Proofs.Ytnoklcpoocaimaa.Opn
set_option linter.unusedVariables false

theorem opens3 {H : Type} (enc : TypeId × Value → H) (W : World) (base : Nat) (spare : Nat → Bool) (held : Bool) : Opens enc Try.prog W base spare held 3 (Kd.int .i64) (fun n => (Lit.int .i64 n).wf = true) := opens_int enc Try.prog W base spare held Try.underlying3
theorem opens22 {H : Type} (enc : TypeId × Value → H) (W : World) (base : Nat) (spare : Nat → Bool) (held : Bool) : Opens enc Try.prog W base spare held 22 (Kd.slice 3 (Kd.int .i64)) (fun l => l.length ≤ maxLen ∧ ∀ a ∈ l, (Lit.int .i64 a).wf = true) := opens_slice enc Try.prog W base spare held Try.underlying22 (by kernel_rfl) (opens3 enc W base spare held)
theorem opens36 {H : Type} (enc : TypeId × Value → H) (W : World) (base : Nat) (spare : Nat → Bool) (held : Bool) : Opens enc Try.prog W base spare held 36 (Kd.pair (Kd.int .i64) (Kd.pair (Kd.int .i64) (Kd.slice 3 (Kd.int .i64)))) (fun (x : (Int × Int × List (Int))) => (fun (x : Int) => (Lit.int .i64 x).wf = true) x.1 ∧ (fun (x : (Int × List (Int))) => (fun (x : Int) => (Lit.int .i64 x).wf = true) x.1 ∧ (fun (x : List (Int)) => (x.length ≤ maxLen ∧ ∀ y ∈ x, (Lit.int .i64 y).wf = true)) x.2) x.2) := opens_struct enc Try.prog W base spare held Try.underlying36 (by kernel_rfl) (opensF_cons enc Try.prog W base spare held (Ok := (fun (x : Int) => (Lit.int .i64 x).wf = true)) (Oks := (fun (x : (Int × List (Int))) => (fun (x : Int) => (Lit.int .i64 x).wf = true) x.1 ∧ (fun (x : List (Int)) => (x.length ≤ maxLen ∧ ∀ y ∈ x, (Lit.int .i64 y).wf = true)) x.2)) (opens3 enc W base spare held) (opensF_cons enc Try.prog W base spare held (Ok := (fun (x : Int) => (Lit.int .i64 x).wf = true)) (Oks := (fun (x : List (Int)) => (x.length ≤ maxLen ∧ ∀ y ∈ x, (Lit.int .i64 y).wf = true))) (opens3 enc W base spare held) (opensF_one enc Try.prog W base spare held (Ok := (fun (x : List (Int)) => (x.length ≤ maxLen ∧ ∀ y ∈ x, (Lit.int .i64 y).wf = true))) (opens22 enc W base spare held))))

/-- THE PURE STATEMENT -/
def laws_FnExactIn.Pure : Prop := ∀ (a0_0 : Int) (a0_1 : Int) (l0_2 : List (Int)) (a1 : Int), (Lit.int .i64 a0_0).wf = true → (Lit.int .i64 a0_1).wf = true → (l0_2.length ≤ maxLen ∧ ∀ y ∈ l0_2, (Lit.int .i64 y).wf = true) → (Lit.int .i64 a1).wf = true → ∃ k, laws_FnExactIn.f k a0_0 a0_1 l0_2 a1 = some true
theorem laws_FnExactIn.walk (P : laws_FnExactIn.Pure) (a0_0 : Int) (a0_1 : Int) (A0_2 : Option Addr) (c0_2 : Nat) (l0_2 : List (Int)) (a1 : Int) (w : World) (hr0_2 : Kd.C (Kd.int .i64) w A0_2 l0_2.length l0_2) (hc0_2 : l0_2.length ≤ c0_2) (w0_0 : (Lit.int .i64 a0_0).wf = true) (w0_1 : (Lit.int .i64 a0_1).wf = true) (w0_2 : (l0_2.length ≤ maxLen ∧ ∀ y ∈ l0_2, (Lit.int .i64 y).wf = true)) (w1 : (Lit.int .i64 a1).wf = true) :
    Calls Try.prog 6 #[.agg #[.int .i64 a0_0, .int .i64 a0_1, .slice A0_2 l0_2.length c0_2], .int .i64 a1] w fun e w' => e = .returned (.bool true) ∧ Below w.heap.size w w' := by
  obtain ⟨k, h⟩ := P a0_0 a0_1 l0_2 a1 w0_0 w0_1 w0_2 w1
  refine (laws_FnExactIn.calls k a0_0 a0_1 A0_2 c0_2 l0_2 a1 true w hr0_2 hc0_2 rfl h).mono ?_
  rintro e w' ⟨rfl, hd⟩
  exact ⟨rfl, hd⟩

end Go.Proofs.Ytnoklcpoocaimaa.PFnExactIn
