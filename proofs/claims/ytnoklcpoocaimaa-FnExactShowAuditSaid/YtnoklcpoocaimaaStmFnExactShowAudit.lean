/- The statement of FnExactShowAudit over numbers and lists ('laws_FnExactShowAudit.Pure'), and that the program's law answers true wherever it stands. Written by rowgen.py (mine). -/
import Derived.Test.YtnoklcpoocaimaaQFnExactShowAuditx5
import Derived.Test.YtnoklcpoocaimaaOpen
namespace Go.Proofs.Ytnoklcpoocaimaa.PFnExactShowAudit
open Go.RowKit Go.Proofs.YtnoklcpoocaimaaW.PrintWords Go.Proofs.YtnoklcpoocaimaaW.PrintLast Go.Proofs.YtnoklcpoocaimaaW.PrintMore Go.Proofs.Ytnoklcpoocaimaa.Opn
set_option linter.unusedVariables false

theorem opens3 {H : Type} (enc : TypeId × Value → H) (W : World) (base : Nat) (spare : Nat → Bool) (held : Bool) : Opens enc Try.prog W base spare held 3 (Kd.int .i64) (fun n => (Lit.int .i64 n).wf = true) := opens_int enc Try.prog W base spare held Try.underlying3
def okS97 (x : S97) : Prop := (Lit.int .i64 x.f0).wf = true ∧ (Lit.int .i64 x.f1).wf = true ∧ (Lit.int .i64 x.f2).wf = true ∧ (Lit.int .i64 x.f3).wf = true ∧ (Lit.int .i64 x.f4).wf = true
theorem opens97e {H : Type} (enc : TypeId × Value → H) (W : World) (base : Nat) (spare : Nat → Bool) (held : Bool) : Opens enc Try.prog W base spare held 97 k97 okS97 := opens_iso enc Try.prog W base spare held (fun p => ⟨p.1, p.2.1, p.2.2.1, p.2.2.2.1, p.2.2.2.2⟩) (fun _ => rfl) (opens_struct enc Try.prog W base spare held Try.underlying97 (by kernel_rfl) (opensF_cons enc Try.prog W base spare held (Ok := (fun (x : Int) => (Lit.int .i64 x).wf = true)) (Oks := (fun (x : (Int × Int × Int × Int)) => (fun (x : Int) => (Lit.int .i64 x).wf = true) x.1 ∧ (fun (x : (Int × Int × Int)) => (fun (x : Int) => (Lit.int .i64 x).wf = true) x.1 ∧ (fun (x : (Int × Int)) => (fun (x : Int) => (Lit.int .i64 x).wf = true) x.1 ∧ (fun (x : Int) => (Lit.int .i64 x).wf = true) x.2) x.2) x.2)) (opens3 enc W base spare held) (opensF_cons enc Try.prog W base spare held (Ok := (fun (x : Int) => (Lit.int .i64 x).wf = true)) (Oks := (fun (x : (Int × Int × Int)) => (fun (x : Int) => (Lit.int .i64 x).wf = true) x.1 ∧ (fun (x : (Int × Int)) => (fun (x : Int) => (Lit.int .i64 x).wf = true) x.1 ∧ (fun (x : Int) => (Lit.int .i64 x).wf = true) x.2) x.2)) (opens3 enc W base spare held) (opensF_cons enc Try.prog W base spare held (Ok := (fun (x : Int) => (Lit.int .i64 x).wf = true)) (Oks := (fun (x : (Int × Int)) => (fun (x : Int) => (Lit.int .i64 x).wf = true) x.1 ∧ (fun (x : Int) => (Lit.int .i64 x).wf = true) x.2)) (opens3 enc W base spare held) (opensF_cons enc Try.prog W base spare held (Ok := (fun (x : Int) => (Lit.int .i64 x).wf = true)) (Oks := (fun (x : Int) => (Lit.int .i64 x).wf = true)) (opens3 enc W base spare held) (opensF_one enc Try.prog W base spare held (Ok := (fun (x : Int) => (Lit.int .i64 x).wf = true)) (opens3 enc W base spare held)))))))
theorem opens29 {H : Type} (enc : TypeId × Value → H) (W : World) (base : Nat) (spare : Nat → Bool) (held : Bool) : Opens enc Try.prog W base spare held 29 (Kd.slice 97 k97) (fun l => l.length ≤ maxLen ∧ ∀ a ∈ l, okS97 a) := opens_slice enc Try.prog W base spare held Try.underlying29 (by kernel_rfl) (opens97e enc W base spare held)

/-- THE PURE STATEMENT -/
def laws_FnExactShowAudit.Pure : Prop := ∀ (l0 : List (S97)) (a1 : Int), (l0.length ≤ maxLen ∧ ∀ y ∈ l0, okS97 y) → (Lit.int .i64 a1).wf = true → ∃ k, laws_FnExactShowAudit.f k l0 a1 = some true
theorem laws_FnExactShowAudit.walk (P : laws_FnExactShowAudit.Pure) (A0 : Option Addr) (c0 : Nat) (l0 : List (S97)) (a1 : Int) (w : World) (hr0 : Kd.C k97 w A0 l0.length l0) (hc0 : l0.length ≤ c0) (w0 : (l0.length ≤ maxLen ∧ ∀ y ∈ l0, okS97 y)) (w1 : (Lit.int .i64 a1).wf = true) :
    Calls Try.prog 8 #[.slice A0 l0.length c0, .int .i64 a1] w fun e w' => e = .returned (.bool true) ∧ Below w.heap.size w w' := by
  obtain ⟨k, h⟩ := P l0 a1 w0 w1
  refine (laws_FnExactShowAudit.calls k A0 c0 l0 a1 true w hr0 hc0 rfl h).mono ?_
  rintro e w' ⟨rfl, hd⟩
  exact ⟨rfl, hd⟩

end Go.Proofs.Ytnoklcpoocaimaa.PFnExactShowAudit
