/- The program's CredOf returns what the reference's CredOf returns, for all arguments: the statement over numbers and lists, proved. Conditions: none beyond the bounds of the arguments' kinds. -/
import Derived.Test.YtnoklcpoocaimaaPFnExactCredOfx1
namespace Go.Proofs.Ytnoklcpoocaimaa.Pure
open Go.RowKit Go.Proofs.Ytnoklcpoocaimaa.PFnExactCredOf Go.Proofs.YtnoklcpoocaimaaW.PrintWords Go.Proofs.YtnoklcpoocaimaaW.PrintLast Go.Proofs.YtnoklcpoocaimaaW.PrintMore

set_option linter.unusedVariables false
set_option linter.unusedSimpArgs false
/-! ## section FnExactCredOf -/
theorem credof_same (a : Int) : impl_CredOf.f a = spec_CredOf.f a := by
  unfold impl_CredOf.f spec_CredOf.f; rfl
theorem FnExactCredOf : laws_FnExactCredOf.Pure := by
  intro a _
  refine ⟨5, ?_⟩
  unfold laws_FnExactCredOf.f
  rw [credof_same]
  by_cases h1 : a = 1
  · have e : spec_CredOf.f a = some (0, 0, []) := by unfold spec_CredOf.f; rw [if_pos h1]
    rw [e]; decide +kernel
  · by_cases h2 : a = 2
    · have e : spec_CredOf.f a = some (2, 2, [5]) := by unfold spec_CredOf.f; rw [if_neg h1, if_pos h2]
      rw [e]; decide +kernel
    · by_cases h3 : a = 3
      · have e : spec_CredOf.f a = some (3, 2, []) := by unfold spec_CredOf.f; rw [if_neg h1, if_neg h2, if_pos h3]
        rw [e]; decide +kernel
      · have e : spec_CredOf.f a = some (1000, 1000, []) := by unfold spec_CredOf.f; rw [if_neg h1, if_neg h2, if_neg h3]
        rw [e]; decide +kernel

end Go.Proofs.Ytnoklcpoocaimaa.Pure
