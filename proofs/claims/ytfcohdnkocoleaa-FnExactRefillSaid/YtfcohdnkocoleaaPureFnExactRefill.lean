/- The program's Refill returns what the reference's Refill returns, for all arguments: the statement over numbers and lists, proved. Conditions: none beyond the bounds of the arguments' kinds. -/
import Derived.Test.YtfcohdnkocoleaaPFnExactRefillx1
namespace Go.Proofs.Ytfcohdnkocoleaa.Pure
open Go.RowKit Go.Proofs.Ytfcohdnkocoleaa.PFnExactRefill Go.Proofs.YtfcohdnkocoleaaW.PrintWords Go.Proofs.YtfcohdnkocoleaaW.PrintLast Go.Proofs.YtfcohdnkocoleaaW.PrintMore

/-! ## section FnExactRefill -/
theorem FnExactRefill : laws_FnExactRefill.Pure := by
  intro a _
  unfold laws_FnExactRefill.f spec_Refill.f impl_Refill.f wrap64
  by_cases h1 : a < 0
  · simp [h1]
  · by_cases h2 : a > 26
    · have : a ≥ 26 := by omega
      simp [h1, h2, this]
    · by_cases h3 : a = 26
      · subst h3; simp
      · have : ¬ a ≥ 26 := by omega
        simp [h1, h2, this]

end Go.Proofs.Ytfcohdnkocoleaa.Pure
