/- The program's ResultOk returns what the reference's ResultOk returns, for all arguments: the statement over numbers and lists, proved. Conditions: none beyond the bounds of the arguments' kinds. -/
import Derived.Test.YtfcohdnkocoleaaStmFnExactResultOk
namespace Go.Proofs.Ytfcohdnkocoleaa.Pure
open Go.RowKit Go.Proofs.Ytfcohdnkocoleaa.PFnExactResultOk Go.Proofs.YtfcohdnkocoleaaW.PrintWords Go.Proofs.YtfcohdnkocoleaaW.PrintLast Go.Proofs.YtfcohdnkocoleaaW.PrintMore

set_option linter.unusedVariables false
set_option linter.unusedSimpArgs false
/-! ## section within -/
theorem within_eq (a b c : Int) : impl_within.f a b c = some (decide (b ≤ a ∧ a ≤ c)) := by
  unfold impl_within.f
  by_cases h : a ≥ b
  · rw [if_pos h]; have : b ≤ a := h; simp [this]
  · rw [if_neg h]; have : ¬ b ≤ a := h; simp [this]

/-! ## section l1In -/
theorem l1In_eq (a b c : Int) : spec_l1In.f a b c = some (decide (b ≤ a ∧ a ≤ c)) := by
  unfold spec_l1In.f
  by_cases h : a ≥ b
  · rw [if_pos h]; have : b ≤ a := h; simp [this]
  · rw [if_neg h]; have : ¬ b ≤ a := h; simp [this]

/-! ## section resultok -/
/-- is a result right -/
def resOkB (c : Int) (d : ByteArray) : Bool := decide (0 ≤ c ∧ c ≤ 200 ∧ d.size ≤ 400)
theorem resok_spec (c : Int) (d : ByteArray) : spec_ResultOk.f c d = some (resOkB c d) := by
  unfold spec_ResultOk.f resOkB
  rw [l1In_eq, Option.bind_some]
  by_cases h : 0 ≤ c ∧ c ≤ 200
  · rw [if_pos (by simpa using h)]
    congr 1; apply Bool.eq_iff_iff.2; simp only [decide_eq_true_eq]; omega
  · rw [if_neg (by simpa using h)]
    congr 1; symm; apply decide_eq_false; rintro ⟨a, b, _⟩; exact h ⟨a, b⟩
theorem resok_impl (c : Int) (d : ByteArray) : impl_ResultOk.f c d = some (resOkB c d) := by
  unfold impl_ResultOk.f resOkB
  rw [within_eq, Option.bind_some]
  by_cases h : 0 ≤ c ∧ c ≤ 200
  · rw [if_pos (by simpa using h)]
    congr 1; apply Bool.eq_iff_iff.2; simp only [decide_eq_true_eq]; omega
  · rw [if_neg (by simpa using h)]
    congr 1; symm; apply decide_eq_false; rintro ⟨a, b, _⟩; exact h ⟨a, b⟩

/-! ## section FnExactResultOk -/
theorem szres (c : Int) (d : ByteArray) (hd : d.size ≤ maxLen) : ∃ v, laws_szResult.f c d 1048576 = some v := by
  unfold laws_szResult.f
  repeat' split
  all_goals exact ⟨_, rfl⟩
theorem FnExactResultOk : laws_FnExactResultOk.Pure := by
  intro c d _ hd
  obtain ⟨v, hv⟩ := szres c d hd
  unfold laws_FnExactResultOk.f
  rw [hv, Option.bind_some]
  split
  · rfl
  · unfold laws_toResult.f
    simp only [Option.bind_some]
    rw [resok_spec, Option.bind_some, resok_impl, Option.bind_some, if_neg (by simp)]

end Go.Proofs.Ytfcohdnkocoleaa.Pure
