/- The program's RecOk returns what the reference's RecOk returns, for all arguments: the statement over numbers and lists, proved. Conditions: none beyond the bounds of the arguments' kinds. -/
import Derived.Test.YtgpcgfmmmnmfhaaStmFnExactRecOk
namespace Go.Proofs.Ytgpcgfmmmnmfhaa.Pure
open Go.RowKit Go.Proofs.Ytgpcgfmmmnmfhaa.PFnExactRecOk Go.Proofs.YtgpcgfmmmnmfhaaW.PrintWords Go.Proofs.YtgpcgfmmmnmfhaaW.PrintLast Go.Proofs.YtgpcgfmmmnmfhaaW.PrintMore

set_option linter.unusedVariables false
set_option linter.unusedSimpArgs false
/-! ## section within -/
theorem within_eq (a b c : Int) : impl_within.f a b c = some (decide (b ≤ a ∧ a ≤ c)) := by
  unfold impl_within.f
  by_cases h : a ≥ b
  · rw [if_pos h]; have : b ≤ a := h; simp [this]
  · rw [if_neg h]; have : ¬ b ≤ a := h; simp [this]

/-! ## section l1In -/
theorem l1In_eq (a b c : Int) : spec_l1In.f a b c = some (decide (b ≤ a ∧ a ≤ c)) := by
  unfold spec_l1In.f
  by_cases h : a ≥ b
  · rw [if_pos h]; have : b ≤ a := h; simp [this]
  · rw [if_neg h]; have : ¬ b ≤ a := h; simp [this]

/-! ## section FnExactRecOk -/
theorem szrec (a b c d : Int) (s : ByteArray) : ∃ v, laws_szRec.f a b c d s 1048576 = some v := by
  unfold laws_szRec.f
  repeat' split
  all_goals exact ⟨_, rfl⟩
theorem rec_same (a b c d : Int) (s : ByteArray) : ∃ v, spec_RecOk.f a b c d s = some v ∧ impl_RecOk.f a b c d s = some v := by
  have e : impl_RecOk.f a b c d s = spec_RecOk.f a b c d s := by
    unfold spec_RecOk.f impl_RecOk.f
    simp only [within_eq, l1In_eq, Option.bind_some, decide_eq_true_eq]
    repeat' split
    all_goals first | rfl | (simp_all; done) | (simp_all <;> omega)
  have x : ∃ v, spec_RecOk.f a b c d s = some v := by
    unfold spec_RecOk.f
    simp only [l1In_eq, Option.bind_some, decide_eq_true_eq]
    repeat' split
    all_goals exact ⟨_, rfl⟩
  obtain ⟨v, hv⟩ := x
  exact ⟨v, hv, e.trans hv⟩
theorem FnExactRecOk : laws_FnExactRecOk.Pure := by
  intro a b c d s _ _ _ _ _
  obtain ⟨v, hv⟩ := szrec a b c d s
  unfold laws_FnExactRecOk.f
  rw [hv, Option.bind_some]
  split
  · rfl
  · obtain ⟨u, h1, h2⟩ := rec_same a b c d s
    unfold laws_toRec.f
    simp only [Option.bind_some]
    rw [h1, Option.bind_some, h2, Option.bind_some, if_neg (by simp)]

end Go.Proofs.Ytgpcgfmmmnmfhaa.Pure
