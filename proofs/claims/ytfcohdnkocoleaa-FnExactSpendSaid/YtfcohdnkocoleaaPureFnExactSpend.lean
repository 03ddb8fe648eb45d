/- The program's Spend returns what the reference's Spend returns, for all arguments: the statement over numbers and lists, proved. Conditions: none beyond the bounds of the arguments' kinds. -/
import Derived.Test.YtfcohdnkocoleaaPFnExactSpendx1
namespace Go.Proofs.Ytfcohdnkocoleaa.Pure
open Go.RowKit Go.Proofs.Ytfcohdnkocoleaa.PFnExactSpend Go.Proofs.YtfcohdnkocoleaaW.PrintWords Go.Proofs.YtfcohdnkocoleaaW.PrintLast Go.Proofs.YtfcohdnkocoleaaW.PrintMore

/-! ## section within -/
theorem within_eq (a b c : Int) : impl_within.f a b c = some (decide (b ≤ a ∧ a ≤ c)) := by
  unfold impl_within.f
  by_cases h : a ≥ b
  · rw [if_pos h]; have : b ≤ a := h; simp [this]
  · rw [if_neg h]; have : ¬ b ≤ a := h; simp [this]
theorem l1In_eq (a b c : Int) : spec_l1In.f a b c = some (decide (b ≤ a ∧ a ≤ c)) := by
  unfold spec_l1In.f
  by_cases h : a ≥ b
  · rw [if_pos h]; have : b ≤ a := h; simp [this]
  · rw [if_neg h]; have : ¬ b ≤ a := h; simp [this]

/-! ## section tells -/
/-- does a kind only tell -/
def tellsB (a : Int) : Bool := decide (a = 4 ∨ a = 11 ∨ a = 13 ∨ a = 14 ∨ a = 17 ∨ a = 18 ∨ a = 20 ∨ a = 21)
theorem tells_spec (a : Int) : spec_Tells.f a = some (tellsB a) := by
  unfold spec_Tells.f tellsB
  repeat' split
  all_goals simp_all
theorem tells_impl (a : Int) : impl_Tells.f a = some (tellsB a) := by
  unfold impl_Tells.f tellsB
  repeat' split
  all_goals simp_all
/-- what a kind costs -/
def costN (a : Int) : Int := if tellsB a = true then 1 else if 1 ≤ a ∧ a ≤ 22 then 3 else 0
theorem cost_spec (a : Int) : spec_Cost.f a = some (costN a) := by
  unfold spec_Cost.f costN
  rw [tells_spec, Option.bind_some, l1In_eq]
  by_cases h : tellsB a = true
  · rw [if_pos h, if_pos h]
  · rw [if_neg h, if_neg h, Option.bind_some]
    by_cases h2 : 1 ≤ a ∧ a ≤ 22
    · rw [if_pos h2, if_pos (by simpa using h2)]
    · rw [if_neg h2, if_neg (by simpa using h2)]
theorem cost_impl (a : Int) : impl_Cost.f a = some (costN a) := by
  unfold impl_Cost.f costN
  rw [within_eq, Option.bind_some, tells_impl]
  by_cases h2 : 1 ≤ a ∧ a ≤ 22
  · rw [if_pos (by simpa using h2), Option.bind_some]
    by_cases h : tellsB a = true
    · rw [if_pos h, if_pos h]
    · rw [if_neg h, if_neg h, if_pos h2]
  · rw [if_neg (by simpa using h2), if_neg, if_neg h2]
    intro h
    unfold tellsB at h
    have := of_decide_eq_true h
    omega

/-! ## section spend -/
/-- what is left, and whether it was spent -/
def spendN (a b : Int) : Int × Bool := if costN b = 0 then (a, false) else if costN b > a then (a, false) else (wrap64 (a - costN b), true)
theorem spend_spec (a b : Int) : spec_Spend.f a b = some (spendN a b) := by
  unfold spec_Spend.f spendN
  rw [cost_spec, Option.bind_some]
  repeat' split
  all_goals rfl
theorem spend_impl (a b : Int) : impl_Spend.f a b = some (spendN a b) := by
  unfold impl_Spend.f spendN
  rw [cost_impl, Option.bind_some]
  repeat' split
  all_goals rfl

/-! ## section FnExactSpend -/
theorem FnExactSpend : laws_FnExactSpend.Pure := by
  intro a b _ _
  unfold laws_FnExactSpend.f
  rw [spend_spec, Option.bind_some, spend_impl, Option.bind_some, if_pos rfl, if_neg (by simp)]

end Go.Proofs.Ytfcohdnkocoleaa.Pure
