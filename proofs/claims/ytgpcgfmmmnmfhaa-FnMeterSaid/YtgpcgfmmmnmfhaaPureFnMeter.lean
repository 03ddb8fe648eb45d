/- The law FnMeter answers true for every input: the statement over numbers and lists, proved. Conditions: none beyond the bounds of the arguments' kinds. -/
import Derived.Test.YtgpcgfmmmnmfhaaHFnMeterx2
import Derived.Test.YtgpcgfmmmnmfhaaMath
import Derived.Test.YtgpcgfmmmnmfhaaStr
namespace Go.Proofs.Ytgpcgfmmmnmfhaa.Pure
open Go.RowKit Go.Proofs.Ytgpcgfmmmnmfhaa.PFnMeter Go.Proofs.YtgpcgfmmmnmfhaaW.PrintWords Go.Proofs.YtgpcgfmmmnmfhaaW.PrintLast Go.Proofs.YtgpcgfmmmnmfhaaW.PrintMore Go.Proofs.Ytgpcgfmmmnmfhaa.Mth Go.Proofs.Ytgpcgfmmmnmfhaa.Str

set_option linter.unusedVariables false
set_option linter.unusedSimpArgs false
/-! ## section within -/
theorem within_eq (a b c : Int) : impl_within.f a b c = some (decide (b ≤ a ∧ a ≤ c)) := by
  unfold impl_within.f
  by_cases h : a ≥ b
  · rw [if_pos h]; have : b ≤ a := h; simp [this]
  · rw [if_neg h]; have : ¬ b ≤ a := h; simp [this]

/-! ## section l1In -/
theorem l1In_eq (a b c : Int) : spec_l1In.f a b c = some (decide (b ≤ a ∧ a ≤ c)) := by
  unfold spec_l1In.f
  by_cases h : a ≥ b
  · rw [if_pos h]; have : b ≤ a := h; simp [this]
  · rw [if_neg h]; have : ¬ b ≤ a := h; simp [this]

/-! ## section tells -/
/-- does a kind only tell -/
def tellsB (a : Int) : Bool := decide (a = 4 ∨ a = 11 ∨ a = 13 ∨ a = 14 ∨ a = 17 ∨ a = 18 ∨ a = 20 ∨ a = 21)
theorem tells_spec (a : Int) : spec_Tells.f a = some (tellsB a) := by
  unfold spec_Tells.f tellsB
  repeat' split
  all_goals simp_all
theorem tells_impl (a : Int) : impl_Tells.f a = some (tellsB a) := by
  unfold impl_Tells.f tellsB
  repeat' split
  all_goals simp_all
/-- what a kind costs -/
def costN (a : Int) : Int := if tellsB a = true then 1 else if 1 ≤ a ∧ a ≤ 22 then 3 else 0
theorem cost_spec (a : Int) : spec_Cost.f a = some (costN a) := by
  unfold spec_Cost.f costN
  rw [tells_spec, Option.bind_some, l1In_eq]
  by_cases h : tellsB a = true
  · rw [if_pos h, if_pos h]
  · rw [if_neg h, if_neg h, Option.bind_some]
    by_cases h2 : 1 ≤ a ∧ a ≤ 22
    · rw [if_pos h2, if_pos (by simpa using h2)]
    · rw [if_neg h2, if_neg (by simpa using h2)]
theorem cost_impl (a : Int) : impl_Cost.f a = some (costN a) := by
  unfold impl_Cost.f costN
  rw [within_eq, Option.bind_some, tells_impl]
  by_cases h2 : 1 ≤ a ∧ a ≤ 22
  · rw [if_pos (by simpa using h2), Option.bind_some]
    by_cases h : tellsB a = true
    · rw [if_pos h, if_pos h]
    · rw [if_neg h, if_neg h, if_pos h2]
  · rw [if_neg (by simpa using h2), if_neg, if_neg h2]
    intro h
    unfold tellsB at h
    have := of_decide_eq_true h
    omega

/-! ## section spend -/
/-- what is left, and whether it was spent -/
def spendN (a b : Int) : Int × Bool := if costN b = 0 then (a, false) else if costN b > a then (a, false) else (wrap64 (a - costN b), true)
theorem spend_impl (a b : Int) : impl_Spend.f a b = some (spendN a b) := by
  unfold impl_Spend.f spendN
  rw [cost_impl, Option.bind_some]
  repeat' split
  all_goals rfl

/-! ## section FnMeter -/
theorem at_some (l : List Int) (i : Int) (h : 0 ≤ i) : ∃ v, laws_at.f l i = some v := by
  unfold laws_at.f
  by_cases h1 : i < (l.length : Int)
  · exact ⟨_, by rw [if_pos h1, if_pos h]⟩
  · exact ⟨_, by rw [if_neg h1]⟩
theorem cost_range (a : Int) : 0 ≤ costN a ∧ costN a ≤ 3 := by
  unfold costN; split
  · omega
  · split <;> omega
theorem refill_impl (t : Int) (h0 : 0 ≤ t) (h1 : t ≤ 30) : ∃ v, impl_Refill.f t = some v ∧ 0 ≤ v ∧ v ≤ 30 ∧ v ≤ t + 4 := by
  unfold impl_Refill.f
  rw [if_neg (by omega)]
  by_cases h : t > 26
  · exact ⟨30, by rw [if_pos h], by omega, by omega, by omega⟩
  · refine ⟨t + 4, ?_, by omega, by omega, by omega⟩
    rw [if_neg h, w64 (by omega) (by omega)]
theorem meter_end : ∀ (x0 : List Int) (x3 x4 x5 : Int), Ev (fun k => laws_FnMeter.l0 k x0 x3 x4 x5 60) true := by
  intro x0 x3 x4 x5
  refine Ev.step (laws_FnMeter.l0.eq_2 _ _ _ _ _) (ev_neg (by omega) (ev_of (cost_impl 1) (ev_pos (by decide) (ev_of (tells_impl 4) (ev_now (by decide))))))
theorem meter_loop (x0 : List Int) : ∀ (d : Nat) (i t sp fr : Int), i + d = 60 → 0 ≤ i → 0 ≤ t → t ≤ 30 → 0 ≤ sp → 0 ≤ fr → fr ≤ i → sp + t ≤ 30 + 4 * fr → Ev (fun k => laws_FnMeter.l0 k x0 t sp fr i) true := by
  intro d
  induction d with
  | zero =>
    intro i t sp fr hi _ _ _ _ _ _ _
    obtain rfl : i = 60 := by omega
    exact meter_end _ _ _ _
  | succ d ih =>
    intro i t sp fr hi hi0 ht0 ht1 hsp hfr hfi hinv
    obtain ⟨v, hv⟩ := at_some x0 i hi0
    have e1 : wrap64 (i + 1) = i + 1 := w64 (by omega) (by omega)
    have e2 : wrap64 (fr + 1) = fr + 1 := w64 (by omega) (by omega)
    refine Ev.step (laws_FnMeter.l0.eq_2 _ _ _ _ _) (ev_pos (by omega) (ev_of hv ?_))
    by_cases h3 : v.tmod 3 = 0
    · obtain ⟨u, hu, hu0, hu1, hu2⟩ := refill_impl t ht0 ht1
      refine ev_pos h3 (ev_of hu ?_)
      rw [e1, e2]
      exact ih (i + 1) u sp (fr + 1) (by omega) (by omega) hu0 hu1 hsp (by omega) (by omega) (by omega)
    · refine ev_neg h3 (ev_of hv (ev_of (spend_impl _ _) (ev_of (cost_spec _) ?_)))
      generalize wrap64 (v.tmod 25 - 1) = kd
      have hc := cost_range kd
      have e3 : wrap64 (30 + wrap64 (4 * fr)) = 30 + 4 * fr := by
        rw [w64 (n := 4 * fr) (by omega) (by omega)]; exact w64 (by omega) (by omega)
      by_cases hpos : costN kd > 0
      · refine ev_pos hpos (ev_of (cost_spec _) ?_)
        by_cases hle : costN kd ≤ t
        · have hs : spendN t kd = (t - costN kd, true) := by
            unfold spendN; rw [if_neg (by omega), if_neg (by omega), w64 (by omega) (by omega)]
          rw [hs]
          refine ev_neg (by simp; omega) (ev_pos rfl (ev_of (cost_impl _) ?_))
          have e4 : wrap64 (t - costN kd) = t - costN kd := w64 (by omega) (by omega)
          have e5 : wrap64 (sp + costN kd) = sp + costN kd := w64 (by omega) (by omega)
          refine Ev.step (laws_FnMeter.j1.eq_2 _ _ _ _ _ _ _ _) (ev_neg (by simp [e4]) (ev_pos rfl (ev_of (cost_spec _) ?_)))
          refine ev_neg (by omega) (ev_neg (by omega) ?_)
          rw [e5, e3, e1]
          refine ev_neg (by omega) ?_
          exact ih (i + 1) (t - costN kd) (sp + costN kd) fr (by omega) (by omega) (by omega) (by omega) (by omega) (by omega) (by omega) (by omega)
        · have hs : spendN t kd = (t, false) := by
            unfold spendN; rw [if_neg (by omega), if_pos (by omega)]
          rw [hs]
          refine ev_neg (by simp; omega) (ev_neg (by simp) (ev_pos rfl ?_))
          refine Ev.step (laws_FnMeter.j1.eq_2 _ _ _ _ _ _ _ _) (ev_neg (by simp) (ev_neg (by simp) (ev_neg (by omega) (ev_neg (by omega) ?_))))
          rw [e3, e1]
          refine ev_neg (by omega) ?_
          exact ih (i + 1) t sp fr (by omega) (by omega) ht0 ht1 hsp hfr (by omega) hinv
      · have hs : spendN t kd = (t, false) := by
          unfold spendN; rw [if_pos (by omega)]
        rw [hs]
        refine ev_neg hpos (ev_neg (by simp) (ev_neg (by simp) (ev_pos rfl ?_)))
        refine Ev.step (laws_FnMeter.j1.eq_2 _ _ _ _ _ _ _ _) (ev_neg (by simp) (ev_neg (by simp) (ev_neg (by omega) (ev_neg (by omega) ?_))))
        rw [e3, e1]
        refine ev_neg (by omega) ?_
        exact ih (i + 1) t sp fr (by omega) (by omega) ht0 ht1 hsp hfr (by omega) hinv
theorem FnMeter : laws_FnMeter.Pure := by
  intro l _ _ _
  unfold laws_FnMeter.f laws_big.f
  refine Ev.rounds (r := true) ?_
  refine ev_some ?_
  by_cases h : (l.length : Int) > 1048576
  · exact ev_pos (decide_eq_true h) (ev_now rfl)
  · refine ev_neg (by simpa using h) ?_
    exact meter_loop l 60 0 30 0 0 (by omega) (by omega) (by omega) (by omega) (by omega) (by omega) (by omega) (by omega)

end Go.Proofs.Ytgpcgfmmmnmfhaa.Pure
