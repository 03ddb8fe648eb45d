/- The program's CallOk returns what the reference's CallOk returns, for all arguments: the statement over numbers and lists, proved. Conditions: none beyond the bounds of the arguments' kinds. -/
import Derived.Test.YtgpcgfmmmnmfhaaStmFnExactCallOk
import Derived.Test.YtgpcgfmmmnmfhaaMath
import Derived.Test.YtgpcgfmmmnmfhaaStr
namespace Go.Proofs.Ytgpcgfmmmnmfhaa.Pure
open Go.RowKit Go.Proofs.Ytgpcgfmmmnmfhaa.PFnExactCallOk Go.Proofs.YtgpcgfmmmnmfhaaW.PrintWords Go.Proofs.YtgpcgfmmmnmfhaaW.PrintLast Go.Proofs.YtgpcgfmmmnmfhaaW.PrintMore Go.Proofs.Ytgpcgfmmmnmfhaa.Mth Go.Proofs.Ytgpcgfmmmnmfhaa.Str

set_option linter.unusedVariables false
set_option linter.unusedSimpArgs false
/-! ## section within -/
theorem within_eq (a b c : Int) : impl_within.f a b c = some (decide (b ≤ a ∧ a ≤ c)) := by
  unfold impl_within.f
  by_cases h : a ≥ b
  · rw [if_pos h]; have : b ≤ a := h; simp [this]
  · rw [if_neg h]; have : ¬ b ≤ a := h; simp [this]

/-! ## section l1In -/
theorem l1In_eq (a b c : Int) : spec_l1In.f a b c = some (decide (b ≤ a ∧ a ≤ c)) := by
  unfold spec_l1In.f
  by_cases h : a ≥ b
  · rw [if_pos h]; have : b ≤ a := h; simp [this]
  · rw [if_neg h]; have : ¬ b ≤ a := h; simp [this]

/-! ## section callokD -/
/-- is a call right -/
def CallP (kd : Int) (path dst : ByteArray) (n m : Int) (data : ByteArray) : Prop :=
  (1 ≤ kd ∧ kd ≤ 22) ∧ path.size ≤ 60 ∧ dst.size ≤ 60 ∧ data.size ≤ 64 ∧ (-1000000 ≤ n ∧ n ≤ 1000000) ∧ (-1000000 ≤ m ∧ m ≤ 1000000) ∧ (dst.toList = [] ∨ kd = 9 ∨ kd = 10 ∨ kd = 12) ∧ (data.toList = [] ∨ kd = 5 ∨ kd = 6)
instance (kd : Int) (path dst : ByteArray) (n m : Int) (data : ByteArray) : Decidable (CallP kd path dst n m data) := by unfold CallP; infer_instance
def callB (kd : Int) (path dst : ByteArray) (n m : Int) (data : ByteArray) : Bool := decide (CallP kd path dst n m data)
theorem callB_yes {kd : Int} {path dst : ByteArray} {n m : Int} {data : ByteArray} (h : CallP kd path dst n m data) : callB kd path dst n m data = true := decide_eq_true h
theorem callB_no {kd : Int} {path dst : ByteArray} {n m : Int} {data : ByteArray} (h : ¬ CallP kd path dst n m data) : callB kd path dst n m data = false := decide_eq_false h
theorem szcall (kd : Int) (path dst : ByteArray) (n m : Int) (data : ByteArray) : ∃ v, laws_szCall.f kd path dst n m data 1048576 = some v := by
  unfold laws_szCall.f
  repeat' split
  all_goals exact ⟨_, rfl⟩

/-! ## section callokS -/
theorem callok_spec (kd : Int) (path dst : ByteArray) (n m : Int) (data : ByteArray) : Ev (fun k => spec_CallOk.f k kd path dst n m data) (callB kd path dst n m data) := by
  refine ⟨2, fun k hk => ?_⟩
  obtain ⟨k, rfl⟩ : ∃ j, k = j + 2 := ⟨k - 2, by omega⟩
  unfold spec_CallOk.f
  simp only [l1In_eq, Option.bind_some, spec_CallOk.j0]
  by_cases h : CallP kd path dst n m data
  · rw [callB_yes h]
    unfold CallP at h
    grind
  · rw [callB_no h]
    unfold CallP at h
    grind

/-! ## section callokI -/
theorem callok_impl (kd : Int) (path dst : ByteArray) (n m : Int) (data : ByteArray) : Ev (fun k => impl_CallOk.f k kd path dst n m data) (callB kd path dst n m data) := by
  refine ⟨4, fun k hk => ?_⟩
  obtain ⟨k, rfl⟩ : ∃ j, k = j + 4 := ⟨k - 4, by omega⟩
  unfold impl_CallOk.f
  simp only [within_eq, Option.bind_some, impl_CallOk.j0, impl_CallOk.j1, impl_CallOk.j2]
  by_cases h : CallP kd path dst n m data
  · rw [callB_yes h]
    unfold CallP at h
    grind
  · rw [callB_no h]
    unfold CallP at h
    grind

/-! ## section FnExactCallOk -/
theorem FnExactCallOk : laws_FnExactCallOk.Pure := by
  intro kd path dst n m data _ _ _ _ _ _
  refine Ev.rounds (r := true) ?_
  unfold laws_FnExactCallOk.f
  obtain ⟨v, hv⟩ := szcall kd path dst n m data
  refine ev_of hv ?_
  by_cases h : v < 0
  · exact ev_pos h (ev_now rfl)
  · refine ev_neg h ?_
    unfold laws_toCall.f
    refine ev_some (Ev.bind (callok_spec _ _ _ _ _ _) (ev_some (Ev.bind (callok_impl _ _ _ _ _ _) (ev_neg (by simp) (ev_now rfl)))))

end Go.Proofs.Ytgpcgfmmmnmfhaa.Pure
