/- The program's PathOk returns what the reference's PathOk returns, for all arguments: the statement over numbers and lists, proved. Conditions: none beyond the bounds of the arguments' kinds. -/
import Derived.Test.YtgpcgfmmmnmfhaaPFnExactPathOkx2
import Derived.Test.YtgpcgfmmmnmfhaaMath
import Derived.Test.YtgpcgfmmmnmfhaaStr
namespace Go.Proofs.Ytgpcgfmmmnmfhaa.Pure
open Go.RowKit Go.Proofs.Ytgpcgfmmmnmfhaa.PFnExactPathOk Go.Proofs.YtgpcgfmmmnmfhaaW.PrintWords Go.Proofs.YtgpcgfmmmnmfhaaW.PrintLast Go.Proofs.YtgpcgfmmmnmfhaaW.PrintMore Go.Proofs.Ytgpcgfmmmnmfhaa.Mth Go.Proofs.Ytgpcgfmmmnmfhaa.Str

set_option linter.unusedVariables false
set_option linter.unusedSimpArgs false
/-! ## section within -/
theorem within_eq (a b c : Int) : impl_within.f a b c = some (decide (b ≤ a ∧ a ≤ c)) := by
  unfold impl_within.f
  by_cases h : a ≥ b
  · rw [if_pos h]; have : b ≤ a := h; simp [this]
  · rw [if_neg h]; have : ¬ b ≤ a := h; simp [this]

/-! ## section l1In -/
theorem l1In_eq (a b c : Int) : spec_l1In.f a b c = some (decide (b ≤ a ∧ a ≤ c)) := by
  unfold spec_l1In.f
  by_cases h : a ≥ b
  · rw [if_pos h]; have : b ≤ a := h; simp [this]
  · rw [if_neg h]; have : ¬ b ≤ a := h; simp [this]

/-! ## section pathS -/
theorem byte_spec (x : Int) : spec_l2Byte.f x = some (nameByte x) := by
  unfold spec_l2Byte.f nameByte
  repeat' split
  all_goals (congr 1; apply Bool.eq_iff_iff.2; simp only [beq_iff_eq, decide_eq_true_eq, true_iff, false_iff, iff_true]; omega)
theorem path_spec_loop (s : ByteArray) (hs : s.size ≤ 60) : ∀ (d i : Nat), i + d = s.size → Ev (fun k => spec_PathOk.l0 k s (i : Int)) (((bytesOf s).drop i).all slashByte) := by
  intro d
  induction d with
  | zero =>
    intro i hi
    rw [all_end s _ i (by omega)]
    exact Ev.step (spec_PathOk.l0.eq_2 _ _) (ev_neg (by omega) (ev_now rfl))
  | succ d ih =>
    intro i hi
    rw [all_drop s _ i (by omega)]
    refine Ev.step (spec_PathOk.l0.eq_2 _ _) (ev_pos (by omega) (ev_pos (by omega) ?_))
    have e3 : wrap64 ((i : Int) + 1) = ((i + 1 : Nat) : Int) := w64 (by omega) (by omega)
    rw [e3]
    unfold slashByte
    by_cases h47 : bt s (i : Int) = 47
    · refine ev_pos h47 ?_
      rw [h47]
      have := ih (i + 1) (by omega)
      unfold slashByte at this
      simpa using this
    · refine ev_neg h47 (ev_of (byte_spec _) ?_)
      rw [decide_eq_false h47, Bool.false_or]
      by_cases h : nameByte (bt s (i : Int)) = true
      · rw [h, Bool.true_and]
        exact ev_pos rfl (ih (i + 1) (by omega))
      · have h' : nameByte (bt s (i : Int)) = false := by simpa using h
        rw [h', Bool.false_and]
        exact ev_neg (by simp) (ev_now rfl)
theorem path_spec (s : ByteArray) : Ev (fun k => spec_PathOk.f k s) (pathOkL (bytesOf s)) := by
  unfold spec_PathOk.f pathOkL targetL
  rw [bytesOf_length, ← bt_get s 0]
  by_cases h1 : 1 ≤ s.size ∧ s.size ≤ 60
  · refine ev_of (l1In_eq _ _ _) (ev_pos (by simp; omega) (ev_pos (by omega) ?_))
    rw [decide_eq_true h1, Bool.true_and]
    by_cases h47 : bt s 0 = 47
    · refine Ev.step (spec_PathOk.j0.eq_2 _ _) (ev_neg (by simp [h47]) ?_)
      have := path_spec_loop s h1.2 s.size 0 (by omega)
      simpa [h47] using this
    · refine Ev.step (spec_PathOk.j0.eq_2 _ _) (ev_pos (by simp [h47]) (ev_now ?_))
      simp [h47]
  · refine ev_of (l1In_eq _ _ _) (ev_neg (by simp; omega) ?_)
    rw [decide_eq_false h1, Bool.false_and, Bool.false_and]
    exact Ev.step (spec_PathOk.j0.eq_2 _ _) (ev_pos rfl (ev_now rfl))

/-! ## section pathI -/
theorem byte_impl (x : Int) : impl_isNameByte.f x = some (nameByte x) := by
  unfold impl_isNameByte.f nameByte
  repeat' split
  all_goals (congr 1; apply Bool.eq_iff_iff.2; simp only [beq_iff_eq, decide_eq_true_eq, true_iff, false_iff, iff_true]; omega)
theorem target_impl_loop (s : ByteArray) (hs : s.size ≤ 140737488351232) : ∀ (d i : Nat), i + d = s.size → Ev (fun k => impl_isTarget.l0 k s (s.size : Int) (i : Int)) (decide (1 ≤ s.size ∧ s.size ≤ 60) && ((bytesOf s).drop i).all slashByte) := by
  intro d
  induction d with
  | zero =>
    intro i hi
    rw [all_end s _ i (by omega), Bool.and_true]
    refine Ev.step (impl_isTarget.l0.eq_2 _ _ _) (ev_neg (by omega) (ev_of (within_eq _ _ _) (ev_now ?_)))
    congr 1
    apply Bool.eq_iff_iff.2
    simp only [decide_eq_true_eq]; omega
  | succ d ih =>
    intro i hi
    rw [all_drop s _ i (by omega)]
    refine Ev.step (impl_isTarget.l0.eq_2 _ _ _) (ev_pos (by omega) (ev_pos (by omega) (ev_pos (by omega) ?_)))
    have e3 : wrap64 ((i : Int) + 1) = ((i + 1 : Nat) : Int) := w64 (by omega) (by omega)
    rw [e3]
    unfold slashByte
    by_cases h47 : bt s (i : Int) = 47
    · refine ev_pos h47 ?_
      rw [h47]
      have := ih (i + 1) (by omega)
      unfold slashByte at this
      simpa using this
    · refine ev_neg h47 (ev_of (byte_impl _) ?_)
      rw [decide_eq_false h47, Bool.false_or]
      by_cases h : nameByte (bt s (i : Int)) = true
      · rw [h, Bool.true_and]
        exact ev_pos rfl (ih (i + 1) (by omega))
      · have h' : nameByte (bt s (i : Int)) = false := by simpa using h
        rw [h', Bool.false_and, Bool.and_false]
        exact ev_neg (by simp) (ev_now rfl)
theorem target_impl (s : ByteArray) (hs : s.size ≤ 140737488351232) : Ev (fun k => impl_isTarget.f k s) (targetL (bytesOf s)) := by
  unfold impl_isTarget.f targetL
  rw [bytesOf_length]
  have := target_impl_loop s hs s.size 0 (by omega)
  simpa using this
theorem path_impl (s : ByteArray) (hs : s.size ≤ 140737488351232) : Ev (fun k => impl_PathOk.f k s) (pathOkL (bytesOf s)) := by
  unfold impl_PathOk.f pathOkL
  refine Ev.bind (target_impl s hs) ?_
  by_cases h : targetL (bytesOf s) = true
  · refine ev_pos h (ev_pos ?_ (ev_now ?_))
    · unfold targetL at h
      simp [bytesOf_length] at h
      omega
    · rw [← bt_get s 0, h, Bool.true_and]
      congr 1
  · have h' : targetL (bytesOf s) = false := by simpa using h
    refine ev_neg h (ev_now ?_)
    rw [h', Bool.false_and]

/-! ## section FnExactPathOk -/
theorem FnExactPathOk : laws_FnExactPathOk.Pure := by
  intro s hs
  unfold laws_FnExactPathOk.f
  refine Ev.rounds (r := true) ?_
  by_cases h : (s.size : Int) > 1048576
  · exact ev_pos h (ev_now rfl)
  · refine ev_neg h ?_
    exact Ev.bind (path_spec s) (Ev.bind (path_impl s hs) (ev_neg (by simp) (ev_now rfl)))

end Go.Proofs.Ytgpcgfmmmnmfhaa.Pure
