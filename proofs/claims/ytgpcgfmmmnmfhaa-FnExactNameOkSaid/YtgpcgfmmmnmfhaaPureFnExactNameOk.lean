/- The program's NameOk returns what the reference's NameOk returns, for all arguments: the statement over numbers and lists, proved. Conditions: none beyond the bounds of the arguments' kinds. -/
import Derived.Test.YtgpcgfmmmnmfhaaPFnExactNameOkx1
import Derived.Test.YtgpcgfmmmnmfhaaMath
import Derived.Test.YtgpcgfmmmnmfhaaStr
namespace Go.Proofs.Ytgpcgfmmmnmfhaa.Pure
open Go.RowKit Go.Proofs.Ytgpcgfmmmnmfhaa.PFnExactNameOk Go.Proofs.YtgpcgfmmmnmfhaaW.PrintWords Go.Proofs.YtgpcgfmmmnmfhaaW.PrintLast Go.Proofs.YtgpcgfmmmnmfhaaW.PrintMore Go.Proofs.Ytgpcgfmmmnmfhaa.Mth Go.Proofs.Ytgpcgfmmmnmfhaa.Str

set_option linter.unusedVariables false
set_option linter.unusedSimpArgs false
/-! ## section within -/
theorem within_eq (a b c : Int) : impl_within.f a b c = some (decide (b ≤ a ∧ a ≤ c)) := by
  unfold impl_within.f
  by_cases h : a ≥ b
  · rw [if_pos h]; have : b ≤ a := h; simp [this]
  · rw [if_neg h]; have : ¬ b ≤ a := h; simp [this]

/-! ## section l1In -/
theorem l1In_eq (a b c : Int) : spec_l1In.f a b c = some (decide (b ≤ a ∧ a ≤ c)) := by
  unfold spec_l1In.f
  by_cases h : a ≥ b
  · rw [if_pos h]; have : b ≤ a := h; simp [this]
  · rw [if_neg h]; have : ¬ b ≤ a := h; simp [this]

/-! ## section nameS -/
theorem byte_spec (x : Int) : spec_l2Byte.f x = some (nameByte x) := by
  unfold spec_l2Byte.f nameByte
  repeat' split
  all_goals (congr 1; apply Bool.eq_iff_iff.2; simp only [beq_iff_eq, decide_eq_true_eq, true_iff, false_iff, iff_true]; omega)
theorem name_spec_loop (s : ByteArray) (hs : s.size ≤ 8) : ∀ (d i : Nat), i + d = s.size → Ev (fun k => spec_NameOk.l0 k s (i : Int)) (((bytesOf s).drop i).all nameByte) := by
  intro d
  induction d with
  | zero =>
    intro i hi
    rw [all_end s _ i (by omega)]
    exact Ev.step (spec_NameOk.l0.eq_2 _ _) (ev_neg (by omega) (ev_now rfl))
  | succ d ih =>
    intro i hi
    rw [all_drop s _ i (by omega)]
    refine Ev.step (spec_NameOk.l0.eq_2 _ _) (ev_pos (by omega) (ev_pos (by omega) (ev_of (byte_spec _) ?_)))
    have e3 : wrap64 ((i : Int) + 1) = ((i + 1 : Nat) : Int) := w64 (by omega) (by omega)
    rw [e3]
    by_cases h : nameByte (bt s (i : Int)) = true
    · rw [h, Bool.true_and]
      exact ev_pos rfl (ih (i + 1) (by omega))
    · have h' : nameByte (bt s (i : Int)) = false := by simpa using h
      rw [h', Bool.false_and]
      exact ev_neg (by simp) (ev_now rfl)
theorem name_spec (s : ByteArray) : Ev (fun k => spec_NameOk.f k s) (nameOkL (bytesOf s)) := by
  unfold spec_NameOk.f nameOkL
  rw [bytesOf_length]
  by_cases h1 : 1 ≤ s.size ∧ s.size ≤ 8
  · refine ev_of (l1In_eq _ _ _) (ev_pos (by simp; omega) ?_)
    have e1 := toList_iff s [46]
    have e2 := toList_iff s [46, 46]
    have m1 : ([46] : List UInt8).map (fun b => (b.toNat : Int)) = [46] := rfl
    have m2 : ([46, 46] : List UInt8).map (fun b => (b.toNat : Int)) = [46, 46] := rfl
    rw [m1] at e1; rw [m2] at e2
    by_cases c1 : bytesOf s = [46]
    · refine ev_pos (e1.2 c1) ?_
      have : decide (1 ≤ s.size ∧ s.size ≤ 8 ∧ bytesOf s ≠ [46] ∧ bytesOf s ≠ [46, 46]) = false := by simp [c1]
      rw [this, Bool.false_and]
      exact Ev.step (spec_NameOk.j0.eq_2 _ _) (ev_pos rfl (ev_now rfl))
    · refine ev_neg (fun h => c1 (e1.1 h)) ?_
      by_cases c2 : bytesOf s = [46, 46]
      · have : decide (1 ≤ s.size ∧ s.size ≤ 8 ∧ bytesOf s ≠ [46] ∧ bytesOf s ≠ [46, 46]) = false := by simp [c2]
        rw [this, Bool.false_and]
        exact Ev.step (spec_NameOk.j0.eq_2 _ _) (ev_pos (beq_iff_eq.2 (e2.2 c2)) (ev_now rfl))
      · have : decide (1 ≤ s.size ∧ s.size ≤ 8 ∧ bytesOf s ≠ [46] ∧ bytesOf s ≠ [46, 46]) = true := by simp [c1, c2, h1]
        rw [this, Bool.true_and]
        refine Ev.step (spec_NameOk.j0.eq_2 _ _) (ev_neg (fun h => c2 (e2.1 (beq_iff_eq.1 h))) ?_)
        have := name_spec_loop s h1.2 s.size 0 (by omega)
        simpa using this
  · have : decide (1 ≤ s.size ∧ s.size ≤ 8 ∧ bytesOf s ≠ [46] ∧ bytesOf s ≠ [46, 46]) = false := by
      apply decide_eq_false; rintro ⟨a, b, _⟩; exact h1 ⟨a, b⟩
    rw [this, Bool.false_and]
    refine ev_of (l1In_eq _ _ _) (ev_neg (by simp; omega) ?_)
    exact Ev.step (spec_NameOk.j0.eq_2 _ _) (ev_pos rfl (ev_now rfl))

/-! ## section nameI -/
theorem byte_impl (x : Int) : impl_isNameByte.f x = some (nameByte x) := by
  unfold impl_isNameByte.f nameByte
  repeat' split
  all_goals (congr 1; apply Bool.eq_iff_iff.2; simp only [beq_iff_eq, decide_eq_true_eq, true_iff, false_iff, iff_true]; omega)
theorem name_impl_loop (s : ByteArray) (hs : s.size ≤ 140737488351232) : ∀ (d i : Nat), i + d = s.size → Ev (fun k => impl_NameOk.l0 k s (s.size : Int) (i : Int)) (decide (1 ≤ s.size ∧ s.size ≤ 8 ∧ bytesOf s ≠ [46] ∧ bytesOf s ≠ [46, 46]) && ((bytesOf s).drop i).all nameByte) := by
  intro d
  induction d with
  | zero =>
    intro i hi
    rw [all_end s _ i (by omega), Bool.and_true]
    refine Ev.step (impl_NameOk.l0.eq_2 _ _ _) (ev_neg (by omega) (ev_of (within_eq _ _ _) ?_))
    have e1 := toList_iff s [46]
    have e2 := toList_iff s [46, 46]
    have m1 : ([46] : List UInt8).map (fun b => (b.toNat : Int)) = [46] := rfl
    have m2 : ([46, 46] : List UInt8).map (fun b => (b.toNat : Int)) = [46, 46] := rfl
    rw [m1] at e1; rw [m2] at e2
    by_cases h1 : 1 ≤ s.size ∧ s.size ≤ 8
    · refine ev_pos (by simp; omega) ?_
      by_cases c1 : bytesOf s = [46]
      · refine ev_pos (e1.2 c1) (ev_now ?_)
        simp [c1]
      · refine ev_neg (fun h => c1 (e1.1 h)) (ev_now ?_)
        congr 1
        apply Bool.eq_iff_iff.2
        simp only [bne_iff_ne, ne_eq, decide_eq_true_eq]
        constructor
        · intro h; exact ⟨h1.1, h1.2, c1, fun h' => h (e2.2 h')⟩
        · rintro ⟨_, _, _, h⟩ h'; exact h (e2.1 h')
    · refine ev_neg (by simp; omega) (ev_now ?_)
      congr 1; symm
      apply decide_eq_false; rintro ⟨a, b, _⟩; exact h1 ⟨a, b⟩
  | succ d ih =>
    intro i hi
    rw [all_drop s _ i (by omega)]
    refine Ev.step (impl_NameOk.l0.eq_2 _ _ _) (ev_pos (by omega) (ev_pos (by omega) (ev_pos (by omega) (ev_of (byte_impl _) ?_))))
    have e3 : wrap64 ((i : Int) + 1) = ((i + 1 : Nat) : Int) := w64 (by omega) (by omega)
    rw [e3]
    by_cases h : nameByte (bt s (i : Int)) = true
    · rw [h, Bool.true_and]
      exact ev_pos rfl (ih (i + 1) (by omega))
    · have h' : nameByte (bt s (i : Int)) = false := by simpa using h
      rw [h', Bool.false_and, Bool.and_false]
      exact ev_neg (by simp) (ev_now rfl)
theorem name_impl (s : ByteArray) (hs : s.size ≤ 140737488351232) : Ev (fun k => impl_NameOk.f k s) (nameOkL (bytesOf s)) := by
  unfold impl_NameOk.f nameOkL
  rw [bytesOf_length]
  have := name_impl_loop s hs s.size 0 (by omega)
  simpa using this

/-! ## section FnExactNameOk -/
theorem FnExactNameOk : laws_FnExactNameOk.Pure := by
  intro s hs
  unfold laws_FnExactNameOk.f
  refine Ev.rounds (r := true) ?_
  by_cases h : (s.size : Int) > 1048576
  · exact ev_pos h (ev_now rfl)
  · refine ev_neg h ?_
    exact Ev.bind (name_spec s) (Ev.bind (name_impl s hs) (ev_neg (by simp) (ev_now rfl)))

end Go.Proofs.Ytgpcgfmmmnmfhaa.Pure
