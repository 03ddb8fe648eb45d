/- The program's ReadFixed returns what the reference's ReadFixed returns, for all arguments: the statement over numbers and lists, proved. Conditions: none beyond the bounds of the arguments' kinds. -/
import Derived.Test.YtfcohdnkocoleaaPFnExactReadFixedx1
import Derived.Test.YtfcohdnkocoleaaMath
import Derived.Test.YtfcohdnkocoleaaStr
namespace Go.Proofs.Ytfcohdnkocoleaa.Pure
open Go.RowKit Go.Proofs.Ytfcohdnkocoleaa.PFnExactReadFixed Go.Proofs.YtfcohdnkocoleaaW.PrintWords Go.Proofs.YtfcohdnkocoleaaW.PrintLast Go.Proofs.YtfcohdnkocoleaaW.PrintMore Go.Proofs.Ytfcohdnkocoleaa.Mth Go.Proofs.Ytfcohdnkocoleaa.Str

set_option linter.unusedVariables false
set_option linter.unusedSimpArgs false
/-! ## section within -/
theorem within_eq (a b c : Int) : impl_within.f a b c = some (decide (b ≤ a ∧ a ≤ c)) := by
  unfold impl_within.f
  by_cases h : a ≥ b
  · rw [if_pos h]; have : b ≤ a := h; simp [this]
  · rw [if_neg h]; have : ¬ b ≤ a := h; simp [this]

/-! ## section l1In -/
theorem l1In_eq (a b c : Int) : spec_l1In.f a b c = some (decide (b ≤ a ∧ a ≤ c)) := by
  unfold spec_l1In.f
  by_cases h : a ≥ b
  · rw [if_pos h]; have : b ≤ a := h; simp [this]
  · rw [if_neg h]; have : ¬ b ≤ a := h; simp [this]

/-! ## section readfixedS -/
/-- what is read of a Fixed -/
def readFixN (l : List Int) (w : Int) : Int × Bool := if 1 ≤ w ∧ w ≤ 7 ∧ w ≤ (l.length : Int) then (fixN (l.take w.toNat), true) else (0, false)
theorem fixN_le (l : List Int) (hl : ∀ x ∈ l, 0 ≤ x ∧ x ≤ 255) (k : Nat) (hk : l.length = k) (h6 : k ≤ 6) : 0 ≤ fixN l ∧ fixN l ≤ 281474976710655 := by
  have := fixN_range k l hl hk
  have hp : (256 : Int) ^ k ≤ 281474976710656 := by
    have h7 : (256 : Nat) ^ k ≤ 256 ^ 6 := Nat.pow_le_pow_right (by decide) h6
    have e42 : (256 : Nat) ^ 6 = 281474976710656 := by decide
    rw [e42] at h7
    have : (256 : Int) ^ k = ((256 ^ k : Nat) : Int) := by simp
    omega
  omega
theorem readfixed_spec_loop (s : ByteArray) (w : Nat) (hw : w ≤ 7) (hs : w ≤ s.size) : ∀ (d i : Nat), i + d = w → Ev (fun k => spec_ReadFixed.l0 k s (w : Int) (fixN ((bytesOf s).take i)) (i : Int)) (fixN ((bytesOf s).take w), true) := by
  intro d
  induction d with
  | zero =>
    intro i hi
    obtain rfl : i = w := by omega
    exact Ev.step (spec_ReadFixed.l0.eq_2 _ _ _ _) (ev_neg (by omega) (ev_now rfl))
  | succ d ih =>
    intro i hi
    refine Ev.step (spec_ReadFixed.l0.eq_2 _ _ _ _) (ev_pos (by omega) (ev_pos (by omega) (ev_pos (by omega) ?_)))
    have hr := bt_range s (i : Int)
    have hb := fixN_le ((bytesOf s).take i) (fun y hy => bytesOf_range s y (List.mem_of_mem_take hy)) i (by rw [List.length_take, bytesOf_length]; omega) (by omega)
    have e1 : wrap64 (wrap64 (fixN ((bytesOf s).take i) * 256) + wrap64 (bt s (i : Int))) = fixN ((bytesOf s).take (i + 1)) := by
      rw [bytesOf_take_snoc s i (by omega), fixN_snoc]
      rw [w64 (n := fixN ((bytesOf s).take i) * 256) (by omega) (by omega), w64 (n := bt s (i : Int)) (by omega) (by omega)]
      exact w64 (by omega) (by omega)
    have e3 : wrap64 ((i : Int) + 1) = ((i + 1 : Nat) : Int) := w64 (by omega) (by omega)
    rw [e1, e3]
    exact ih (i + 1) (by omega)
theorem readfixed_spec (s : ByteArray) (w : Int) : Ev (fun k => spec_ReadFixed.f k s w) (readFixN (bytesOf s) w) := by
  unfold spec_ReadFixed.f
  by_cases hw : 1 ≤ w ∧ w ≤ 7
  · refine ev_of (l1In_eq _ _ _) (ev_pos (by simpa using hw) ?_)
    unfold readFixN
    rw [bytesOf_length]
    by_cases hs : w ≤ (s.size : Int)
    · rw [if_pos ⟨hw.1, hw.2, hs⟩]
      obtain ⟨n, rfl⟩ : ∃ n : Nat, w = n := ⟨w.toNat, by omega⟩
      refine Ev.step (spec_ReadFixed.j0.eq_2 _ _ _) (ev_neg (by simp; omega) ?_)
      have := readfixed_spec_loop s n (by omega) (by omega) n 0 (by omega)
      simpa [fixN] using this
    · rw [if_neg (by omega)]
      exact Ev.step (spec_ReadFixed.j0.eq_2 _ _ _) (ev_pos (by simp; omega) (ev_now rfl))
  · refine ev_of (l1In_eq _ _ _) (ev_neg (by simpa using hw) ?_)
    unfold readFixN
    rw [if_neg (by omega)]
    exact Ev.step (spec_ReadFixed.j0.eq_2 _ _ _) (ev_pos rfl (ev_now rfl))

/-! ## section readfixedI -/
theorem readfixed_impl_loop (s : ByteArray) (w : Nat) (hw : w ≤ 7) (hs : w ≤ s.size) : ∀ (d i : Nat), i + d = w → Ev (fun k => impl_ReadFixed.l0 k s (fixN ((bytesOf s).take i)) (w : Int) (i : Int)) (fixN ((bytesOf s).take w), true) := by
  intro d
  induction d with
  | zero =>
    intro i hi
    obtain rfl : i = w := by omega
    exact Ev.step (impl_ReadFixed.l0.eq_2 _ _ _ _) (ev_neg (by omega) (ev_now rfl))
  | succ d ih =>
    intro i hi
    refine Ev.step (impl_ReadFixed.l0.eq_2 _ _ _ _) (ev_pos (by omega) (ev_pos (by omega) (ev_pos (by omega) ?_)))
    have hr := bt_range s (i : Int)
    have hb := fixN_le ((bytesOf s).take i) (fun y hy => bytesOf_range s y (List.mem_of_mem_take hy)) i (by rw [List.length_take, bytesOf_length]; omega) (by omega)
    have e1 : Go.bits .or .i64 (wrap64 (fixN ((bytesOf s).take i) * 256)) (wrap64 (bt s (i : Int))) = fixN ((bytesOf s).take (i + 1)) := by
      rw [bytesOf_take_snoc s i (by omega), fixN_snoc]
      rw [w64 (n := fixN ((bytesOf s).take i) * 256) (by omega) (by omega), w64 (n := bt s (i : Int)) (by omega) (by omega)]
      exact or_join 8 _ _ (by omega) (by omega) (by omega) (by omega) (by omega) (by omega)
    have e3 : wrap64 ((i : Int) + 1) = ((i + 1 : Nat) : Int) := w64 (by omega) (by omega)
    rw [e1, e3]
    exact ih (i + 1) (by omega)
theorem readfixed_impl (s : ByteArray) (w : Int) : Ev (fun k => impl_ReadFixed.f k s w) (readFixN (bytesOf s) w) := by
  unfold impl_ReadFixed.f
  by_cases hw : 1 ≤ w ∧ w ≤ 7
  · refine ev_of (within_eq _ _ _) (ev_pos (by simpa using hw) ?_)
    unfold readFixN
    rw [bytesOf_length]
    by_cases hs : w ≤ (s.size : Int)
    · rw [if_pos ⟨hw.1, hw.2, hs⟩]
      obtain ⟨n, rfl⟩ : ∃ n : Nat, w = n := ⟨w.toNat, by omega⟩
      refine Ev.step (impl_ReadFixed.j0.eq_2 _ _ _) (ev_neg (by simp; omega) ?_)
      have := readfixed_impl_loop s n (by omega) (by omega) n 0 (by omega)
      simpa [fixN] using this
    · rw [if_neg (by omega)]
      exact Ev.step (impl_ReadFixed.j0.eq_2 _ _ _) (ev_pos (by simp; omega) (ev_now rfl))
  · refine ev_of (within_eq _ _ _) (ev_neg (by simpa using hw) ?_)
    unfold readFixN
    rw [if_neg (by omega)]
    exact Ev.step (impl_ReadFixed.j0.eq_2 _ _ _) (ev_pos rfl (ev_now rfl))

/-! ## section FnExactReadFixed -/
theorem FnExactReadFixed : laws_FnExactReadFixed.Pure := by
  intro s w hs hw
  unfold laws_FnExactReadFixed.f
  refine Ev.rounds (r := true) ?_
  by_cases h : (s.size : Int) > 1048576
  · exact ev_pos h (ev_now rfl)
  · refine ev_neg h ?_
    exact Ev.bind (readfixed_spec s w) (Ev.bind (readfixed_impl s w) (ev_pos rfl (ev_neg (by simp) (ev_now rfl))))

end Go.Proofs.Ytfcohdnkocoleaa.Pure
