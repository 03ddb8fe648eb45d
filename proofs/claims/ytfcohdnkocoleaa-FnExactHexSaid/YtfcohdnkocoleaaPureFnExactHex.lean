/- The program's Hex returns what the reference's Hex returns, for all arguments: the statement over numbers and lists, proved. Conditions: none beyond the bounds of the arguments' kinds. -/
import Derived.Test.YtfcohdnkocoleaaPFnExactHexx1
import Derived.Test.YtfcohdnkocoleaaMath
import Derived.Test.YtfcohdnkocoleaaStr
namespace Go.Proofs.Ytfcohdnkocoleaa.Pure
open Go.RowKit Go.Proofs.Ytfcohdnkocoleaa.PFnExactHex Go.Proofs.YtfcohdnkocoleaaW.PrintWords Go.Proofs.YtfcohdnkocoleaaW.PrintLast Go.Proofs.YtfcohdnkocoleaaW.PrintMore Go.Proofs.Ytfcohdnkocoleaa.Mth Go.Proofs.Ytfcohdnkocoleaa.Str

set_option linter.unusedVariables false
set_option linter.unusedSimpArgs false
/-! ## section hexS -/
theorem digit_eq (n : Int) (h0 : 0 ≤ n) (h1 : n < 16) : bt (⟨#[48, 49, 50, 51, 52, 53, 54, 55, 56, 57, 97, 98, 99, 100, 101, 102]⟩ : ByteArray) n = hexC n := by
  obtain ⟨m, rfl⟩ := Int.eq_ofNat_of_zero_le h0
  have : m < 16 := by omega
  have h : ∀ k : Fin 16, bt (⟨#[48, 49, 50, 51, 52, 53, 54, 55, 56, 57, 97, 98, 99, 100, 101, 102]⟩ : ByteArray) (k.val : Int) = hexC (k.val : Int) := by decide
  exact h ⟨m, this⟩
theorem l1Digit_eq (n : Int) (h0 : 0 ≤ n) (h1 : n < 16) : spec_l1Digit.f n = some (hexC n) := by
  unfold spec_l1Digit.f
  rw [if_pos h0, if_pos h1, digit_eq n h0 h1]
theorem hex_spec_loop (s : ByteArray) (hs : s.size ≤ 1048576) : ∀ (d i : Nat), i + d = s.size → Ev (fun k => spec_Hex.l0 k s (hexL ((bytesOf s).take i)) (i : Int)) (strOfNums (hexL (bytesOf s))) := by
  intro d
  induction d with
  | zero =>
    intro i hi
    refine Ev.step (spec_Hex.l0.eq_2 _ _ _) (ev_neg (by omega) (ev_now ?_))
    rw [List.take_of_length_le (by rw [bytesOf_length]; omega)]
  | succ d ih =>
    intro i hi
    have hr := bt_range s (i : Int)
    refine Ev.step (spec_Hex.l0.eq_2 _ _ _) (ev_pos (by omega) (ev_pos (by omega) ?_))
    have e1 : wrap64 ((wrap64 (bt s (i : Int))).tdiv 16) = bt s (i : Int) / 16 := by
      rw [w64 (n := bt s (i : Int)) (by omega) (by omega), Int.tdiv_eq_ediv_of_nonneg hr.1]
      exact w64 (by omega) (by omega)
    have e2 : (wrap64 (bt s (i : Int))).tmod 16 = bt s (i : Int) % 16 := by
      rw [w64 (n := bt s (i : Int)) (by omega) (by omega), Int.tmod_eq_emod_of_nonneg hr.1]
    rw [e1, e2]
    refine ev_of (l1Digit_eq _ (by omega) (by omega)) (ev_of (l1Digit_eq _ (by omega) (by omega)) (ev_some (ev_pos ?_ ?_)))
    · rw [hexL_len, List.length_take]; simp; omega
    · rw [← hexL_snoc, ← bytesOf_take_snoc s i (by omega)]
      have e3 : wrap64 ((i : Int) + 1) = ((i + 1 : Nat) : Int) := w64 (by omega) (by omega)
      rw [e3]
      exact ih (i + 1) (by omega)
theorem hex_spec (s : ByteArray) (hs : s.size ≤ 1048576) : Ev (fun k => spec_Hex.f k s) (strOfNums (hexL (bytesOf s))) := by
  unfold spec_Hex.f
  exact hex_spec_loop s hs s.size 0 (by omega)

/-! ## section hexI -/
theorem wraps_u8' (n : Int) (h₀ : 0 ≤ n) (h₁ : n < 2 ^ 8) : IntKind.u8.wrap n = n := by rw [IntKind.wrap_u8]; omega
theorem and15_u8 (x : Int) (h0 : 0 ≤ x) (h1 : x < 256) : Go.bits .and .u8 x 15 = x % 16 := by
  have := Go.bits_mask .u8 8 (by decide) wraps_u8' 4 (by decide) x h0 h1
  simpa using this
theorem hex_impl_loop (s : ByteArray) (hs : s.size ≤ 1048576) : ∀ (d i : Nat), i + d = s.size → Ev (fun k => impl_Hex.l0 k s (hexL ((bytesOf s).take i)) (s.size : Int) (i : Int)) (strOfNums (hexL (bytesOf s))) := by
  intro d
  induction d with
  | zero =>
    intro i hi
    refine Ev.step (impl_Hex.l0.eq_2 _ _ _ _) (ev_neg (by omega) (ev_now ?_))
    rw [List.take_of_length_le (by rw [bytesOf_length]; omega)]
  | succ d ih =>
    intro i hi
    have hr := bt_range s (i : Int)
    have e2 : Go.bits .and .u8 (bt s (i : Int)) 15 = bt s (i : Int) % 16 := and15_u8 _ hr.1 (by omega)
    refine Ev.step (impl_Hex.l0.eq_2 _ _ _ _) (ev_pos (by omega) (ev_pos (by omega) (ev_pos (by omega) (ev_pos (by omega) (ev_pos (by omega) ?_)))))
    rw [e2]
    refine ev_pos (by omega) (ev_pos (by omega) (ev_some (ev_pos ?_ ?_)))
    · rw [hexL_len, List.length_take]; simp; omega
    · rw [digit_eq _ (by omega) (by omega), digit_eq _ (by omega) (by omega), ← hexL_snoc, ← bytesOf_take_snoc s i (by omega)]
      have e3 : wrap64 ((i : Int) + 1) = ((i + 1 : Nat) : Int) := w64 (by omega) (by omega)
      rw [e3]
      exact ih (i + 1) (by omega)
theorem hex_impl (s : ByteArray) (hs : s.size ≤ 1048576) : Ev (fun k => impl_Hex.f k s) (strOfNums (hexL (bytesOf s))) := by
  unfold impl_Hex.f
  exact hex_impl_loop s hs s.size 0 (by omega)

/-! ## section FnExactHex -/
theorem FnExactHex : laws_FnExactHex.Pure := by
  intro s hs
  unfold laws_FnExactHex.f
  refine Ev.rounds (r := true) ?_
  by_cases h : (s.size : Int) > 1048576
  · exact ev_pos h (ev_now rfl)
  · refine ev_neg h ?_
    exact Ev.bind (hex_spec s (by omega)) (Ev.bind (hex_impl s (by omega)) (ev_pos rfl (ev_now rfl)))

end Go.Proofs.Ytfcohdnkocoleaa.Pure
