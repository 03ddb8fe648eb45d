/- The program's Fixed returns what the reference's Fixed returns, for all arguments: the statement over numbers and lists, proved. Conditions: none beyond the bounds of the arguments' kinds. -/
import Derived.Test.YtfcohdnkocoleaaPFnExactFixedx1
import Derived.Test.YtfcohdnkocoleaaMath
import Derived.Test.YtfcohdnkocoleaaStr
namespace Go.Proofs.Ytfcohdnkocoleaa.Pure
open Go.RowKit Go.Proofs.Ytfcohdnkocoleaa.PFnExactFixed Go.Proofs.YtfcohdnkocoleaaW.PrintWords Go.Proofs.YtfcohdnkocoleaaW.PrintLast Go.Proofs.YtfcohdnkocoleaaW.PrintMore Go.Proofs.Ytfcohdnkocoleaa.Mth Go.Proofs.Ytfcohdnkocoleaa.Str

set_option linter.unusedVariables false
set_option linter.unusedSimpArgs false
/-! ## section within -/
theorem within_eq (a b c : Int) : impl_within.f a b c = some (decide (b ≤ a ∧ a ≤ c)) := by
  unfold impl_within.f
  by_cases h : a ≥ b
  · rw [if_pos h]; have : b ≤ a := h; simp [this]
  · rw [if_neg h]; have : ¬ b ≤ a := h; simp [this]

/-! ## section l1In -/
theorem l1In_eq (a b c : Int) : spec_l1In.f a b c = some (decide (b ≤ a ∧ a ≤ c)) := by
  unfold spec_l1In.f
  by_cases h : a ≥ b
  · rw [if_pos h]; have : b ≤ a := h; simp [this]
  · rw [if_neg h]; have : ¬ b ≤ a := h; simp [this]

/-! ## section fixedS -/
theorem fixed_spec_loop (w : Nat) (hw : w ≤ 7) : ∀ (d m i : Nat) (acc : List Int), i + d = w → m ≤ 9223372036854775807 → acc.length = i → Ev (fun k => spec_Fixed.l0 k (m : Int) (w : Int) (strOfNums acc) (i : Int)) (if m / 256 ^ d > 0 then (⟨#[]⟩ : ByteArray) else strOfNums (fixL d m ++ acc)) := by
  intro d
  induction d with
  | zero =>
    intro m i acc hi hm ha
    refine Ev.step (spec_Fixed.l0.eq_2 _ _ _ _) (ev_neg (by omega) ?_)
    by_cases h : 0 < m
    · refine ev_pos (by omega) (ev_now ?_)
      rw [if_pos (by simpa using h)]
    · refine ev_neg (by omega) (ev_now ?_)
      rw [if_neg (by simpa using h)]; rfl
  | succ d ih =>
    intro m i acc hi hm ha
    refine Ev.step (spec_Fixed.l0.eq_2 _ _ _ _) (ev_pos (by omega) (ev_some (ev_pos ?_ ?_)))
    · rw [strOfNums_size, strOfNums_size]; simp; omega
    · have e1 : (m : Int).tmod 256 % 256 = ((m % 256 : Nat) : Int) := by
        rw [Int.tmod_eq_emod_of_nonneg (by omega)]; omega
      have e2 : wrap64 ((m : Int).tdiv 256) = ((m / 256 : Nat) : Int) := by
        rw [Int.tdiv_eq_ediv_of_nonneg (by omega)]
        rw [w64 (by omega) (by omega)]; omega
      have e3 : wrap64 ((i : Int) + 1) = ((i + 1 : Nat) : Int) := w64 (by omega) (by omega)
      rw [e1, e2, e3, ← strOfNums_append]
      have := ih (m / 256) (i + 1) ([((m % 256 : Nat) : Int)] ++ acc) (by omega) (by omega) (by simp; omega)
      rw [Nat.div_div_eq_div_mul, Nat.mul_comm 256, ← Nat.pow_succ] at this
      rw [fixL, List.append_assoc]
      exact this
theorem fixed_spec (n w : Nat) (hw : 1 ≤ w) (hw7 : w ≤ 7) (hn : n ≤ 9223372036854775807) : Ev (fun k => spec_Fixed.f k (n : Int) (w : Int)) (if n < 256 ^ w then strOfNums (fixL w n) else (⟨#[]⟩ : ByteArray)) := by
  unfold spec_Fixed.f
  refine ev_of (l1In_eq _ _ _) (ev_pos (by simp; omega) ?_)
  refine Ev.step (spec_Fixed.j0.eq_2 _ _ _) (ev_neg (by simp) ?_)
  have := fixed_spec_loop w hw7 w n 0 [] (by omega) hn rfl
  have hp : 0 < 256 ^ w := Nat.pow_pos (by decide)
  by_cases h : n < 256 ^ w
  · rw [if_pos h]
    rw [if_neg (by rw [Nat.div_eq_of_lt h]; decide), List.append_nil] at this
    exact this
  · rw [if_neg h]
    rw [if_pos (Nat.div_pos (by omega) hp)] at this
    exact this
theorem fixed_spec_out (n w : Int) (h : w < 1 ∨ 7 < w ∨ n < 0) : Ev (fun k => spec_Fixed.f k n w) (⟨#[]⟩ : ByteArray) := by
  unfold spec_Fixed.f
  by_cases hw : 1 ≤ w ∧ w ≤ 7
  · refine ev_of (l1In_eq _ _ _) (ev_pos (by simpa using hw) ?_)
    exact Ev.step (spec_Fixed.j0.eq_2 _ _ _) (ev_pos (by simp; omega) (ev_now rfl))
  · refine ev_of (l1In_eq _ _ _) (ev_neg (by simpa using hw) ?_)
    exact Ev.step (spec_Fixed.j0.eq_2 _ _ _) (ev_pos rfl (ev_now rfl))

/-! ## section fixedI -/
theorem pow_256 (i : Nat) : (2 : Nat) ^ (8 * i) = 256 ^ i := by rw [Nat.pow_mul]
theorem shr_8 (n i : Nat) (hi : i ≤ 7) : (shr .i64 (n : Int) (wrap64 (8 * (i : Int)))) = ((n / 256 ^ i : Nat) : Int) := by
  have e : wrap64 (8 * (i : Int)) = ((8 * i : Nat) : Int) := w64 (by omega) (by omega)
  rw [e]
  unfold shr
  have hm : min ((8 * i : Nat) : Int).toNat IntKind.i64.bits = 8 * i := by
    have : IntKind.i64.bits = 64 := rfl
    rw [this]; omega
  rw [hm]
  have : (2 : Int) ^ (8 * i) = ((256 ^ i : Nat) : Int) := by rw [← pow_256]; simp
  rw [this]; simp
theorem fixed_impl_loop (n : Nat) : ∀ (i : Nat) (acc : List Int), i ≤ 7 → acc.length + i ≤ 7 → Ev (fun k => impl_Fixed.l0 k (n : Int) acc ((i : Int) - 1)) (strOfNums (acc ++ fixL i n)) := by
  intro i
  induction i with
  | zero =>
    intro acc hi ha
    refine Ev.step (impl_Fixed.l0.eq_2 _ _ _) (ev_neg (by omega) (ev_now ?_))
    simp [fixL]
  | succ i ih =>
    intro acc hi ha
    have e0 : ((i + 1 : Nat) : Int) - 1 = (i : Int) := by omega
    rw [e0]
    have hw7 : (0 : Int) ≤ wrap64 (8 * (i : Int)) := by rw [w64 (by omega) (by omega)]; omega
    refine Ev.step (impl_Fixed.l0.eq_2 _ _ _) (ev_pos (by omega) (ev_pos hw7 (ev_pos (by omega) ?_)))
    have e3 : wrap64 ((i : Int) - 1) = (i : Int) - 1 := w64 (by omega) (by omega)
    rw [shr_8 n i (by omega), e3]
    have := ih (acc ++ [((n / 256 ^ i : Nat) : Int) % 256]) (by omega) (by simp; omega)
    rw [fixL_head]
    have e4 : ((n / 256 ^ i % 256 : Nat) : Int) = ((n / 256 ^ i : Nat) : Int) % 256 := by omega
    rw [e4]
    simpa using this
theorem fixed_top (w : Nat) (hw : w ≤ 7) : wrap64 ((shl .i64 1 (wrap64 (8 * (w : Int)))) - 1) = ((256 ^ w : Nat) : Int) - 1 := by
  have e : wrap64 (8 * (w : Int)) = ((8 * w : Nat) : Int) := w64 (by omega) (by omega)
  rw [e]
  unfold shl
  have hm : min ((8 * w : Nat) : Int).toNat IntKind.i64.bits = 8 * w := by
    have : IntKind.i64.bits = 64 := rfl
    rw [this]; omega
  rw [hm, i64_w]
  have hp : (2 : Int) ^ (8 * w) = ((256 ^ w : Nat) : Int) := by rw [← pow_256]; simp
  have hb : 256 ^ w ≤ 72057594037927936 := Nat.le_trans (Nat.pow_le_pow_right (by decide) hw) (by decide)
  rw [hp, Int.one_mul]
  clear hm hp e
  generalize 256 ^ w = P at hb ⊢
  have e2 : wrap64 (P : Int) = (P : Int) := w64 (by omega) (by omega)
  rw [e2]
  exact w64 (by omega) (by omega)
theorem fixed_impl (n w : Nat) (hw : 1 ≤ w) (hw7 : w ≤ 7) (hn : n ≤ 9223372036854775807) : Ev (fun k => impl_Fixed.f k (n : Int) (w : Int)) (if n < 256 ^ w then strOfNums (fixL w n) else (⟨#[]⟩ : ByteArray)) := by
  unfold impl_Fixed.f
  have h8 : (0 : Int) ≤ wrap64 (8 * (w : Int)) := by rw [w64 (by omega) (by omega)]; omega
  refine ev_of (within_eq _ _ _) (ev_pos (by simp; omega) (ev_pos h8 (ev_of (within_eq _ _ _) ?_)))
  rw [fixed_top w hw7]
  generalize hP : 256 ^ w = P
  by_cases h : n < P
  · rw [if_pos h]
    refine Ev.step (impl_Fixed.j0.eq_2 _ _ _) (ev_neg (by simp; omega) ?_)
    have e3 : wrap64 ((w : Int) - 1) = (w : Int) - 1 := w64 (by omega) (by omega)
    rw [e3]
    have := fixed_impl_loop n w [] hw7 (by simp; omega)
    simpa using this
  · rw [if_neg h]
    exact Ev.step (impl_Fixed.j0.eq_2 _ _ _) (ev_pos (by simp; omega) (ev_now rfl))
theorem fixed_impl_out (n w : Int) (h : w < 1 ∨ 7 < w ∨ n < 0) : Ev (fun k => impl_Fixed.f k n w) (⟨#[]⟩ : ByteArray) := by
  unfold impl_Fixed.f
  by_cases hw : 1 ≤ w ∧ w ≤ 7
  · have h8 : (0 : Int) ≤ wrap64 (8 * w) := by rw [w64 (by omega) (by omega)]; omega
    refine ev_of (within_eq _ _ _) (ev_pos (by simpa using hw) (ev_pos h8 (ev_of (within_eq _ _ _) ?_)))
    exact Ev.step (impl_Fixed.j0.eq_2 _ _ _) (ev_pos (by simp; omega) (ev_now rfl))
  · refine ev_of (within_eq _ _ _) (ev_neg (by simpa using hw) ?_)
    exact Ev.step (impl_Fixed.j0.eq_2 _ _ _) (ev_pos rfl (ev_now rfl))

/-! ## section FnExactFixed -/
theorem FnExactFixed : laws_FnExactFixed.Pure := by
  intro a b ha hb
  unfold laws_FnExactFixed.f
  refine Ev.rounds (r := true) ?_
  have hwf := wf_i64 ha
  by_cases h : b < 1 ∨ 7 < b ∨ a < 0
  · exact Ev.bind (fixed_spec_out a b h) (Ev.bind (fixed_impl_out a b h) (ev_pos rfl (ev_now rfl)))
  · obtain ⟨n, rfl⟩ : ∃ n : Nat, a = n := ⟨a.toNat, by omega⟩
    obtain ⟨w, rfl⟩ : ∃ n : Nat, b = n := ⟨b.toNat, by omega⟩
    exact Ev.bind (fixed_spec n w (by omega) (by omega) (by omega)) (Ev.bind (fixed_impl n w (by omega) (by omega) (by omega)) (ev_pos rfl (ev_now rfl)))

end Go.Proofs.Ytfcohdnkocoleaa.Pure
