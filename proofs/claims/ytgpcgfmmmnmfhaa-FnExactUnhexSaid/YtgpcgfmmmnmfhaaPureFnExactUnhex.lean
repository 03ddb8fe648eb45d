/- The program's Unhex returns what the reference's Unhex returns, for all arguments: the statement over numbers and lists, proved. Conditions: none beyond the bounds of the arguments' kinds. -/
import Derived.Test.YtgpcgfmmmnmfhaaStmFnExactUnhex
import Derived.Test.YtgpcgfmmmnmfhaaMath
import Derived.Test.YtgpcgfmmmnmfhaaStr
namespace Go.Proofs.Ytgpcgfmmmnmfhaa.Pure
open Go.RowKit Go.Proofs.Ytgpcgfmmmnmfhaa.PFnExactUnhex Go.Proofs.YtgpcgfmmmnmfhaaW.PrintWords Go.Proofs.YtgpcgfmmmnmfhaaW.PrintLast Go.Proofs.YtgpcgfmmmnmfhaaW.PrintMore Go.Proofs.Ytgpcgfmmmnmfhaa.Mth Go.Proofs.Ytgpcgfmmmnmfhaa.Str

set_option linter.unusedVariables false
set_option linter.unusedSimpArgs false
/-! ## section unhexD -/
def unC (c : Int) : Int := if 48 ≤ c ∧ c ≤ 57 then c - 48 else if 97 ≤ c ∧ c ≤ 102 then c - 87 else -1
theorem unC_range (c : Int) : -1 ≤ unC c ∧ unC c ≤ 15 := by unfold unC; split <;> (try split) <;> omega
theorem unC_hexC (n : Int) (h0 : 0 ≤ n) (h1 : n < 16) : unC (hexC n) = n := by
  unfold unC hexC
  repeat' split
  all_goals omega
def unL : List Int → List Int → ByteArray × Bool
  | a :: b :: l, acc => if unC a < 0 then ((⟨#[]⟩ : ByteArray), false) else if unC b < 0 then ((⟨#[]⟩ : ByteArray), false) else unL l (acc ++ [(wrap64 ((wrap64 (16 * unC a)) + unC b)) % 256])
  | [], acc => (strOfNums acc, true)
  | [_], acc => (strOfNums acc, true)

/-! ## section unhexS -/
theorem digit_eq' (n : Int) (h0 : 0 ≤ n) (h1 : n < 16) : bt (⟨#[48, 49, 50, 51, 52, 53, 54, 55, 56, 57, 97, 98, 99, 100, 101, 102]⟩ : ByteArray) n = hexC n := by
  obtain ⟨m, rfl⟩ := Int.eq_ofNat_of_zero_le h0
  have : m < 16 := by omega
  have h : ∀ k : Fin 16, bt (⟨#[48, 49, 50, 51, 52, 53, 54, 55, 56, 57, 97, 98, 99, 100, 101, 102]⟩ : ByteArray) (k.val : Int) = hexC (k.val : Int) := by decide
  exact h ⟨m, this⟩
theorem l1Digit_eq' (n : Int) (h0 : 0 ≤ n) (h1 : n < 16) : spec_l1Digit.f n = some (hexC n) := by
  unfold spec_l1Digit.f
  rw [if_pos h0, if_pos h1, digit_eq' n h0 h1]
theorem fromHex_loop (c : Int) : ∀ (d i : Nat), i + d = 16 → (∀ j : Nat, j < i → hexC (j : Int) ≠ c) → Ev (fun k => spec_l1FromHex.l0 k c (i : Int)) (unC c) := by
  intro d
  induction d with
  | zero =>
    intro i hi hn
    refine Ev.step (fun _ => spec_l1FromHex.l0.eq_2 _ _ _) (ev_neg (by omega) (ev_now ?_))
    have : unC c = -1 := by
      unfold unC
      by_cases h1 : 48 ≤ c ∧ c ≤ 57
      · exact absurd (by unfold hexC; split <;> omega) (hn (c - 48).toNat (by omega))
      · rw [if_neg h1]
        by_cases h2 : 97 ≤ c ∧ c ≤ 102
        · exact absurd (by unfold hexC; split <;> omega) (hn (c - 87).toNat (by omega))
        · rw [if_neg h2]
    rw [this]
  | succ d ih =>
    intro i hi hn
    refine Ev.step (fun _ => spec_l1FromHex.l0.eq_2 _ _ _) (ev_pos (by omega) (ev_of (l1Digit_eq' _ (by omega) (by omega)) ?_))
    by_cases h : hexC (i : Int) = c
    · refine ev_pos h (ev_now ?_)
      rw [← h, unC_hexC _ (by omega) (by omega)]
    · refine ev_neg h ?_
      have e3 : wrap64 ((i : Int) + 1) = ((i + 1 : Nat) : Int) := w64 (by omega) (by omega)
      rw [e3]
      refine ih (i + 1) (by omega) (fun j hj => ?_)
      rcases Nat.lt_succ_iff_lt_or_eq.1 hj with hj' | rfl
      · exact hn j hj'
      · exact h
theorem fromHex_ev (c : Int) : Ev (fun k => spec_l1FromHex.f k c) (unC c) := by
  unfold spec_l1FromHex.f
  exact fromHex_loop c 16 0 (by omega) (fun j hj => absurd hj (by omega))
theorem unhex_spec_loop (s : ByteArray) (hs : s.size ≤ 2097152) : ∀ (d i : Nat) (acc : List Int), i + 2 * d = s.size → acc.length ≤ i → Ev (fun k => spec_Unhex.l0 k s acc (i : Int)) (unL ((bytesOf s).drop i) acc) := by
  intro d
  induction d with
  | zero =>
    intro i acc hi ha
    rw [List.drop_of_length_le (by rw [bytesOf_length]; omega)]
    exact Ev.step (fun _ => spec_Unhex.l0.eq_2 _ _ _ _) (ev_neg (by omega) (ev_now rfl))
  | succ d ih =>
    intro i acc hi ha
    have e3 : wrap64 ((i : Int) + 1) = ((i + 1 : Nat) : Int) := w64 (by omega) (by omega)
    have e4 : wrap64 ((i : Int) + 2) = ((i + 2 : Nat) : Int) := w64 (by omega) (by omega)
    rw [bytesOf_drop_cons s i (by omega), bytesOf_drop_cons s (i + 1) (by omega)]
    refine Ev.step (fun _ => spec_Unhex.l0.eq_2 _ _ _ _) (ev_pos (by omega) (ev_pos (by omega) ?_))
    rw [e3, e4]
    refine Ev.bind (fromHex_ev _) (ev_pos (by omega) (ev_pos (by omega) (Ev.bind (fromHex_ev _) ?_)))
    rw [unL]
    by_cases h1 : unC (bt s (i : Int)) < 0
    · rw [if_pos h1]; exact ev_pos h1 (ev_now rfl)
    · rw [if_neg h1]
      refine ev_neg h1 ?_
      by_cases h2 : unC (bt s ((i + 1 : Nat) : Int)) < 0
      · rw [if_pos h2]; exact ev_pos h2 (ev_now rfl)
      · rw [if_neg h2]
        exact ev_neg h2 (ev_pos (by omega) (ih (i + 2) _ (by omega) (by simp; omega)))
theorem unhex_spec (s : ByteArray) (hs : s.size ≤ 2097152) : Ev (fun k => spec_Unhex.f k s) (if s.size % 2 = 1 then ((⟨#[]⟩ : ByteArray), false) else unL (bytesOf s) []) := by
  unfold spec_Unhex.f
  by_cases h : s.size % 2 = 1
  · rw [if_pos h]; exact ev_pos (by omega) (ev_now rfl)
  · rw [if_neg h]
    have := unhex_spec_loop s hs (s.size / 2) 0 [] (by omega) (by simp)
    exact ev_neg (by omega) this

/-! ## section unhexI -/
theorem index_eq (c : Int) (h0 : 0 ≤ c) (h1 : c ≤ 255) : strings_IndexByte.f (⟨#[48, 49, 50, 51, 52, 53, 54, 55, 56, 57, 97, 98, 99, 100, 101, 102]⟩ : ByteArray) c = some (unC c) := by
  obtain ⟨m, rfl⟩ := Int.eq_ofNat_of_zero_le h0
  have hm : m < 256 := by omega
  have h : ∀ k : Fin 256, Lib.indexByte [48, 49, 50, 51, 52, 53, 54, 55, 56, 57, 97, 98, 99, 100, 101, 102] (k.val : Int).toNat.toUInt8 = unC (k.val : Int) := by decide +kernel
  unfold strings_IndexByte.f
  exact congrArg some (h ⟨m, hm⟩)
theorem unhex_impl_loop (s : ByteArray) (hs : s.size ≤ 2097152) : ∀ (d i : Nat) (acc : List Int), i + 2 * d = s.size → acc.length ≤ i → Ev (fun k => impl_Unhex.l0 k s acc (i : Int)) (unL ((bytesOf s).drop i) acc) := by
  intro d
  induction d with
  | zero =>
    intro i acc hi ha
    rw [List.drop_of_length_le (by rw [bytesOf_length]; omega)]
    exact Ev.step (fun _ => impl_Unhex.l0.eq_2 _ _ _ _) (ev_neg (by omega) (ev_now rfl))
  | succ d ih =>
    intro i acc hi ha
    have e3 : wrap64 ((i : Int) + 1) = ((i + 1 : Nat) : Int) := w64 (by omega) (by omega)
    have e4 : wrap64 ((i : Int) + 2) = ((i + 2 : Nat) : Int) := w64 (by omega) (by omega)
    have hb1 := bt_range s (i : Int)
    have hb2 := bt_range s ((i + 1 : Nat) : Int)
    rw [bytesOf_drop_cons s i (by omega), bytesOf_drop_cons s (i + 1) (by omega)]
    refine Ev.step (fun _ => impl_Unhex.l0.eq_2 _ _ _ _) (ev_pos (by omega) (ev_pos (by omega) ?_))
    rw [e3, e4]
    refine ev_of (index_eq _ (by omega) (by omega)) (ev_pos (by omega) (ev_pos (by omega) (ev_of (index_eq _ (by omega) (by omega)) ?_)))
    rw [unL]
    by_cases h1 : unC (bt s (i : Int)) < 0
    · rw [if_pos h1]; exact ev_pos h1 (ev_now rfl)
    · rw [if_neg h1]
      refine ev_neg h1 ?_
      by_cases h2 : unC (bt s ((i + 1 : Nat) : Int)) < 0
      · rw [if_pos h2]; exact ev_pos h2 (ev_now rfl)
      · rw [if_neg h2]
        exact ev_neg h2 (ev_pos (by omega) (ih (i + 2) _ (by omega) (by simp; omega)))
theorem unhex_impl (s : ByteArray) (hs : s.size ≤ 2097152) : Ev (fun k => impl_Unhex.f k s) (if s.size % 2 = 1 then ((⟨#[]⟩ : ByteArray), false) else unL (bytesOf s) []) := by
  unfold impl_Unhex.f
  by_cases h : s.size % 2 = 1
  · rw [if_pos h]; exact ev_neg (by omega) (ev_now rfl)
  · rw [if_neg h]
    have := unhex_impl_loop s hs (s.size / 2) 0 [] (by omega) (by simp)
    exact ev_pos (by omega) this

/-! ## section FnExactUnhex -/
theorem FnExactUnhex : laws_FnExactUnhex.Pure := by
  intro s hs
  unfold laws_FnExactUnhex.f
  refine Ev.rounds (r := true) ?_
  by_cases h : (s.size : Int) > 1048576
  · exact ev_pos h (ev_now rfl)
  · refine ev_neg h ?_
    exact Ev.bind (unhex_spec s (by omega)) (Ev.bind (unhex_impl s (by omega)) (ev_pos rfl (ev_neg (by simp) (ev_now rfl))))

end Go.Proofs.Ytgpcgfmmmnmfhaa.Pure
