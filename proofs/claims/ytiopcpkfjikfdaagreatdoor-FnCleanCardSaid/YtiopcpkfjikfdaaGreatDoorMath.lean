import Derived.Laws.BitsLemmas
import Derived.Laws.BytesArg
import Derived.RowKit
set_option linter.unusedVariables false
namespace Go.Proofs.YtiopcpkfjikfdaaGreatDoor.Mth
open Go.RowKit
theorem w64 {n : Int} (h0 : -9223372036854775808 ≤ n) (h1 : n ≤ 9223372036854775807) : wrap64 n = n := by
  unfold wrap64; omega
theorem tdiv_10 (x : Int) : x.tdiv 10 = if x < 0 then -((x.natAbs / 10 : Nat) : Int) else ((x.natAbs / 10 : Nat) : Int) := by
  by_cases h : x < 0
  · rw [if_pos h]
    obtain ⟨n, rfl⟩ : ∃ n : Nat, x = -(n : Int) := ⟨x.natAbs, by omega⟩
    rw [Int.neg_tdiv, Int.tdiv_eq_ediv_of_nonneg (by omega)]; omega
  · rw [if_neg h, Int.tdiv_eq_ediv_of_nonneg (by omega)]; omega
theorem dec_next (x : Int) (h0 : -9223372036854775808 ≤ x) (h1 : x ≤ 9223372036854775807) : (wrap64 (x.tdiv 10)).natAbs = x.natAbs / 10 ∧ -9223372036854775808 ≤ wrap64 (x.tdiv 10) ∧ wrap64 (x.tdiv 10) ≤ 9223372036854775807 := by
  rw [tdiv_10]
  by_cases hx : x < 0
  · rw [if_pos hx, w64 (by omega) (by omega)]; omega
  · rw [if_neg hx, w64 (by omega) (by omega)]; omega
def nameByte (x : Int) : Bool := decide (97 ≤ x ∧ x ≤ 122 ∨ 48 ≤ x ∧ x ≤ 57 ∨ x = 46 ∨ x = 95 ∨ x = 45)
def nameOkL (l : List Int) : Bool := decide (1 ≤ l.length ∧ l.length ≤ 8 ∧ l ≠ [46] ∧ l ≠ [46, 46]) && l.all nameByte
def slashByte (x : Int) : Bool := decide (x = 47) || nameByte x
def targetL (l : List Int) : Bool := decide (1 ≤ l.length ∧ l.length ≤ 60) && l.all slashByte
def pathOkL (l : List Int) : Bool := targetL l && decide (l.getD 0 0 = 47)
end Go.Proofs.YtiopcpkfjikfdaaGreatDoor.Mth
