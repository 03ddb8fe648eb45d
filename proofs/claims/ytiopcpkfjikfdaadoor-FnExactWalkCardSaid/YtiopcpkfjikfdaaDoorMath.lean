/- A part of the printed words: what this claim's texts mention. -/
import Derived.Laws.BitsLemmas
import Derived.Laws.BytesArg
import Derived.RowKit
set_option linter.unusedVariables false
namespace Go.Proofs.YtiopcpkfjikfdaaDoor.Mth
open Go.RowKit
theorem w64 {n : Int} (h0 : -9223372036854775808 ≤ n) (h1 : n ≤ 9223372036854775807) : wrap64 n = n := by
  unfold wrap64; omega
def nameByte (x : Int) : Bool := decide (97 ≤ x ∧ x ≤ 122 ∨ 48 ≤ x ∧ x ≤ 57 ∨ x = 46 ∨ x = 95 ∨ x = 45)
def nameOkL (l : List Int) : Bool := decide (1 ≤ l.length ∧ l.length ≤ 8 ∧ l ≠ [46] ∧ l ≠ [46, 46]) && l.all nameByte
def slashByte (x : Int) : Bool := decide (x = 47) || nameByte x
def targetL (l : List Int) : Bool := decide (1 ≤ l.length ∧ l.length ≤ 60) && l.all slashByte
def pathOkL (l : List Int) : Bool := targetL l && decide (l.getD 0 0 = 47)
end Go.Proofs.YtiopcpkfjikfdaaDoor.Mth
