/- A part of the printed words: what this claim's texts mention. -/
import Derived.Test.YtiopcpkfjikfdaaDoorWTab
namespace Go.Proofs.YtiopcpkfjikfdaaDoorW.PrintLast
/-- Number i is listed too. -/
def up (b : Nat → Bool) (i : Nat) : Nat → Bool := fun j => if j = i then true else b j
end Go.Proofs.YtiopcpkfjikfdaaDoorW.PrintLast
