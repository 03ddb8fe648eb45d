/- The program's law FnExactWalk walked: it answers true for all arguments, wherever the given variable bears a number. -/
import Derived.Test.YtiopcpkfjikfdaaDoorStmFnExactWalk
import Derived.Test.YtiopcpkfjikfdaaDoorPureFnExactWalk
namespace Go.Proofs.YtiopcpkfjikfdaaDoor.PFnExactWalk
open Go.RowKit Go.Proofs.YtiopcpkfjikfdaaDoorW.PrintWords Go.Proofs.YtiopcpkfjikfdaaDoorW.PrintLast Go.Proofs.YtiopcpkfjikfdaaDoorW.PrintMore
set_option linter.unusedVariables false
theorem laws_FnExactWalk.cardWalk (m : Int) (a0_0 : Int) (A0_1 : Option Addr) (c0_1 : Nat) (l0_1 : List (S87)) (a1_0 : Int) (a1_1 : Int) (A1_2 : Option Addr) (c1_2 : Nat) (l1_2 : List (Int)) (a2 : ByteArray) (a3 : Bool) (w : World) (hm : w.cell? ⟨0, 0, none⟩ = some (.int .i64 m)) (hr0_1 : Kd.C k87 w A0_1 l0_1.length l0_1) (hc0_1 : l0_1.length ≤ c0_1) (hr1_2 : Kd.C (Kd.int .i64) w A1_2 l1_2.length l1_2) (hc1_2 : l1_2.length ≤ c1_2) (w0_0 : (Lit.int .i64 a0_0).wf = true) (w0_1 : (l0_1.length ≤ maxLen ∧ ∀ y ∈ l0_1, okS87 y)) (w1_0 : (Lit.int .i64 a1_0).wf = true) (w1_1 : (Lit.int .i64 a1_1).wf = true) (w1_2 : (l1_2.length ≤ maxLen ∧ ∀ y ∈ l1_2, (Lit.int .i64 y).wf = true)) (w2 : a2.size ≤ 140737488351232) :
    Calls Tryd.prog 6 #[.agg #[.int .i64 a0_0, .slice A0_1 l0_1.length c0_1], .agg #[.int .i64 a1_0, .int .i64 a1_1, .slice A1_2 l1_2.length c1_2], .string a2, .bool a3] w fun e w' => e = .returned (.bool true) ∧ Below w.heap.size w w' := by
  obtain ⟨k, h⟩ := Pure.FnExactWalk a0_0 l0_1 a1_0 a1_1 l1_2 a2 a3 w0_0 w0_1 w1_0 w1_1 w1_2 w2
  refine (laws_FnExactWalk.calls k a0_0 A0_1 c0_1 l0_1 a1_0 a1_1 A1_2 c1_2 l1_2 a2 a3 true w hr0_1 hc0_1 hr1_2 hc1_2 m hm rfl h).mono ?_
  rintro e w' ⟨rfl, hd⟩
  exact ⟨rfl, hd⟩
end Go.Proofs.YtiopcpkfjikfdaaDoor.PFnExactWalk
