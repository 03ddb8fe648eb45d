/-
  No cell of these rows narrows 'for every input' (looked for: loops, veiled, ifaces, maps, wideKeys, modest, calm, conditions, laid).
  DERIVED. THE GIVEN ROWS OF THIS SEAT. 12 by the template 'for every input the law returns true; each argument reads behind the call as it read before'; 0 by the template 'total and deterministic' (their statements: YtfcohdnkocoleaaTotals.lean).
  GIVEN WITH THE SEED: the statements are not yours to turn. If you find one false, say at which input.
  Laid BY PROGRAM, IN A SANDBOX (cutbox-rows.mjs): the forced cells as the released guide's own fill.sh prints them over the translation 0690094bbe855803… (all of the seat's roots in one cut). By AI agents, Wed Nov 11 2026. No macro, syntax, notation, axiom, sorry.
-/
import Derived.Test.YtfcohdnkocoleaaChecked
import GoSem.Claim
import GoSem.ClaimJoined
import GoSem.ClaimMapViews
import Derived.JoinedTies
import Derived.KernelRfl
namespace Go.Proofs.Ytfcohdnkocoleaa
/- THE CELL 'sum', in the pinned program and in every row, IS THE sha256 OF THE DUMP (.gsa) THAT YtfcohdnkocoleaaProg.lean LOADS. Nothing in Lean hashes anything: it is a label: what it is worth is what the hold of that sum in a sandbox is worth. -/
noncomputable def Try.pinned : Pinned := { name := "ytfcohdnkocoleaa", sum := "0690094bbe855803a15b150f536eccfddc361954865ecaa8543a40420bee7270", checked := Try.checked }
namespace Rows
def none {H : Type} : Left H := { results := [], args := [] }

/-- 'laws.FnExactConstants': WHATEVER THE INPUT: true; the input reads as it did. -/
def fnExactConstantsSpec : ChangeSpec := { name := "fnExactConstants", fn := fun _ => fun
  | [] => { results := [.lit (.bool true)], args := [] }
  | _ => none }
def fnExactConstantsRow : OpenClaim := { program := "ytfcohdnkocoleaa", sum := "0690094bbe855803a15b150f536eccfddc361954865ecaa8543a40420bee7270", func := "loop.example/g00757/laws.FnExactConstants", spec := "fnExactConstants", apart := false }
def FnExactConstantsSaid : Prop := fnExactConstantsRow.holds Try.pinned (OpenSpec.ofChange fnExactConstantsSpec)

/-- ITS FALSE NEIGHBOUR: 'it returns false'. Refute it at one input. -/
def fnExactConstantsWrong : ChangeSpec := { name := "fnExactConstants", fn := fun _ => fun
  | [] => { results := [.lit (.bool false)], args := [] }
  | _ => none }
def FnExactConstantsWrongFalsely : Prop := fnExactConstantsRow.holds Try.pinned (OpenSpec.ofChange fnExactConstantsWrong)

/-- 'laws.FnExactTells': WHATEVER THE INPUT: true; the input reads as it did. -/
def fnExactTellsSpec : ChangeSpec := { name := "fnExactTells", fn := fun _ => fun
  | [d] => { results := [.lit (.bool true)], args := [d] }
  | _ => none }
def fnExactTellsRow : OpenClaim := { program := "ytfcohdnkocoleaa", sum := "0690094bbe855803a15b150f536eccfddc361954865ecaa8543a40420bee7270", func := "loop.example/g00757/laws.FnExactTells", spec := "fnExactTells", apart := false }
def FnExactTellsSaid : Prop := fnExactTellsRow.holds Try.pinned (OpenSpec.ofChange fnExactTellsSpec)

/-- ITS FALSE NEIGHBOUR: 'it returns false'. Refute it at one input. -/
def fnExactTellsWrong : ChangeSpec := { name := "fnExactTells", fn := fun _ => fun
  | [d] => { results := [.lit (.bool false)], args := [d] }
  | _ => none }
def FnExactTellsWrongFalsely : Prop := fnExactTellsRow.holds Try.pinned (OpenSpec.ofChange fnExactTellsWrong)

/-- 'laws.FnExactHex': WHATEVER THE INPUT: true; the input reads as it did. -/
def fnExactHexSpec : ChangeSpec := { name := "fnExactHex", fn := fun _ => fun
  | [d] => { results := [.lit (.bool true)], args := [d] }
  | _ => none }
def fnExactHexRow : OpenClaim := { program := "ytfcohdnkocoleaa", sum := "0690094bbe855803a15b150f536eccfddc361954865ecaa8543a40420bee7270", func := "loop.example/g00757/laws.FnExactHex", spec := "fnExactHex", apart := false }
def FnExactHexSaid : Prop := fnExactHexRow.holds Try.pinned (OpenSpec.ofChange fnExactHexSpec)

/-- ITS FALSE NEIGHBOUR: 'it returns false'. Refute it at one input. -/
def fnExactHexWrong : ChangeSpec := { name := "fnExactHex", fn := fun _ => fun
  | [d] => { results := [.lit (.bool false)], args := [d] }
  | _ => none }
def FnExactHexWrongFalsely : Prop := fnExactHexRow.holds Try.pinned (OpenSpec.ofChange fnExactHexWrong)

/-- 'laws.FnExactResultOk': WHATEVER THE INPUT: true; the input reads as it did. -/
def fnExactResultOkSpec : ChangeSpec := { name := "fnExactResultOk", fn := fun _ => fun
  | [d] => { results := [.lit (.bool true)], args := [d] }
  | _ => none }
def fnExactResultOkRow : OpenClaim := { program := "ytfcohdnkocoleaa", sum := "0690094bbe855803a15b150f536eccfddc361954865ecaa8543a40420bee7270", func := "loop.example/g00757/laws.FnExactResultOk", spec := "fnExactResultOk", apart := false }
def FnExactResultOkSaid : Prop := fnExactResultOkRow.holds Try.pinned (OpenSpec.ofChange fnExactResultOkSpec)

/-- ITS FALSE NEIGHBOUR: 'it returns false'. Refute it at one input. -/
def fnExactResultOkWrong : ChangeSpec := { name := "fnExactResultOk", fn := fun _ => fun
  | [d] => { results := [.lit (.bool false)], args := [d] }
  | _ => none }
def FnExactResultOkWrongFalsely : Prop := fnExactResultOkRow.holds Try.pinned (OpenSpec.ofChange fnExactResultOkWrong)

/-- 'laws.FnExactRefill': WHATEVER THE INPUT: true; the input reads as it did. -/
def fnExactRefillSpec : ChangeSpec := { name := "fnExactRefill", fn := fun _ => fun
  | [d] => { results := [.lit (.bool true)], args := [d] }
  | _ => none }
def fnExactRefillRow : OpenClaim := { program := "ytfcohdnkocoleaa", sum := "0690094bbe855803a15b150f536eccfddc361954865ecaa8543a40420bee7270", func := "loop.example/g00757/laws.FnExactRefill", spec := "fnExactRefill", apart := false }
def FnExactRefillSaid : Prop := fnExactRefillRow.holds Try.pinned (OpenSpec.ofChange fnExactRefillSpec)

/-- ITS FALSE NEIGHBOUR: 'it returns false'. Refute it at one input. -/
def fnExactRefillWrong : ChangeSpec := { name := "fnExactRefill", fn := fun _ => fun
  | [d] => { results := [.lit (.bool false)], args := [d] }
  | _ => none }
def FnExactRefillWrongFalsely : Prop := fnExactRefillRow.holds Try.pinned (OpenSpec.ofChange fnExactRefillWrong)

/-- 'laws.FnExactCost': WHATEVER THE INPUT: true; the input reads as it did. -/
def fnExactCostSpec : ChangeSpec := { name := "fnExactCost", fn := fun _ => fun
  | [d] => { results := [.lit (.bool true)], args := [d] }
  | _ => none }
def fnExactCostRow : OpenClaim := { program := "ytfcohdnkocoleaa", sum := "0690094bbe855803a15b150f536eccfddc361954865ecaa8543a40420bee7270", func := "loop.example/g00757/laws.FnExactCost", spec := "fnExactCost", apart := false }
def FnExactCostSaid : Prop := fnExactCostRow.holds Try.pinned (OpenSpec.ofChange fnExactCostSpec)

/-- ITS FALSE NEIGHBOUR: 'it returns false'. Refute it at one input. -/
def fnExactCostWrong : ChangeSpec := { name := "fnExactCost", fn := fun _ => fun
  | [d] => { results := [.lit (.bool false)], args := [d] }
  | _ => none }
def FnExactCostWrongFalsely : Prop := fnExactCostRow.holds Try.pinned (OpenSpec.ofChange fnExactCostWrong)

/-- 'laws.FnExactSpend': WHATEVER THE INPUT: true; the input reads as it did. -/
def fnExactSpendSpec : ChangeSpec := { name := "fnExactSpend", fn := fun _ => fun
  | [d1, d2] => { results := [.lit (.bool true)], args := [d1, d2] }
  | _ => none }
def fnExactSpendRow : OpenClaim := { program := "ytfcohdnkocoleaa", sum := "0690094bbe855803a15b150f536eccfddc361954865ecaa8543a40420bee7270", func := "loop.example/g00757/laws.FnExactSpend", spec := "fnExactSpend", apart := false }
def FnExactSpendSaid : Prop := fnExactSpendRow.holds Try.pinned (OpenSpec.ofChange fnExactSpendSpec)

/-- ITS FALSE NEIGHBOUR: 'it returns false'. Refute it at one input. -/
def fnExactSpendWrong : ChangeSpec := { name := "fnExactSpend", fn := fun _ => fun
  | [d1, d2] => { results := [.lit (.bool false)], args := [d1, d2] }
  | _ => none }
def FnExactSpendWrongFalsely : Prop := fnExactSpendRow.holds Try.pinned (OpenSpec.ofChange fnExactSpendWrong)

/-- 'laws.FnExactDec': WHATEVER THE INPUT: true; the input reads as it did. -/
def fnExactDecSpec : ChangeSpec := { name := "fnExactDec", fn := fun _ => fun
  | [d] => { results := [.lit (.bool true)], args := [d] }
  | _ => none }
def fnExactDecRow : OpenClaim := { program := "ytfcohdnkocoleaa", sum := "0690094bbe855803a15b150f536eccfddc361954865ecaa8543a40420bee7270", func := "loop.example/g00757/laws.FnExactDec", spec := "fnExactDec", apart := false }
def FnExactDecSaid : Prop := fnExactDecRow.holds Try.pinned (OpenSpec.ofChange fnExactDecSpec)

/-- ITS FALSE NEIGHBOUR: 'it returns false'. Refute it at one input. -/
def fnExactDecWrong : ChangeSpec := { name := "fnExactDec", fn := fun _ => fun
  | [d] => { results := [.lit (.bool false)], args := [d] }
  | _ => none }
def FnExactDecWrongFalsely : Prop := fnExactDecRow.holds Try.pinned (OpenSpec.ofChange fnExactDecWrong)

/-- 'laws.FnExactVar': WHATEVER THE INPUT: true; the input reads as it did. -/
def fnExactVarSpec : ChangeSpec := { name := "fnExactVar", fn := fun _ => fun
  | [d] => { results := [.lit (.bool true)], args := [d] }
  | _ => none }
def fnExactVarRow : OpenClaim := { program := "ytfcohdnkocoleaa", sum := "0690094bbe855803a15b150f536eccfddc361954865ecaa8543a40420bee7270", func := "loop.example/g00757/laws.FnExactVar", spec := "fnExactVar", apart := false }
def FnExactVarSaid : Prop := fnExactVarRow.holds Try.pinned (OpenSpec.ofChange fnExactVarSpec)

/-- ITS FALSE NEIGHBOUR: 'it returns false'. Refute it at one input. -/
def fnExactVarWrong : ChangeSpec := { name := "fnExactVar", fn := fun _ => fun
  | [d] => { results := [.lit (.bool false)], args := [d] }
  | _ => none }
def FnExactVarWrongFalsely : Prop := fnExactVarRow.holds Try.pinned (OpenSpec.ofChange fnExactVarWrong)

/-- 'laws.FnExactFixed': WHATEVER THE INPUT: true; the input reads as it did. -/
def fnExactFixedSpec : ChangeSpec := { name := "fnExactFixed", fn := fun _ => fun
  | [d1, d2] => { results := [.lit (.bool true)], args := [d1, d2] }
  | _ => none }
def fnExactFixedRow : OpenClaim := { program := "ytfcohdnkocoleaa", sum := "0690094bbe855803a15b150f536eccfddc361954865ecaa8543a40420bee7270", func := "loop.example/g00757/laws.FnExactFixed", spec := "fnExactFixed", apart := false }
def FnExactFixedSaid : Prop := fnExactFixedRow.holds Try.pinned (OpenSpec.ofChange fnExactFixedSpec)

/-- ITS FALSE NEIGHBOUR: 'it returns false'. Refute it at one input. -/
def fnExactFixedWrong : ChangeSpec := { name := "fnExactFixed", fn := fun _ => fun
  | [d1, d2] => { results := [.lit (.bool false)], args := [d1, d2] }
  | _ => none }
def FnExactFixedWrongFalsely : Prop := fnExactFixedRow.holds Try.pinned (OpenSpec.ofChange fnExactFixedWrong)

/-- 'laws.FnExactReadFixed': WHATEVER THE INPUT: true; the input reads as it did. -/
def fnExactReadFixedSpec : ChangeSpec := { name := "fnExactReadFixed", fn := fun _ => fun
  | [d1, d2] => { results := [.lit (.bool true)], args := [d1, d2] }
  | _ => none }
def fnExactReadFixedRow : OpenClaim := { program := "ytfcohdnkocoleaa", sum := "0690094bbe855803a15b150f536eccfddc361954865ecaa8543a40420bee7270", func := "loop.example/g00757/laws.FnExactReadFixed", spec := "fnExactReadFixed", apart := false }
def FnExactReadFixedSaid : Prop := fnExactReadFixedRow.holds Try.pinned (OpenSpec.ofChange fnExactReadFixedSpec)

/-- ITS FALSE NEIGHBOUR: 'it returns false'. Refute it at one input. -/
def fnExactReadFixedWrong : ChangeSpec := { name := "fnExactReadFixed", fn := fun _ => fun
  | [d1, d2] => { results := [.lit (.bool false)], args := [d1, d2] }
  | _ => none }
def FnExactReadFixedWrongFalsely : Prop := fnExactReadFixedRow.holds Try.pinned (OpenSpec.ofChange fnExactReadFixedWrong)

/-- 'laws.FnExactReadVar': WHATEVER THE INPUT: true; the input reads as it did. -/
def fnExactReadVarSpec : ChangeSpec := { name := "fnExactReadVar", fn := fun _ => fun
  | [d] => { results := [.lit (.bool true)], args := [d] }
  | _ => none }
def fnExactReadVarRow : OpenClaim := { program := "ytfcohdnkocoleaa", sum := "0690094bbe855803a15b150f536eccfddc361954865ecaa8543a40420bee7270", func := "loop.example/g00757/laws.FnExactReadVar", spec := "fnExactReadVar", apart := false }
def FnExactReadVarSaid : Prop := fnExactReadVarRow.holds Try.pinned (OpenSpec.ofChange fnExactReadVarSpec)

/-- ITS FALSE NEIGHBOUR: 'it returns false'. Refute it at one input. -/
def fnExactReadVarWrong : ChangeSpec := { name := "fnExactReadVar", fn := fun _ => fun
  | [d] => { results := [.lit (.bool false)], args := [d] }
  | _ => none }
def FnExactReadVarWrongFalsely : Prop := fnExactReadVarRow.holds Try.pinned (OpenSpec.ofChange fnExactReadVarWrong)

/- THE SECOND FORM. 'bulk': how many values and letters a reading holds, each counted each time it is reached (what is shared counts as often as it is met; a slice's spare places count too). A statement '..UptoSaid' is the law's where the arguments, and the package variables that the reading takes, are together of bulk at most 1048576: NARROWER than '..Said'. Prove '..Said' where nothing that the law and all that it calls make is longer than what came in: it says more and counts as full. Else prove '..UptoSaid'. A law counts once. -/
mutual
def uptoBulk {H : Type} : DataW H → Nat
  | .lit (.string bytes) => bytes.length + 1
  | .lit _ => 1
  | .nil => 1
  | .ptr d => uptoBulk d + 1
  | .slice elems spare => uptoBulkAll elems + uptoBulkAll spare + 1
  | .agg parts => uptoBulkAll parts + 1
  | .iface _ d => uptoBulk d + 1
  | .map entries => uptoBulkEntries entries + 1
  | .held _ => 1
def uptoBulkAll {H : Type} : List (DataW H) → Nat
  | [] => 0
  | d :: r => uptoBulk d + uptoBulkAll r
def uptoBulkEntries {H : Type} : List (Lit × DataW H) → Nat
  | [] => 0
  | x :: r => uptoBulkEntry x + uptoBulkEntries r
def uptoBulkEntry {H : Type} : Lit × DataW H → Nat
  | (.string bytes, d) => bytes.length + uptoBulk d + 1
  | (_, d) => uptoBulk d + 1
 end
def uptoSmall : (H : Type) → List (DataW H) → Bool := fun _ ds => decide (uptoBulkAll ds ≤ 1048576)
def OpenSpec.upto (s : _root_.Go.ChangeSpec) : _root_.Go.OpenSpec := { _root_.Go.OpenSpec.ofChange s with cond := some uptoSmall }

/-- 'laws.FnExactConstants', WHERE WHAT IT READS IS OF BULK AT MOST 1048576: true; the input reads as it did. -/
def fnExactConstantsUptoRow : OpenClaim := { program := "ytfcohdnkocoleaa", sum := "0690094bbe855803a15b150f536eccfddc361954865ecaa8543a40420bee7270", func := "loop.example/g00757/laws.FnExactConstants", spec := "fnExactConstants", apart := false, narrowed := true }
def FnExactConstantsUptoSaid : Prop := fnExactConstantsUptoRow.holds Try.pinned (OpenSpec.upto fnExactConstantsSpec)

/-- 'laws.FnExactTells', WHERE WHAT IT READS IS OF BULK AT MOST 1048576: true; the input reads as it did. -/
def fnExactTellsUptoRow : OpenClaim := { program := "ytfcohdnkocoleaa", sum := "0690094bbe855803a15b150f536eccfddc361954865ecaa8543a40420bee7270", func := "loop.example/g00757/laws.FnExactTells", spec := "fnExactTells", apart := false, narrowed := true }
def FnExactTellsUptoSaid : Prop := fnExactTellsUptoRow.holds Try.pinned (OpenSpec.upto fnExactTellsSpec)

/-- 'laws.FnExactHex', WHERE WHAT IT READS IS OF BULK AT MOST 1048576: true; the input reads as it did. -/
def fnExactHexUptoRow : OpenClaim := { program := "ytfcohdnkocoleaa", sum := "0690094bbe855803a15b150f536eccfddc361954865ecaa8543a40420bee7270", func := "loop.example/g00757/laws.FnExactHex", spec := "fnExactHex", apart := false, narrowed := true }
def FnExactHexUptoSaid : Prop := fnExactHexUptoRow.holds Try.pinned (OpenSpec.upto fnExactHexSpec)

/-- 'laws.FnExactResultOk', WHERE WHAT IT READS IS OF BULK AT MOST 1048576: true; the input reads as it did. -/
def fnExactResultOkUptoRow : OpenClaim := { program := "ytfcohdnkocoleaa", sum := "0690094bbe855803a15b150f536eccfddc361954865ecaa8543a40420bee7270", func := "loop.example/g00757/laws.FnExactResultOk", spec := "fnExactResultOk", apart := false, narrowed := true }
def FnExactResultOkUptoSaid : Prop := fnExactResultOkUptoRow.holds Try.pinned (OpenSpec.upto fnExactResultOkSpec)

/-- 'laws.FnExactRefill', WHERE WHAT IT READS IS OF BULK AT MOST 1048576: true; the input reads as it did. -/
def fnExactRefillUptoRow : OpenClaim := { program := "ytfcohdnkocoleaa", sum := "0690094bbe855803a15b150f536eccfddc361954865ecaa8543a40420bee7270", func := "loop.example/g00757/laws.FnExactRefill", spec := "fnExactRefill", apart := false, narrowed := true }
def FnExactRefillUptoSaid : Prop := fnExactRefillUptoRow.holds Try.pinned (OpenSpec.upto fnExactRefillSpec)

/-- 'laws.FnExactCost', WHERE WHAT IT READS IS OF BULK AT MOST 1048576: true; the input reads as it did. -/
def fnExactCostUptoRow : OpenClaim := { program := "ytfcohdnkocoleaa", sum := "0690094bbe855803a15b150f536eccfddc361954865ecaa8543a40420bee7270", func := "loop.example/g00757/laws.FnExactCost", spec := "fnExactCost", apart := false, narrowed := true }
def FnExactCostUptoSaid : Prop := fnExactCostUptoRow.holds Try.pinned (OpenSpec.upto fnExactCostSpec)

/-- 'laws.FnExactSpend', WHERE WHAT IT READS IS OF BULK AT MOST 1048576: true; the input reads as it did. -/
def fnExactSpendUptoRow : OpenClaim := { program := "ytfcohdnkocoleaa", sum := "0690094bbe855803a15b150f536eccfddc361954865ecaa8543a40420bee7270", func := "loop.example/g00757/laws.FnExactSpend", spec := "fnExactSpend", apart := false, narrowed := true }
def FnExactSpendUptoSaid : Prop := fnExactSpendUptoRow.holds Try.pinned (OpenSpec.upto fnExactSpendSpec)

/-- 'laws.FnExactDec', WHERE WHAT IT READS IS OF BULK AT MOST 1048576: true; the input reads as it did. -/
def fnExactDecUptoRow : OpenClaim := { program := "ytfcohdnkocoleaa", sum := "0690094bbe855803a15b150f536eccfddc361954865ecaa8543a40420bee7270", func := "loop.example/g00757/laws.FnExactDec", spec := "fnExactDec", apart := false, narrowed := true }
def FnExactDecUptoSaid : Prop := fnExactDecUptoRow.holds Try.pinned (OpenSpec.upto fnExactDecSpec)

/-- 'laws.FnExactVar', WHERE WHAT IT READS IS OF BULK AT MOST 1048576: true; the input reads as it did. -/
def fnExactVarUptoRow : OpenClaim := { program := "ytfcohdnkocoleaa", sum := "0690094bbe855803a15b150f536eccfddc361954865ecaa8543a40420bee7270", func := "loop.example/g00757/laws.FnExactVar", spec := "fnExactVar", apart := false, narrowed := true }
def FnExactVarUptoSaid : Prop := fnExactVarUptoRow.holds Try.pinned (OpenSpec.upto fnExactVarSpec)

/-- 'laws.FnExactFixed', WHERE WHAT IT READS IS OF BULK AT MOST 1048576: true; the input reads as it did. -/
def fnExactFixedUptoRow : OpenClaim := { program := "ytfcohdnkocoleaa", sum := "0690094bbe855803a15b150f536eccfddc361954865ecaa8543a40420bee7270", func := "loop.example/g00757/laws.FnExactFixed", spec := "fnExactFixed", apart := false, narrowed := true }
def FnExactFixedUptoSaid : Prop := fnExactFixedUptoRow.holds Try.pinned (OpenSpec.upto fnExactFixedSpec)

/-- 'laws.FnExactReadFixed', WHERE WHAT IT READS IS OF BULK AT MOST 1048576: true; the input reads as it did. -/
def fnExactReadFixedUptoRow : OpenClaim := { program := "ytfcohdnkocoleaa", sum := "0690094bbe855803a15b150f536eccfddc361954865ecaa8543a40420bee7270", func := "loop.example/g00757/laws.FnExactReadFixed", spec := "fnExactReadFixed", apart := false, narrowed := true }
def FnExactReadFixedUptoSaid : Prop := fnExactReadFixedUptoRow.holds Try.pinned (OpenSpec.upto fnExactReadFixedSpec)

/-- 'laws.FnExactReadVar', WHERE WHAT IT READS IS OF BULK AT MOST 1048576: true; the input reads as it did. -/
def fnExactReadVarUptoRow : OpenClaim := { program := "ytfcohdnkocoleaa", sum := "0690094bbe855803a15b150f536eccfddc361954865ecaa8543a40420bee7270", func := "loop.example/g00757/laws.FnExactReadVar", spec := "fnExactReadVar", apart := false, narrowed := true }
def FnExactReadVarUptoSaid : Prop := fnExactReadVarUptoRow.holds Try.pinned (OpenSpec.upto fnExactReadVarSpec)

end Rows
end Go.Proofs.Ytfcohdnkocoleaa
