/-
  No cell of these rows narrows 'for every input' (looked for: loops, veiled, ifaces, maps, wideKeys, modest, calm, conditions, laid).
  DERIVED. THE GIVEN ROWS OF THIS SEAT. 12 by the template 'for every input the law returns true; each argument reads behind the call as it read before'; 0 by the template 'total and deterministic' (their statements: YtgpcgfmmmnmfhaaTotals.lean).
  GIVEN WITH THE SEED: the statements are not yours to turn. If you find one false, say at which input.
  Laid BY PROGRAM, IN A SANDBOX (cutbox-rows.mjs): the forced cells as the released guide's own fill.sh prints them over the translation 07273e77d09a6e4b… (all of the seat's roots in one cut). By AI agents, Wed Nov 11 2026. No macro, syntax, notation, axiom, sorry.
-/
import Derived.Test.YtgpcgfmmmnmfhaaChecked
import GoSem.Claim
import GoSem.ClaimJoined
import GoSem.ClaimMapViews
import Derived.JoinedTies
import Derived.KernelRfl
namespace Go.Proofs.Ytgpcgfmmmnmfhaa
/- THE CELL 'sum', in the pinned program and in every row, IS THE sha256 OF THE DUMP (.gsa) THAT YtgpcgfmmmnmfhaaProg.lean LOADS. Nothing in Lean hashes anything: it is a label: what it is worth is what the hold of that sum in a sandbox is worth. -/
noncomputable def Try.pinned : Pinned := { name := "ytgpcgfmmmnmfhaa", sum := "07273e77d09a6e4b680c7a7e6ffeaa66cef9df1071562dacf373383e253f61f7", checked := Try.checked }
namespace Rows
def none {H : Type} : Left H := { results := [], args := [] }

/-- 'laws.FnExactNameOk': WHATEVER THE INPUT: true; the input reads as it did. -/
def fnExactNameOkSpec : ChangeSpec := { name := "fnExactNameOk", fn := fun _ => fun
  | [d] => { results := [.lit (.bool true)], args := [d] }
  | _ => none }
def fnExactNameOkRow : OpenClaim := { program := "ytgpcgfmmmnmfhaa", sum := "07273e77d09a6e4b680c7a7e6ffeaa66cef9df1071562dacf373383e253f61f7", func := "loop.example/g00757/laws.FnExactNameOk", spec := "fnExactNameOk", apart := false }
def FnExactNameOkSaid : Prop := fnExactNameOkRow.holds Try.pinned (OpenSpec.ofChange fnExactNameOkSpec)

/-- ITS FALSE NEIGHBOUR: 'it returns false'. Refute it at one input. -/
def fnExactNameOkWrong : ChangeSpec := { name := "fnExactNameOk", fn := fun _ => fun
  | [d] => { results := [.lit (.bool false)], args := [d] }
  | _ => none }
def FnExactNameOkWrongFalsely : Prop := fnExactNameOkRow.holds Try.pinned (OpenSpec.ofChange fnExactNameOkWrong)

/-- 'laws.FnExactPathOk': WHATEVER THE INPUT: true; the input reads as it did. -/
def fnExactPathOkSpec : ChangeSpec := { name := "fnExactPathOk", fn := fun _ => fun
  | [d] => { results := [.lit (.bool true)], args := [d] }
  | _ => none }
def fnExactPathOkRow : OpenClaim := { program := "ytgpcgfmmmnmfhaa", sum := "07273e77d09a6e4b680c7a7e6ffeaa66cef9df1071562dacf373383e253f61f7", func := "loop.example/g00757/laws.FnExactPathOk", spec := "fnExactPathOk", apart := false }
def FnExactPathOkSaid : Prop := fnExactPathOkRow.holds Try.pinned (OpenSpec.ofChange fnExactPathOkSpec)

/-- ITS FALSE NEIGHBOUR: 'it returns false'. Refute it at one input. -/
def fnExactPathOkWrong : ChangeSpec := { name := "fnExactPathOk", fn := fun _ => fun
  | [d] => { results := [.lit (.bool false)], args := [d] }
  | _ => none }
def FnExactPathOkWrongFalsely : Prop := fnExactPathOkRow.holds Try.pinned (OpenSpec.ofChange fnExactPathOkWrong)

/-- 'laws.FnExactCallOk': WHATEVER THE INPUT: true; the input reads as it did. -/
def fnExactCallOkSpec : ChangeSpec := { name := "fnExactCallOk", fn := fun _ => fun
  | [d] => { results := [.lit (.bool true)], args := [d] }
  | _ => none }
def fnExactCallOkRow : OpenClaim := { program := "ytgpcgfmmmnmfhaa", sum := "07273e77d09a6e4b680c7a7e6ffeaa66cef9df1071562dacf373383e253f61f7", func := "loop.example/g00757/laws.FnExactCallOk", spec := "fnExactCallOk", apart := false }
def FnExactCallOkSaid : Prop := fnExactCallOkRow.holds Try.pinned (OpenSpec.ofChange fnExactCallOkSpec)

/-- ITS FALSE NEIGHBOUR: 'it returns false'. Refute it at one input. -/
def fnExactCallOkWrong : ChangeSpec := { name := "fnExactCallOk", fn := fun _ => fun
  | [d] => { results := [.lit (.bool false)], args := [d] }
  | _ => none }
def FnExactCallOkWrongFalsely : Prop := fnExactCallOkRow.holds Try.pinned (OpenSpec.ofChange fnExactCallOkWrong)

/-- 'laws.FnExactUnhex': WHATEVER THE INPUT: true; the input reads as it did. -/
def fnExactUnhexSpec : ChangeSpec := { name := "fnExactUnhex", fn := fun _ => fun
  | [d] => { results := [.lit (.bool true)], args := [d] }
  | _ => none }
def fnExactUnhexRow : OpenClaim := { program := "ytgpcgfmmmnmfhaa", sum := "07273e77d09a6e4b680c7a7e6ffeaa66cef9df1071562dacf373383e253f61f7", func := "loop.example/g00757/laws.FnExactUnhex", spec := "fnExactUnhex", inPlace := ["internal/bytealg.IndexByteString"], apart := false }
def FnExactUnhexSaid : Prop := fnExactUnhexRow.holds Try.pinned (OpenSpec.ofChange fnExactUnhexSpec)

/-- ITS FALSE NEIGHBOUR: 'it returns false'. Refute it at one input. -/
def fnExactUnhexWrong : ChangeSpec := { name := "fnExactUnhex", fn := fun _ => fun
  | [d] => { results := [.lit (.bool false)], args := [d] }
  | _ => none }
def FnExactUnhexWrongFalsely : Prop := fnExactUnhexRow.holds Try.pinned (OpenSpec.ofChange fnExactUnhexWrong)

/-- 'laws.FnExactRecOk': WHATEVER THE INPUT: true; the input reads as it did. -/
def fnExactRecOkSpec : ChangeSpec := { name := "fnExactRecOk", fn := fun _ => fun
  | [d] => { results := [.lit (.bool true)], args := [d] }
  | _ => none }
def fnExactRecOkRow : OpenClaim := { program := "ytgpcgfmmmnmfhaa", sum := "07273e77d09a6e4b680c7a7e6ffeaa66cef9df1071562dacf373383e253f61f7", func := "loop.example/g00757/laws.FnExactRecOk", spec := "fnExactRecOk", apart := false }
def FnExactRecOkSaid : Prop := fnExactRecOkRow.holds Try.pinned (OpenSpec.ofChange fnExactRecOkSpec)

/-- ITS FALSE NEIGHBOUR: 'it returns false'. Refute it at one input. -/
def fnExactRecOkWrong : ChangeSpec := { name := "fnExactRecOk", fn := fun _ => fun
  | [d] => { results := [.lit (.bool false)], args := [d] }
  | _ => none }
def FnExactRecOkWrongFalsely : Prop := fnExactRecOkRow.holds Try.pinned (OpenSpec.ofChange fnExactRecOkWrong)

/-- 'laws.FnExactShowResult': WHATEVER THE INPUT: true; the input reads as it did. -/
def fnExactShowResultSpec : ChangeSpec := { name := "fnExactShowResult", fn := fun _ => fun
  | [d] => { results := [.lit (.bool true)], args := [d] }
  | _ => none }
def fnExactShowResultRow : OpenClaim := { program := "ytgpcgfmmmnmfhaa", sum := "07273e77d09a6e4b680c7a7e6ffeaa66cef9df1071562dacf373383e253f61f7", func := "loop.example/g00757/laws.FnExactShowResult", spec := "fnExactShowResult", apart := false }
def FnExactShowResultSaid : Prop := fnExactShowResultRow.holds Try.pinned (OpenSpec.ofChange fnExactShowResultSpec)

/-- ITS FALSE NEIGHBOUR: 'it returns false'. Refute it at one input. -/
def fnExactShowResultWrong : ChangeSpec := { name := "fnExactShowResult", fn := fun _ => fun
  | [d] => { results := [.lit (.bool false)], args := [d] }
  | _ => none }
def FnExactShowResultWrongFalsely : Prop := fnExactShowResultRow.holds Try.pinned (OpenSpec.ofChange fnExactShowResultWrong)

/-- 'laws.FnExactReadResult': WHATEVER THE INPUT: true; the input reads as it did. -/
def fnExactReadResultSpec : ChangeSpec := { name := "fnExactReadResult", fn := fun _ => fun
  | [d] => { results := [.lit (.bool true)], args := [d] }
  | _ => none }
def fnExactReadResultRow : OpenClaim := { program := "ytgpcgfmmmnmfhaa", sum := "07273e77d09a6e4b680c7a7e6ffeaa66cef9df1071562dacf373383e253f61f7", func := "loop.example/g00757/laws.FnExactReadResult", spec := "fnExactReadResult", apart := false }
def FnExactReadResultSaid : Prop := fnExactReadResultRow.holds Try.pinned (OpenSpec.ofChange fnExactReadResultSpec)

/-- ITS FALSE NEIGHBOUR: 'it returns false'. Refute it at one input. -/
def fnExactReadResultWrong : ChangeSpec := { name := "fnExactReadResult", fn := fun _ => fun
  | [d] => { results := [.lit (.bool false)], args := [d] }
  | _ => none }
def FnExactReadResultWrongFalsely : Prop := fnExactReadResultRow.holds Try.pinned (OpenSpec.ofChange fnExactReadResultWrong)

/-- 'laws.FnExactReadDec': WHATEVER THE INPUT: true; the input reads as it did. -/
def fnExactReadDecSpec : ChangeSpec := { name := "fnExactReadDec", fn := fun _ => fun
  | [d] => { results := [.lit (.bool true)], args := [d] }
  | _ => none }
def fnExactReadDecRow : OpenClaim := { program := "ytgpcgfmmmnmfhaa", sum := "07273e77d09a6e4b680c7a7e6ffeaa66cef9df1071562dacf373383e253f61f7", func := "loop.example/g00757/laws.FnExactReadDec", spec := "fnExactReadDec", apart := false }
def FnExactReadDecSaid : Prop := fnExactReadDecRow.holds Try.pinned (OpenSpec.ofChange fnExactReadDecSpec)

/-- ITS FALSE NEIGHBOUR: 'it returns false'. Refute it at one input. -/
def fnExactReadDecWrong : ChangeSpec := { name := "fnExactReadDec", fn := fun _ => fun
  | [d] => { results := [.lit (.bool false)], args := [d] }
  | _ => none }
def FnExactReadDecWrongFalsely : Prop := fnExactReadDecRow.holds Try.pinned (OpenSpec.ofChange fnExactReadDecWrong)

/-- 'laws.FnExactShowCall': WHATEVER THE INPUT: true; the input reads as it did. -/
def fnExactShowCallSpec : ChangeSpec := { name := "fnExactShowCall", fn := fun _ => fun
  | [d] => { results := [.lit (.bool true)], args := [d] }
  | _ => none }
def fnExactShowCallRow : OpenClaim := { program := "ytgpcgfmmmnmfhaa", sum := "07273e77d09a6e4b680c7a7e6ffeaa66cef9df1071562dacf373383e253f61f7", func := "loop.example/g00757/laws.FnExactShowCall", spec := "fnExactShowCall", apart := false }
def FnExactShowCallSaid : Prop := fnExactShowCallRow.holds Try.pinned (OpenSpec.ofChange fnExactShowCallSpec)

/-- ITS FALSE NEIGHBOUR: 'it returns false'. Refute it at one input. -/
def fnExactShowCallWrong : ChangeSpec := { name := "fnExactShowCall", fn := fun _ => fun
  | [d] => { results := [.lit (.bool false)], args := [d] }
  | _ => none }
def FnExactShowCallWrongFalsely : Prop := fnExactShowCallRow.holds Try.pinned (OpenSpec.ofChange fnExactShowCallWrong)

/-- 'laws.FnExactReadCall': WHATEVER THE INPUT: true; the input reads as it did. -/
def fnExactReadCallSpec : ChangeSpec := { name := "fnExactReadCall", fn := fun _ => fun
  | [d] => { results := [.lit (.bool true)], args := [d] }
  | _ => none }
def fnExactReadCallRow : OpenClaim := { program := "ytgpcgfmmmnmfhaa", sum := "07273e77d09a6e4b680c7a7e6ffeaa66cef9df1071562dacf373383e253f61f7", func := "loop.example/g00757/laws.FnExactReadCall", spec := "fnExactReadCall", apart := false }
def FnExactReadCallSaid : Prop := fnExactReadCallRow.holds Try.pinned (OpenSpec.ofChange fnExactReadCallSpec)

/-- ITS FALSE NEIGHBOUR: 'it returns false'. Refute it at one input. -/
def fnExactReadCallWrong : ChangeSpec := { name := "fnExactReadCall", fn := fun _ => fun
  | [d] => { results := [.lit (.bool false)], args := [d] }
  | _ => none }
def FnExactReadCallWrongFalsely : Prop := fnExactReadCallRow.holds Try.pinned (OpenSpec.ofChange fnExactReadCallWrong)

/-- 'laws.FnNumbers': WHATEVER THE INPUT: true; the input reads as it did. -/
def fnNumbersSpec : ChangeSpec := { name := "fnNumbers", fn := fun _ => fun
  | [d] => { results := [.lit (.bool true)], args := [d] }
  | _ => none }
def fnNumbersRow : OpenClaim := { program := "ytgpcgfmmmnmfhaa", sum := "07273e77d09a6e4b680c7a7e6ffeaa66cef9df1071562dacf373383e253f61f7", func := "loop.example/g00757/laws.FnNumbers", spec := "fnNumbers", inPlace := ["internal/bytealg.IndexByteString"], apart := false }
def FnNumbersSaid : Prop := fnNumbersRow.holds Try.pinned (OpenSpec.ofChange fnNumbersSpec)

/-- ITS FALSE NEIGHBOUR: 'it returns false'. Refute it at one input. -/
def fnNumbersWrong : ChangeSpec := { name := "fnNumbers", fn := fun _ => fun
  | [d] => { results := [.lit (.bool false)], args := [d] }
  | _ => none }
def FnNumbersWrongFalsely : Prop := fnNumbersRow.holds Try.pinned (OpenSpec.ofChange fnNumbersWrong)

/-- 'laws.FnMeter': WHATEVER THE INPUT: true; the input reads as it did. -/
def fnMeterSpec : ChangeSpec := { name := "fnMeter", fn := fun _ => fun
  | [d] => { results := [.lit (.bool true)], args := [d] }
  | _ => none }
def fnMeterRow : OpenClaim := { program := "ytgpcgfmmmnmfhaa", sum := "07273e77d09a6e4b680c7a7e6ffeaa66cef9df1071562dacf373383e253f61f7", func := "loop.example/g00757/laws.FnMeter", spec := "fnMeter", apart := false }
def FnMeterSaid : Prop := fnMeterRow.holds Try.pinned (OpenSpec.ofChange fnMeterSpec)

/-- ITS FALSE NEIGHBOUR: 'it returns false'. Refute it at one input. -/
def fnMeterWrong : ChangeSpec := { name := "fnMeter", fn := fun _ => fun
  | [d] => { results := [.lit (.bool false)], args := [d] }
  | _ => none }
def FnMeterWrongFalsely : Prop := fnMeterRow.holds Try.pinned (OpenSpec.ofChange fnMeterWrong)

/- THE SECOND FORM. 'bulk': how many values and letters a reading holds, each counted each time it is reached (what is shared counts as often as it is met; a slice's spare places count too). A statement '..UptoSaid' is the law's where the arguments, and the package variables that the reading takes, are together of bulk at most 1048576: NARROWER than '..Said'. Prove '..Said' where nothing that the law and all that it calls make is longer than what came in: it says more and counts as full. Else prove '..UptoSaid'. A law counts once. -/
mutual
def uptoBulk {H : Type} : DataW H → Nat
  | .lit (.string bytes) => bytes.length + 1
  | .lit _ => 1
  | .nil => 1
  | .ptr d => uptoBulk d + 1
  | .slice elems spare => uptoBulkAll elems + uptoBulkAll spare + 1
  | .agg parts => uptoBulkAll parts + 1
  | .iface _ d => uptoBulk d + 1
  | .map entries => uptoBulkEntries entries + 1
  | .held _ => 1
def uptoBulkAll {H : Type} : List (DataW H) → Nat
  | [] => 0
  | d :: r => uptoBulk d + uptoBulkAll r
def uptoBulkEntries {H : Type} : List (Lit × DataW H) → Nat
  | [] => 0
  | x :: r => uptoBulkEntry x + uptoBulkEntries r
def uptoBulkEntry {H : Type} : Lit × DataW H → Nat
  | (.string bytes, d) => bytes.length + uptoBulk d + 1
  | (_, d) => uptoBulk d + 1
 end
def uptoSmall : (H : Type) → List (DataW H) → Bool := fun _ ds => decide (uptoBulkAll ds ≤ 1048576)
def OpenSpec.upto (s : _root_.Go.ChangeSpec) : _root_.Go.OpenSpec := { _root_.Go.OpenSpec.ofChange s with cond := some uptoSmall }

/-- 'laws.FnExactNameOk', WHERE WHAT IT READS IS OF BULK AT MOST 1048576: true; the input reads as it did. -/
def fnExactNameOkUptoRow : OpenClaim := { program := "ytgpcgfmmmnmfhaa", sum := "07273e77d09a6e4b680c7a7e6ffeaa66cef9df1071562dacf373383e253f61f7", func := "loop.example/g00757/laws.FnExactNameOk", spec := "fnExactNameOk", apart := false, narrowed := true }
def FnExactNameOkUptoSaid : Prop := fnExactNameOkUptoRow.holds Try.pinned (OpenSpec.upto fnExactNameOkSpec)

/-- 'laws.FnExactPathOk', WHERE WHAT IT READS IS OF BULK AT MOST 1048576: true; the input reads as it did. -/
def fnExactPathOkUptoRow : OpenClaim := { program := "ytgpcgfmmmnmfhaa", sum := "07273e77d09a6e4b680c7a7e6ffeaa66cef9df1071562dacf373383e253f61f7", func := "loop.example/g00757/laws.FnExactPathOk", spec := "fnExactPathOk", apart := false, narrowed := true }
def FnExactPathOkUptoSaid : Prop := fnExactPathOkUptoRow.holds Try.pinned (OpenSpec.upto fnExactPathOkSpec)

/-- 'laws.FnExactCallOk', WHERE WHAT IT READS IS OF BULK AT MOST 1048576: true; the input reads as it did. -/
def fnExactCallOkUptoRow : OpenClaim := { program := "ytgpcgfmmmnmfhaa", sum := "07273e77d09a6e4b680c7a7e6ffeaa66cef9df1071562dacf373383e253f61f7", func := "loop.example/g00757/laws.FnExactCallOk", spec := "fnExactCallOk", apart := false, narrowed := true }
def FnExactCallOkUptoSaid : Prop := fnExactCallOkUptoRow.holds Try.pinned (OpenSpec.upto fnExactCallOkSpec)

/-- 'laws.FnExactUnhex', WHERE WHAT IT READS IS OF BULK AT MOST 1048576: true; the input reads as it did. -/
def fnExactUnhexUptoRow : OpenClaim := { program := "ytgpcgfmmmnmfhaa", sum := "07273e77d09a6e4b680c7a7e6ffeaa66cef9df1071562dacf373383e253f61f7", func := "loop.example/g00757/laws.FnExactUnhex", spec := "fnExactUnhex", inPlace := ["internal/bytealg.IndexByteString"], apart := false, narrowed := true }
def FnExactUnhexUptoSaid : Prop := fnExactUnhexUptoRow.holds Try.pinned (OpenSpec.upto fnExactUnhexSpec)

/-- 'laws.FnExactRecOk', WHERE WHAT IT READS IS OF BULK AT MOST 1048576: true; the input reads as it did. -/
def fnExactRecOkUptoRow : OpenClaim := { program := "ytgpcgfmmmnmfhaa", sum := "07273e77d09a6e4b680c7a7e6ffeaa66cef9df1071562dacf373383e253f61f7", func := "loop.example/g00757/laws.FnExactRecOk", spec := "fnExactRecOk", apart := false, narrowed := true }
def FnExactRecOkUptoSaid : Prop := fnExactRecOkUptoRow.holds Try.pinned (OpenSpec.upto fnExactRecOkSpec)

/-- 'laws.FnExactShowResult', WHERE WHAT IT READS IS OF BULK AT MOST 1048576: true; the input reads as it did. -/
def fnExactShowResultUptoRow : OpenClaim := { program := "ytgpcgfmmmnmfhaa", sum := "07273e77d09a6e4b680c7a7e6ffeaa66cef9df1071562dacf373383e253f61f7", func := "loop.example/g00757/laws.FnExactShowResult", spec := "fnExactShowResult", apart := false, narrowed := true }
def FnExactShowResultUptoSaid : Prop := fnExactShowResultUptoRow.holds Try.pinned (OpenSpec.upto fnExactShowResultSpec)

/-- 'laws.FnExactReadResult', WHERE WHAT IT READS IS OF BULK AT MOST 1048576: true; the input reads as it did. -/
def fnExactReadResultUptoRow : OpenClaim := { program := "ytgpcgfmmmnmfhaa", sum := "07273e77d09a6e4b680c7a7e6ffeaa66cef9df1071562dacf373383e253f61f7", func := "loop.example/g00757/laws.FnExactReadResult", spec := "fnExactReadResult", apart := false, narrowed := true }
def FnExactReadResultUptoSaid : Prop := fnExactReadResultUptoRow.holds Try.pinned (OpenSpec.upto fnExactReadResultSpec)

/-- 'laws.FnExactReadDec', WHERE WHAT IT READS IS OF BULK AT MOST 1048576: true; the input reads as it did. -/
def fnExactReadDecUptoRow : OpenClaim := { program := "ytgpcgfmmmnmfhaa", sum := "07273e77d09a6e4b680c7a7e6ffeaa66cef9df1071562dacf373383e253f61f7", func := "loop.example/g00757/laws.FnExactReadDec", spec := "fnExactReadDec", apart := false, narrowed := true }
def FnExactReadDecUptoSaid : Prop := fnExactReadDecUptoRow.holds Try.pinned (OpenSpec.upto fnExactReadDecSpec)

/-- 'laws.FnExactShowCall', WHERE WHAT IT READS IS OF BULK AT MOST 1048576: true; the input reads as it did. -/
def fnExactShowCallUptoRow : OpenClaim := { program := "ytgpcgfmmmnmfhaa", sum := "07273e77d09a6e4b680c7a7e6ffeaa66cef9df1071562dacf373383e253f61f7", func := "loop.example/g00757/laws.FnExactShowCall", spec := "fnExactShowCall", apart := false, narrowed := true }
def FnExactShowCallUptoSaid : Prop := fnExactShowCallUptoRow.holds Try.pinned (OpenSpec.upto fnExactShowCallSpec)

/-- 'laws.FnExactReadCall', WHERE WHAT IT READS IS OF BULK AT MOST 1048576: true; the input reads as it did. -/
def fnExactReadCallUptoRow : OpenClaim := { program := "ytgpcgfmmmnmfhaa", sum := "07273e77d09a6e4b680c7a7e6ffeaa66cef9df1071562dacf373383e253f61f7", func := "loop.example/g00757/laws.FnExactReadCall", spec := "fnExactReadCall", apart := false, narrowed := true }
def FnExactReadCallUptoSaid : Prop := fnExactReadCallUptoRow.holds Try.pinned (OpenSpec.upto fnExactReadCallSpec)

/-- 'laws.FnNumbers', WHERE WHAT IT READS IS OF BULK AT MOST 1048576: true; the input reads as it did. -/
def fnNumbersUptoRow : OpenClaim := { program := "ytgpcgfmmmnmfhaa", sum := "07273e77d09a6e4b680c7a7e6ffeaa66cef9df1071562dacf373383e253f61f7", func := "loop.example/g00757/laws.FnNumbers", spec := "fnNumbers", inPlace := ["internal/bytealg.IndexByteString"], apart := false, narrowed := true }
def FnNumbersUptoSaid : Prop := fnNumbersUptoRow.holds Try.pinned (OpenSpec.upto fnNumbersSpec)

/-- 'laws.FnMeter', WHERE WHAT IT READS IS OF BULK AT MOST 1048576: true; the input reads as it did. -/
def fnMeterUptoRow : OpenClaim := { program := "ytgpcgfmmmnmfhaa", sum := "07273e77d09a6e4b680c7a7e6ffeaa66cef9df1071562dacf373383e253f61f7", func := "loop.example/g00757/laws.FnMeter", spec := "fnMeter", apart := false, narrowed := true }
def FnMeterUptoSaid : Prop := fnMeterUptoRow.holds Try.pinned (OpenSpec.upto fnMeterSpec)

end Rows
end Go.Proofs.Ytgpcgfmmmnmfhaa
