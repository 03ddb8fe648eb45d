/-
  No cell of these rows narrows 'for every input' (looked for: loops, veiled, ifaces, maps, wideKeys, modest, calm, conditions, laid).
  DERIVED. THE GIVEN ROWS OF THIS SEAT. 11 by the template 'for every input the law returns true; each argument reads behind the call as it read before'; 0 by the template 'total and deterministic' (their statements: YtnoklcpoocaimaaTotals.lean).
  GIVEN WITH THE SEED: the statements are not yours to turn. If you find one false, say at which input.
  Laid BY PROGRAM, IN A SANDBOX (cutbox-rows.mjs): the forced cells as the released guide's own fill.sh prints them over the translation 9b16909a7ecee084… (all of the seat's roots in one cut). By AI agents, Wed Nov 11 2026. No macro, syntax, notation, axiom, sorry.
-/
import Derived.Test.YtnoklcpoocaimaaChecked
import GoSem.Claim
import GoSem.ClaimJoined
import GoSem.ClaimMapViews
import Derived.JoinedTies
import Derived.KernelRfl
namespace Go.Proofs.Ytnoklcpoocaimaa
/- THE CELL 'sum', in the pinned program and in every row, IS THE sha256 OF THE DUMP (.gsa) THAT YtnoklcpoocaimaaProg.lean LOADS. Nothing in Lean hashes anything: it is a label: what it is worth is what the hold of that sum in a sandbox is worth. -/
noncomputable def Try.pinned : Pinned := { name := "ytnoklcpoocaimaa", sum := "9b16909a7ecee084f5b2d13d35373429603a57f56db6b85d8ee76851e0910968", checked := Try.checked }
namespace Rows
def none {H : Type} : Left H := { results := [], args := [] }

/-- 'laws.FnExactCredOf': WHATEVER THE INPUT: true; the input reads as it did. -/
def fnExactCredOfSpec : ChangeSpec := { name := "fnExactCredOf", fn := fun _ => fun
  | [d] => { results := [.lit (.bool true)], args := [d] }
  | _ => none }
def fnExactCredOfRow : OpenClaim := { program := "ytnoklcpoocaimaa", sum := "9b16909a7ecee084f5b2d13d35373429603a57f56db6b85d8ee76851e0910968", func := "loop.example/g00757/laws.FnExactCredOf", spec := "fnExactCredOf", apart := false }
def FnExactCredOfSaid : Prop := fnExactCredOfRow.holds Try.pinned (OpenSpec.ofChange fnExactCredOfSpec)

/-- ITS FALSE NEIGHBOUR: 'it returns false'. Refute it at one input. -/
def fnExactCredOfWrong : ChangeSpec := { name := "fnExactCredOf", fn := fun _ => fun
  | [d] => { results := [.lit (.bool false)], args := [d] }
  | _ => none }
def FnExactCredOfWrongFalsely : Prop := fnExactCredOfRow.holds Try.pinned (OpenSpec.ofChange fnExactCredOfWrong)

/-- 'laws.FnExactAuditOk': WHATEVER THE INPUT: true; the input reads as it did. -/
def fnExactAuditOkSpec : ChangeSpec := { name := "fnExactAuditOk", fn := fun _ => fun
  | [d] => { results := [.lit (.bool true)], args := [d] }
  | _ => none }
def fnExactAuditOkRow : OpenClaim := { program := "ytnoklcpoocaimaa", sum := "9b16909a7ecee084f5b2d13d35373429603a57f56db6b85d8ee76851e0910968", func := "loop.example/g00757/laws.FnExactAuditOk", spec := "fnExactAuditOk", apart := false }
def FnExactAuditOkSaid : Prop := fnExactAuditOkRow.holds Try.pinned (OpenSpec.ofChange fnExactAuditOkSpec)

/-- ITS FALSE NEIGHBOUR: 'it returns false'. Refute it at one input. -/
def fnExactAuditOkWrong : ChangeSpec := { name := "fnExactAuditOk", fn := fun _ => fun
  | [d] => { results := [.lit (.bool false)], args := [d] }
  | _ => none }
def FnExactAuditOkWrongFalsely : Prop := fnExactAuditOkRow.holds Try.pinned (OpenSpec.ofChange fnExactAuditOkWrong)

/-- 'laws.FnExactCredOk': WHATEVER THE INPUT: true; the input reads as it did. -/
def fnExactCredOkSpec : ChangeSpec := { name := "fnExactCredOk", fn := fun _ => fun
  | [d] => { results := [.lit (.bool true)], args := [d] }
  | _ => none }
def fnExactCredOkRow : OpenClaim := { program := "ytnoklcpoocaimaa", sum := "9b16909a7ecee084f5b2d13d35373429603a57f56db6b85d8ee76851e0910968", func := "loop.example/g00757/laws.FnExactCredOk", spec := "fnExactCredOk", unfollowed := true, recurses := true, apart := false }
def FnExactCredOkSaid : Prop := fnExactCredOkRow.holds Try.pinned (OpenSpec.ofChange fnExactCredOkSpec)

/-- ITS FALSE NEIGHBOUR: 'it returns false'. Refute it at one input. -/
def fnExactCredOkWrong : ChangeSpec := { name := "fnExactCredOk", fn := fun _ => fun
  | [d] => { results := [.lit (.bool false)], args := [d] }
  | _ => none }
def FnExactCredOkWrongFalsely : Prop := fnExactCredOkRow.holds Try.pinned (OpenSpec.ofChange fnExactCredOkWrong)

/-- 'laws.FnExactIn': WHATEVER THE INPUT: true; the input reads as it did. -/
def fnExactInSpec : ChangeSpec := { name := "fnExactIn", fn := fun _ => fun
  | [d1, d2] => { results := [.lit (.bool true)], args := [d1, d2] }
  | _ => none }
def fnExactInRow : OpenClaim := { program := "ytnoklcpoocaimaa", sum := "9b16909a7ecee084f5b2d13d35373429603a57f56db6b85d8ee76851e0910968", func := "loop.example/g00757/laws.FnExactIn", spec := "fnExactIn", unfollowed := true, recurses := true, apart := false }
def FnExactInSaid : Prop := fnExactInRow.holds Try.pinned (OpenSpec.ofChange fnExactInSpec)

/-- ITS FALSE NEIGHBOUR: 'it returns false'. Refute it at one input. -/
def fnExactInWrong : ChangeSpec := { name := "fnExactIn", fn := fun _ => fun
  | [d1, d2] => { results := [.lit (.bool false)], args := [d1, d2] }
  | _ => none }
def FnExactInWrongFalsely : Prop := fnExactInRow.holds Try.pinned (OpenSpec.ofChange fnExactInWrong)

/-- 'laws.FnMay': WHATEVER THE INPUT: true; the input reads as it did. -/
def fnMaySpec : ChangeSpec := { name := "fnMay", fn := fun _ => fun
  | [d] => { results := [.lit (.bool true)], args := [d] }
  | _ => none }
def fnMayRow : OpenClaim := { program := "ytnoklcpoocaimaa", sum := "9b16909a7ecee084f5b2d13d35373429603a57f56db6b85d8ee76851e0910968", func := "loop.example/g00757/laws.FnMay", spec := "fnMay", unfollowed := true, recurses := true, apart := false }
def FnMaySaid : Prop := fnMayRow.holds Try.pinned (OpenSpec.ofChange fnMaySpec)

/-- ITS FALSE NEIGHBOUR: 'it returns false'. Refute it at one input. -/
def fnMayWrong : ChangeSpec := { name := "fnMay", fn := fun _ => fun
  | [d] => { results := [.lit (.bool false)], args := [d] }
  | _ => none }
def FnMayWrongFalsely : Prop := fnMayRow.holds Try.pinned (OpenSpec.ofChange fnMayWrong)

/-- 'laws.FnExactShowAudit': WHATEVER THE INPUT: true; the input reads as it did. -/
def fnExactShowAuditSpec : ChangeSpec := { name := "fnExactShowAudit", fn := fun _ => fun
  | [d1, d2] => { results := [.lit (.bool true)], args := [d1, d2] }
  | _ => none }
def fnExactShowAuditRow : OpenClaim := { program := "ytnoklcpoocaimaa", sum := "9b16909a7ecee084f5b2d13d35373429603a57f56db6b85d8ee76851e0910968", func := "loop.example/g00757/laws.FnExactShowAudit", spec := "fnExactShowAudit", apart := false }
def FnExactShowAuditSaid : Prop := fnExactShowAuditRow.holds Try.pinned (OpenSpec.ofChange fnExactShowAuditSpec)

/-- ITS FALSE NEIGHBOUR: 'it returns false'. Refute it at one input. -/
def fnExactShowAuditWrong : ChangeSpec := { name := "fnExactShowAudit", fn := fun _ => fun
  | [d1, d2] => { results := [.lit (.bool false)], args := [d1, d2] }
  | _ => none }
def FnExactShowAuditWrongFalsely : Prop := fnExactShowAuditRow.holds Try.pinned (OpenSpec.ofChange fnExactShowAuditWrong)

/-- 'laws.FnExactKeptOk': WHATEVER THE INPUT: true; the input reads as it did. -/
def fnExactKeptOkSpec : ChangeSpec := { name := "fnExactKeptOk", fn := fun _ => fun
  | [d] => { results := [.lit (.bool true)], args := [d] }
  | _ => none }
def fnExactKeptOkRow : OpenClaim := { program := "ytnoklcpoocaimaa", sum := "9b16909a7ecee084f5b2d13d35373429603a57f56db6b85d8ee76851e0910968", func := "loop.example/g00757/laws.FnExactKeptOk", spec := "fnExactKeptOk", apart := false }
def FnExactKeptOkSaid : Prop := fnExactKeptOkRow.holds Try.pinned (OpenSpec.ofChange fnExactKeptOkSpec)

/-- ITS FALSE NEIGHBOUR: 'it returns false'. Refute it at one input. -/
def fnExactKeptOkWrong : ChangeSpec := { name := "fnExactKeptOk", fn := fun _ => fun
  | [d] => { results := [.lit (.bool false)], args := [d] }
  | _ => none }
def FnExactKeptOkWrongFalsely : Prop := fnExactKeptOkRow.holds Try.pinned (OpenSpec.ofChange fnExactKeptOkWrong)

/-- 'laws.FnExactNewVol': WHATEVER THE INPUT: true; the input reads as it did. -/
def fnExactNewVolSpec : ChangeSpec := { name := "fnExactNewVol", fn := fun _ => fun
  | [] => { results := [.lit (.bool true)], args := [] }
  | _ => none }
def fnExactNewVolRow : OpenClaim := { program := "ytnoklcpoocaimaa", sum := "9b16909a7ecee084f5b2d13d35373429603a57f56db6b85d8ee76851e0910968", func := "loop.example/g00757/laws.FnExactNewVol", spec := "fnExactNewVol", apart := false }
def FnExactNewVolSaid : Prop := fnExactNewVolRow.holds Try.pinned (OpenSpec.ofChange fnExactNewVolSpec)

/-- ITS FALSE NEIGHBOUR: 'it returns false'. Refute it at one input. -/
def fnExactNewVolWrong : ChangeSpec := { name := "fnExactNewVol", fn := fun _ => fun
  | [] => { results := [.lit (.bool false)], args := [] }
  | _ => none }
def FnExactNewVolWrongFalsely : Prop := fnExactNewVolRow.holds Try.pinned (OpenSpec.ofChange fnExactNewVolWrong)

/-- 'laws.FnExactNewStore': WHATEVER THE INPUT: true; the input reads as it did. -/
def fnExactNewStoreSpec : ChangeSpec := { name := "fnExactNewStore", fn := fun _ => fun
  | [] => { results := [.lit (.bool true)], args := [] }
  | _ => none }
def fnExactNewStoreRow : OpenClaim := { program := "ytnoklcpoocaimaa", sum := "9b16909a7ecee084f5b2d13d35373429603a57f56db6b85d8ee76851e0910968", func := "loop.example/g00757/laws.FnExactNewStore", spec := "fnExactNewStore", apart := false }
def FnExactNewStoreSaid : Prop := fnExactNewStoreRow.holds Try.pinned (OpenSpec.ofChange fnExactNewStoreSpec)

/-- ITS FALSE NEIGHBOUR: 'it returns false'. Refute it at one input. -/
def fnExactNewStoreWrong : ChangeSpec := { name := "fnExactNewStore", fn := fun _ => fun
  | [] => { results := [.lit (.bool false)], args := [] }
  | _ => none }
def FnExactNewStoreWrongFalsely : Prop := fnExactNewStoreRow.holds Try.pinned (OpenSpec.ofChange fnExactNewStoreWrong)

/-- 'laws.FnExactMayTake': WHATEVER THE INPUT: true; the input reads as it did. -/
def fnExactMayTakeSpec : ChangeSpec := { name := "fnExactMayTake", fn := fun _ => fun
  | [d1, d2, d3] => { results := [.lit (.bool true)], args := [d1, d2, d3] }
  | _ => none }
def fnExactMayTakeRow : OpenClaim := { program := "ytnoklcpoocaimaa", sum := "9b16909a7ecee084f5b2d13d35373429603a57f56db6b85d8ee76851e0910968", func := "loop.example/g00757/laws.FnExactMayTake", spec := "fnExactMayTake", unfollowed := true, recurses := true, apart := false }
def FnExactMayTakeSaid : Prop := fnExactMayTakeRow.holds Try.pinned (OpenSpec.ofChange fnExactMayTakeSpec)

/-- ITS FALSE NEIGHBOUR: 'it returns false'. Refute it at one input. -/
def fnExactMayTakeWrong : ChangeSpec := { name := "fnExactMayTake", fn := fun _ => fun
  | [d1, d2, d3] => { results := [.lit (.bool false)], args := [d1, d2, d3] }
  | _ => none }
def FnExactMayTakeWrongFalsely : Prop := fnExactMayTakeRow.holds Try.pinned (OpenSpec.ofChange fnExactMayTakeWrong)

/-- 'laws.FnExactMay': WHATEVER THE INPUT: true; the input reads as it did. -/
def fnExactMaySpec : ChangeSpec := { name := "fnExactMay", fn := fun _ => fun
  | [d1, d2, d3] => { results := [.lit (.bool true)], args := [d1, d2, d3] }
  | _ => none }
def fnExactMayRow : OpenClaim := { program := "ytnoklcpoocaimaa", sum := "9b16909a7ecee084f5b2d13d35373429603a57f56db6b85d8ee76851e0910968", func := "loop.example/g00757/laws.FnExactMay", spec := "fnExactMay", unfollowed := true, recurses := true, apart := false }
def FnExactMaySaid : Prop := fnExactMayRow.holds Try.pinned (OpenSpec.ofChange fnExactMaySpec)

/-- ITS FALSE NEIGHBOUR: 'it returns false'. Refute it at one input. -/
def fnExactMayWrong : ChangeSpec := { name := "fnExactMay", fn := fun _ => fun
  | [d1, d2, d3] => { results := [.lit (.bool false)], args := [d1, d2, d3] }
  | _ => none }
def FnExactMayWrongFalsely : Prop := fnExactMayRow.holds Try.pinned (OpenSpec.ofChange fnExactMayWrong)

/- THE SECOND FORM. 'bulk': how many values and letters a reading holds, each counted each time it is reached (what is shared counts as often as it is met; a slice's spare places count too). A statement '..UptoSaid' is the law's where the arguments, and the package variables that the reading takes, are together of bulk at most 1048576: NARROWER than '..Said'. Prove '..Said' where nothing that the law and all that it calls make is longer than what came in: it says more and counts as full. Else prove '..UptoSaid'. A law counts once. -/
mutual
def uptoBulk {H : Type} : DataW H → Nat
  | .lit (.string bytes) => bytes.length + 1
  | .lit _ => 1
  | .nil => 1
  | .ptr d => uptoBulk d + 1
  | .slice elems spare => uptoBulkAll elems + uptoBulkAll spare + 1
  | .agg parts => uptoBulkAll parts + 1
  | .iface _ d => uptoBulk d + 1
  | .map entries => uptoBulkEntries entries + 1
  | .held _ => 1
def uptoBulkAll {H : Type} : List (DataW H) → Nat
  | [] => 0
  | d :: r => uptoBulk d + uptoBulkAll r
def uptoBulkEntries {H : Type} : List (Lit × DataW H) → Nat
  | [] => 0
  | x :: r => uptoBulkEntry x + uptoBulkEntries r
def uptoBulkEntry {H : Type} : Lit × DataW H → Nat
  | (.string bytes, d) => bytes.length + uptoBulk d + 1
  | (_, d) => uptoBulk d + 1
 end
def uptoSmall : (H : Type) → List (DataW H) → Bool := fun _ ds => decide (uptoBulkAll ds ≤ 1048576)
def OpenSpec.upto (s : _root_.Go.ChangeSpec) : _root_.Go.OpenSpec := { _root_.Go.OpenSpec.ofChange s with cond := some uptoSmall }

/-- 'laws.FnExactCredOf', WHERE WHAT IT READS IS OF BULK AT MOST 1048576: true; the input reads as it did. -/
def fnExactCredOfUptoRow : OpenClaim := { program := "ytnoklcpoocaimaa", sum := "9b16909a7ecee084f5b2d13d35373429603a57f56db6b85d8ee76851e0910968", func := "loop.example/g00757/laws.FnExactCredOf", spec := "fnExactCredOf", apart := false, narrowed := true }
def FnExactCredOfUptoSaid : Prop := fnExactCredOfUptoRow.holds Try.pinned (OpenSpec.upto fnExactCredOfSpec)

/-- 'laws.FnExactAuditOk', WHERE WHAT IT READS IS OF BULK AT MOST 1048576: true; the input reads as it did. -/
def fnExactAuditOkUptoRow : OpenClaim := { program := "ytnoklcpoocaimaa", sum := "9b16909a7ecee084f5b2d13d35373429603a57f56db6b85d8ee76851e0910968", func := "loop.example/g00757/laws.FnExactAuditOk", spec := "fnExactAuditOk", apart := false, narrowed := true }
def FnExactAuditOkUptoSaid : Prop := fnExactAuditOkUptoRow.holds Try.pinned (OpenSpec.upto fnExactAuditOkSpec)

/-- 'laws.FnExactCredOk', WHERE WHAT IT READS IS OF BULK AT MOST 1048576: true; the input reads as it did. -/
def fnExactCredOkUptoRow : OpenClaim := { program := "ytnoklcpoocaimaa", sum := "9b16909a7ecee084f5b2d13d35373429603a57f56db6b85d8ee76851e0910968", func := "loop.example/g00757/laws.FnExactCredOk", spec := "fnExactCredOk", unfollowed := true, recurses := true, apart := false, narrowed := true }
def FnExactCredOkUptoSaid : Prop := fnExactCredOkUptoRow.holds Try.pinned (OpenSpec.upto fnExactCredOkSpec)

/-- 'laws.FnExactIn', WHERE WHAT IT READS IS OF BULK AT MOST 1048576: true; the input reads as it did. -/
def fnExactInUptoRow : OpenClaim := { program := "ytnoklcpoocaimaa", sum := "9b16909a7ecee084f5b2d13d35373429603a57f56db6b85d8ee76851e0910968", func := "loop.example/g00757/laws.FnExactIn", spec := "fnExactIn", unfollowed := true, recurses := true, apart := false, narrowed := true }
def FnExactInUptoSaid : Prop := fnExactInUptoRow.holds Try.pinned (OpenSpec.upto fnExactInSpec)

/-- 'laws.FnMay', WHERE WHAT IT READS IS OF BULK AT MOST 1048576: true; the input reads as it did. -/
def fnMayUptoRow : OpenClaim := { program := "ytnoklcpoocaimaa", sum := "9b16909a7ecee084f5b2d13d35373429603a57f56db6b85d8ee76851e0910968", func := "loop.example/g00757/laws.FnMay", spec := "fnMay", unfollowed := true, recurses := true, apart := false, narrowed := true }
def FnMayUptoSaid : Prop := fnMayUptoRow.holds Try.pinned (OpenSpec.upto fnMaySpec)

/-- 'laws.FnExactShowAudit', WHERE WHAT IT READS IS OF BULK AT MOST 1048576: true; the input reads as it did. -/
def fnExactShowAuditUptoRow : OpenClaim := { program := "ytnoklcpoocaimaa", sum := "9b16909a7ecee084f5b2d13d35373429603a57f56db6b85d8ee76851e0910968", func := "loop.example/g00757/laws.FnExactShowAudit", spec := "fnExactShowAudit", apart := false, narrowed := true }
def FnExactShowAuditUptoSaid : Prop := fnExactShowAuditUptoRow.holds Try.pinned (OpenSpec.upto fnExactShowAuditSpec)

/-- 'laws.FnExactKeptOk', WHERE WHAT IT READS IS OF BULK AT MOST 1048576: true; the input reads as it did. -/
def fnExactKeptOkUptoRow : OpenClaim := { program := "ytnoklcpoocaimaa", sum := "9b16909a7ecee084f5b2d13d35373429603a57f56db6b85d8ee76851e0910968", func := "loop.example/g00757/laws.FnExactKeptOk", spec := "fnExactKeptOk", apart := false, narrowed := true }
def FnExactKeptOkUptoSaid : Prop := fnExactKeptOkUptoRow.holds Try.pinned (OpenSpec.upto fnExactKeptOkSpec)

/-- 'laws.FnExactNewVol', WHERE WHAT IT READS IS OF BULK AT MOST 1048576: true; the input reads as it did. -/
def fnExactNewVolUptoRow : OpenClaim := { program := "ytnoklcpoocaimaa", sum := "9b16909a7ecee084f5b2d13d35373429603a57f56db6b85d8ee76851e0910968", func := "loop.example/g00757/laws.FnExactNewVol", spec := "fnExactNewVol", apart := false, narrowed := true }
def FnExactNewVolUptoSaid : Prop := fnExactNewVolUptoRow.holds Try.pinned (OpenSpec.upto fnExactNewVolSpec)

/-- 'laws.FnExactNewStore', WHERE WHAT IT READS IS OF BULK AT MOST 1048576: true; the input reads as it did. -/
def fnExactNewStoreUptoRow : OpenClaim := { program := "ytnoklcpoocaimaa", sum := "9b16909a7ecee084f5b2d13d35373429603a57f56db6b85d8ee76851e0910968", func := "loop.example/g00757/laws.FnExactNewStore", spec := "fnExactNewStore", apart := false, narrowed := true }
def FnExactNewStoreUptoSaid : Prop := fnExactNewStoreUptoRow.holds Try.pinned (OpenSpec.upto fnExactNewStoreSpec)

/-- 'laws.FnExactMayTake', WHERE WHAT IT READS IS OF BULK AT MOST 1048576: true; the input reads as it did. -/
def fnExactMayTakeUptoRow : OpenClaim := { program := "ytnoklcpoocaimaa", sum := "9b16909a7ecee084f5b2d13d35373429603a57f56db6b85d8ee76851e0910968", func := "loop.example/g00757/laws.FnExactMayTake", spec := "fnExactMayTake", unfollowed := true, recurses := true, apart := false, narrowed := true }
def FnExactMayTakeUptoSaid : Prop := fnExactMayTakeUptoRow.holds Try.pinned (OpenSpec.upto fnExactMayTakeSpec)

/-- 'laws.FnExactMay', WHERE WHAT IT READS IS OF BULK AT MOST 1048576: true; the input reads as it did. -/
def fnExactMayUptoRow : OpenClaim := { program := "ytnoklcpoocaimaa", sum := "9b16909a7ecee084f5b2d13d35373429603a57f56db6b85d8ee76851e0910968", func := "loop.example/g00757/laws.FnExactMay", spec := "fnExactMay", unfollowed := true, recurses := true, apart := false, narrowed := true }
def FnExactMayUptoSaid : Prop := fnExactMayUptoRow.holds Try.pinned (OpenSpec.upto fnExactMaySpec)

end Rows
end Go.Proofs.Ytnoklcpoocaimaa
