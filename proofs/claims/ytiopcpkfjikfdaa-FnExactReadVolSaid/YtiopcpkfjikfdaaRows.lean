/-
  No cell of these rows narrows 'for every input' (looked for: loops, veiled, ifaces, maps, wideKeys, modest, calm, conditions, laid).
  DERIVED. THE GIVEN ROWS OF THIS SEAT. 6 by the template 'for every input the law returns true; each argument reads behind the call as it read before'; 0 by the template 'total and deterministic' (their statements: YtiopcpkfjikfdaaTotals.lean).
  GIVEN WITH THE SEED: the statements are not yours to turn. If you find one false, say at which input.
  Laid BY PROGRAM, IN A SANDBOX (cutbox-rows.mjs): the forced cells as the released guide's own fill.sh prints them over the translation 58123d116cc84e55… (all of the seat's roots in one cut). By AI agents, Wed Nov 11 2026. No macro, syntax, notation, axiom, sorry.
-/
import Derived.Test.YtiopcpkfjikfdaaChecked
import GoSem.Claim
import GoSem.ClaimJoined
import GoSem.ClaimMapViews
import Derived.JoinedTies
import Derived.KernelRfl
namespace Go.Proofs.Ytiopcpkfjikfdaa
/- THE CELL 'sum', in the pinned program and in every row, IS THE sha256 OF THE DUMP (.gsa) THAT YtiopcpkfjikfdaaProg.lean LOADS. Nothing in Lean hashes anything: it is a label: what it is worth is what the hold of that sum in a sandbox is worth. -/
noncomputable def Try.pinned : Pinned := { name := "ytiopcpkfjikfdaa", sum := "58123d116cc84e55e71d1e9b0b97f026ebf157b9a8d3fe3baba9fab64e90b887", checked := Try.checked }
namespace Rows
def none {H : Type} : Left H := { results := [], args := [] }

/-- 'laws.FnExactVolOk': WHATEVER THE INPUT: true; the input reads as it did. -/
def fnExactVolOkSpec : ChangeSpec := { name := "fnExactVolOk", fn := fun _ => fun
  | [d] => { results := [.lit (.bool true)], args := [d] }
  | _ => none }
def fnExactVolOkRow : OpenClaim := { program := "ytiopcpkfjikfdaa", sum := "58123d116cc84e55e71d1e9b0b97f026ebf157b9a8d3fe3baba9fab64e90b887", func := "loop.example/g00757/laws.FnExactVolOk", spec := "fnExactVolOk", unfollowed := true, recurses := true, apart := false }
def FnExactVolOkSaid : Prop := fnExactVolOkRow.holds Try.pinned (OpenSpec.ofChange fnExactVolOkSpec)

/-- ITS FALSE NEIGHBOUR: 'it returns false'. Refute it at one input. -/
def fnExactVolOkWrong : ChangeSpec := { name := "fnExactVolOk", fn := fun _ => fun
  | [d] => { results := [.lit (.bool false)], args := [d] }
  | _ => none }
def FnExactVolOkWrongFalsely : Prop := fnExactVolOkRow.holds Try.pinned (OpenSpec.ofChange fnExactVolOkWrong)

/-- 'laws.FnExactUsage': WHATEVER THE INPUT: true; the input reads as it did. -/
def fnExactUsageSpec : ChangeSpec := { name := "fnExactUsage", fn := fun _ => fun
  | [d1, d2] => { results := [.lit (.bool true)], args := [d1, d2] }
  | _ => none }
def fnExactUsageRow : OpenClaim := { program := "ytiopcpkfjikfdaa", sum := "58123d116cc84e55e71d1e9b0b97f026ebf157b9a8d3fe3baba9fab64e90b887", func := "loop.example/g00757/laws.FnExactUsage", spec := "fnExactUsage", unfollowed := true, recurses := true, apart := false }
def FnExactUsageSaid : Prop := fnExactUsageRow.holds Try.pinned (OpenSpec.ofChange fnExactUsageSpec)

/-- ITS FALSE NEIGHBOUR: 'it returns false'. Refute it at one input. -/
def fnExactUsageWrong : ChangeSpec := { name := "fnExactUsage", fn := fun _ => fun
  | [d1, d2] => { results := [.lit (.bool false)], args := [d1, d2] }
  | _ => none }
def FnExactUsageWrongFalsely : Prop := fnExactUsageRow.holds Try.pinned (OpenSpec.ofChange fnExactUsageWrong)

/-- 'laws.FnExactParent': WHATEVER THE INPUT: true; the input reads as it did. -/
def fnExactParentSpec : ChangeSpec := { name := "fnExactParent", fn := fun _ => fun
  | [d1, d2] => { results := [.lit (.bool true)], args := [d1, d2] }
  | _ => none }
def fnExactParentRow : OpenClaim := { program := "ytiopcpkfjikfdaa", sum := "58123d116cc84e55e71d1e9b0b97f026ebf157b9a8d3fe3baba9fab64e90b887", func := "loop.example/g00757/laws.FnExactParent", spec := "fnExactParent", unfollowed := true, recurses := true, apart := false }
def FnExactParentSaid : Prop := fnExactParentRow.holds Try.pinned (OpenSpec.ofChange fnExactParentSpec)

/-- ITS FALSE NEIGHBOUR: 'it returns false'. Refute it at one input. -/
def fnExactParentWrong : ChangeSpec := { name := "fnExactParent", fn := fun _ => fun
  | [d1, d2] => { results := [.lit (.bool false)], args := [d1, d2] }
  | _ => none }
def FnExactParentWrongFalsely : Prop := fnExactParentRow.holds Try.pinned (OpenSpec.ofChange fnExactParentWrong)

/-- 'laws.FnExactLinks': WHATEVER THE INPUT: true; the input reads as it did. -/
def fnExactLinksSpec : ChangeSpec := { name := "fnExactLinks", fn := fun _ => fun
  | [d1, d2] => { results := [.lit (.bool true)], args := [d1, d2] }
  | _ => none }
def fnExactLinksRow : OpenClaim := { program := "ytiopcpkfjikfdaa", sum := "58123d116cc84e55e71d1e9b0b97f026ebf157b9a8d3fe3baba9fab64e90b887", func := "loop.example/g00757/laws.FnExactLinks", spec := "fnExactLinks", unfollowed := true, recurses := true, apart := false }
def FnExactLinksSaid : Prop := fnExactLinksRow.holds Try.pinned (OpenSpec.ofChange fnExactLinksSpec)

/-- ITS FALSE NEIGHBOUR: 'it returns false'. Refute it at one input. -/
def fnExactLinksWrong : ChangeSpec := { name := "fnExactLinks", fn := fun _ => fun
  | [d1, d2] => { results := [.lit (.bool false)], args := [d1, d2] }
  | _ => none }
def FnExactLinksWrongFalsely : Prop := fnExactLinksRow.holds Try.pinned (OpenSpec.ofChange fnExactLinksWrong)

/-- 'laws.FnExactShowVol': WHATEVER THE INPUT: true; the input reads as it did. -/
def fnExactShowVolSpec : ChangeSpec := { name := "fnExactShowVol", fn := fun _ => fun
  | [d] => { results := [.lit (.bool true)], args := [d] }
  | _ => none }
def fnExactShowVolRow : OpenClaim := { program := "ytiopcpkfjikfdaa", sum := "58123d116cc84e55e71d1e9b0b97f026ebf157b9a8d3fe3baba9fab64e90b887", func := "loop.example/g00757/laws.FnExactShowVol", spec := "fnExactShowVol", unfollowed := true, recurses := true, apart := false }
def FnExactShowVolSaid : Prop := fnExactShowVolRow.holds Try.pinned (OpenSpec.ofChange fnExactShowVolSpec)

/-- ITS FALSE NEIGHBOUR: 'it returns false'. Refute it at one input. -/
def fnExactShowVolWrong : ChangeSpec := { name := "fnExactShowVol", fn := fun _ => fun
  | [d] => { results := [.lit (.bool false)], args := [d] }
  | _ => none }
def FnExactShowVolWrongFalsely : Prop := fnExactShowVolRow.holds Try.pinned (OpenSpec.ofChange fnExactShowVolWrong)

/-- 'laws.FnExactReadVol': WHATEVER THE INPUT: true; the input reads as it did. -/
def fnExactReadVolSpec : ChangeSpec := { name := "fnExactReadVol", fn := fun _ => fun
  | [d] => { results := [.lit (.bool true)], args := [d] }
  | _ => none }
def fnExactReadVolRow : OpenClaim := { program := "ytiopcpkfjikfdaa", sum := "58123d116cc84e55e71d1e9b0b97f026ebf157b9a8d3fe3baba9fab64e90b887", func := "loop.example/g00757/laws.FnExactReadVol", spec := "fnExactReadVol", unfollowed := true, recurses := true, apart := false }
def FnExactReadVolSaid : Prop := fnExactReadVolRow.holds Try.pinned (OpenSpec.ofChange fnExactReadVolSpec)

/-- ITS FALSE NEIGHBOUR: 'it returns false'. Refute it at one input. -/
def fnExactReadVolWrong : ChangeSpec := { name := "fnExactReadVol", fn := fun _ => fun
  | [d] => { results := [.lit (.bool false)], args := [d] }
  | _ => none }
def FnExactReadVolWrongFalsely : Prop := fnExactReadVolRow.holds Try.pinned (OpenSpec.ofChange fnExactReadVolWrong)

/- THE SECOND FORM. 'bulk': how many values and letters a reading holds, each counted each time it is reached (what is shared counts as often as it is met; a slice's spare places count too). A statement '..UptoSaid' is the law's where the arguments, and the package variables that the reading takes, are together of bulk at most 1048576: NARROWER than '..Said'. Prove '..Said' where nothing that the law and all that it calls make is longer than what came in: it says more and counts as full. Else prove '..UptoSaid'. A law counts once. -/
mutual
def uptoBulk {H : Type} : DataW H → Nat
  | .lit (.string bytes) => bytes.length + 1
  | .lit _ => 1
  | .nil => 1
  | .ptr d => uptoBulk d + 1
  | .slice elems spare => uptoBulkAll elems + uptoBulkAll spare + 1
  | .agg parts => uptoBulkAll parts + 1
  | .iface _ d => uptoBulk d + 1
  | .map entries => uptoBulkEntries entries + 1
  | .held _ => 1
def uptoBulkAll {H : Type} : List (DataW H) → Nat
  | [] => 0
  | d :: r => uptoBulk d + uptoBulkAll r
def uptoBulkEntries {H : Type} : List (Lit × DataW H) → Nat
  | [] => 0
  | x :: r => uptoBulkEntry x + uptoBulkEntries r
def uptoBulkEntry {H : Type} : Lit × DataW H → Nat
  | (.string bytes, d) => bytes.length + uptoBulk d + 1
  | (_, d) => uptoBulk d + 1
 end
def uptoSmall : (H : Type) → List (DataW H) → Bool := fun _ ds => decide (uptoBulkAll ds ≤ 1048576)
def OpenSpec.upto (s : _root_.Go.ChangeSpec) : _root_.Go.OpenSpec := { _root_.Go.OpenSpec.ofChange s with cond := some uptoSmall }

/-- 'laws.FnExactVolOk', WHERE WHAT IT READS IS OF BULK AT MOST 1048576: true; the input reads as it did. -/
def fnExactVolOkUptoRow : OpenClaim := { program := "ytiopcpkfjikfdaa", sum := "58123d116cc84e55e71d1e9b0b97f026ebf157b9a8d3fe3baba9fab64e90b887", func := "loop.example/g00757/laws.FnExactVolOk", spec := "fnExactVolOk", unfollowed := true, recurses := true, apart := false, narrowed := true }
def FnExactVolOkUptoSaid : Prop := fnExactVolOkUptoRow.holds Try.pinned (OpenSpec.upto fnExactVolOkSpec)

/-- 'laws.FnExactUsage', WHERE WHAT IT READS IS OF BULK AT MOST 1048576: true; the input reads as it did. -/
def fnExactUsageUptoRow : OpenClaim := { program := "ytiopcpkfjikfdaa", sum := "58123d116cc84e55e71d1e9b0b97f026ebf157b9a8d3fe3baba9fab64e90b887", func := "loop.example/g00757/laws.FnExactUsage", spec := "fnExactUsage", unfollowed := true, recurses := true, apart := false, narrowed := true }
def FnExactUsageUptoSaid : Prop := fnExactUsageUptoRow.holds Try.pinned (OpenSpec.upto fnExactUsageSpec)

/-- 'laws.FnExactParent', WHERE WHAT IT READS IS OF BULK AT MOST 1048576: true; the input reads as it did. -/
def fnExactParentUptoRow : OpenClaim := { program := "ytiopcpkfjikfdaa", sum := "58123d116cc84e55e71d1e9b0b97f026ebf157b9a8d3fe3baba9fab64e90b887", func := "loop.example/g00757/laws.FnExactParent", spec := "fnExactParent", unfollowed := true, recurses := true, apart := false, narrowed := true }
def FnExactParentUptoSaid : Prop := fnExactParentUptoRow.holds Try.pinned (OpenSpec.upto fnExactParentSpec)

/-- 'laws.FnExactLinks', WHERE WHAT IT READS IS OF BULK AT MOST 1048576: true; the input reads as it did. -/
def fnExactLinksUptoRow : OpenClaim := { program := "ytiopcpkfjikfdaa", sum := "58123d116cc84e55e71d1e9b0b97f026ebf157b9a8d3fe3baba9fab64e90b887", func := "loop.example/g00757/laws.FnExactLinks", spec := "fnExactLinks", unfollowed := true, recurses := true, apart := false, narrowed := true }
def FnExactLinksUptoSaid : Prop := fnExactLinksUptoRow.holds Try.pinned (OpenSpec.upto fnExactLinksSpec)

/-- 'laws.FnExactShowVol', WHERE WHAT IT READS IS OF BULK AT MOST 1048576: true; the input reads as it did. -/
def fnExactShowVolUptoRow : OpenClaim := { program := "ytiopcpkfjikfdaa", sum := "58123d116cc84e55e71d1e9b0b97f026ebf157b9a8d3fe3baba9fab64e90b887", func := "loop.example/g00757/laws.FnExactShowVol", spec := "fnExactShowVol", unfollowed := true, recurses := true, apart := false, narrowed := true }
def FnExactShowVolUptoSaid : Prop := fnExactShowVolUptoRow.holds Try.pinned (OpenSpec.upto fnExactShowVolSpec)

/-- 'laws.FnExactReadVol', WHERE WHAT IT READS IS OF BULK AT MOST 1048576: true; the input reads as it did. -/
def fnExactReadVolUptoRow : OpenClaim := { program := "ytiopcpkfjikfdaa", sum := "58123d116cc84e55e71d1e9b0b97f026ebf157b9a8d3fe3baba9fab64e90b887", func := "loop.example/g00757/laws.FnExactReadVol", spec := "fnExactReadVol", unfollowed := true, recurses := true, apart := false, narrowed := true }
def FnExactReadVolUptoSaid : Prop := fnExactReadVolUptoRow.holds Try.pinned (OpenSpec.upto fnExactReadVolSpec)

end Rows
end Go.Proofs.Ytiopcpkfjikfdaa
