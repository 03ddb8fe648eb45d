/-
  DERIVED. GIVEN WITH THE SEED: THE CARDS: each row of YtiopcpkfjikfdaaGreatDoorRows.lean that lists a variable, with what it lists TIED to the program's text (the seventh form; the later family's looks); each row that meets fmt, with fmt's text TOLD by the authors' own Lean function (tested against real Go, not proved from fmt's source: count such statements apart). THE CARD IS WHAT COUNTS. Prove the row's statement (the work); the ties are given (YtiopcpkfjikfdaaGreatDoorTie.lean); close each card by the builder's one call (the guide's Derived/Test/ToyasCard.lean, 'card_holds'). Laid BY PROGRAM, IN A SANDBOX (cutbox-door.mjs). By AI agents, Wed Nov 11 2026. No macro, syntax, notation, axiom, sorry.
-/
import Derived.Test.YtiopcpkfjikfdaaGreatDoorRows
import GoSem.ClaimSeven
namespace Go.Proofs.YtiopcpkfjikfdaaGreatDoor
namespace Rows

/-- THE TIED CARD OF 'laws.FnClean'. -/
def fnCleanCard : Claim7 := { stood := { row := fnCleanRow, standIns := [], harness := (true, "605f345f20569f5a0ea51e43ed5b0e99fa11020cd1dcf79c3c2e335e8037c2ab"), looks := false }, kinds := [], alts := [], laidByText := true, laidKinds := [.data, .pinned], laidTests := true, laidLooks := .later }
def FnCleanCardSaid : Prop := Claim7.holds Tryz.pinned (.plain (OpenSpec.ofChange fnCleanSpec)) fnCleanCard

/-- THE SECOND FORM's CARD OF 'laws.FnClean'. -/
def fnCleanUptoCard : Claim7 := { stood := { row := fnCleanUptoRow, standIns := [], harness := (true, "605f345f20569f5a0ea51e43ed5b0e99fa11020cd1dcf79c3c2e335e8037c2ab"), looks := false }, kinds := [], alts := [], laidByText := true, laidKinds := [.data, .pinned], laidTests := true, laidLooks := .later }
def FnCleanUptoCardSaid : Prop := Claim7.holds Tryz.pinned (.plain (OpenSpec.upto fnCleanSpec)) fnCleanUptoCard
end Rows
end Go.Proofs.YtiopcpkfjikfdaaGreatDoor
