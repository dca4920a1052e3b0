/-
  DERIVED. GIVEN WITH THE SEED: THE CARDS: each row of YtjpfdkecffnlbaaGreatDoorRows.lean that lists a variable, with what it lists TIED to the program's text (the seventh form; the later family's looks); each row that meets fmt, with fmt's text TOLD by the authors' own Lean function (tested against real Go, not proved from fmt's source: count such statements apart). THE CARD IS WHAT COUNTS. Prove the row's statement (the work); the ties are given (YtjpfdkecffnlbaaGreatDoorTie.lean); close each card by the builder's one call (the guide's Derived/Test/ToyasCard.lean, 'card_holds'). Laid BY PROGRAM, IN A SANDBOX (cutbox-door.mjs). By AI agents, Wed Nov 11 2026. No macro, syntax, notation, axiom, sorry.
-/
import Derived.Test.YtjpfdkecffnlbaaGreatDoorRows
import GoSem.ClaimSeven
namespace Go.Proofs.YtjpfdkecffnlbaaGreatDoor
namespace Rows

/-- THE TIED CARD OF 'gameplayerlaw15.ProveFacts'. -/
def proveFactsCard : Claim7 := { stood := { row := proveFactsRow, standIns := [], harness := (true, "8b11ddd31c26be96ef1f3c596526d5459b2bc93e073b863e0c1f035a3d68da7a"), looks := false }, kinds := [], alts := [], laidByText := true, laidKinds := [.widerDeep], laidTests := true, laidLooks := .later }
def ProveFactsCardSaid : Prop := Claim7.holds Tryz.pinned (.plain (OpenSpec.ofChange proveFactsSpec)) proveFactsCard

/-- THE TIED CARD OF 'gameplayerlaw15.ProveGiven'. -/
def proveGivenCard : Claim7 := { stood := { row := proveGivenRow, standIns := [], harness := (true, "8b11ddd31c26be96ef1f3c596526d5459b2bc93e073b863e0c1f035a3d68da7a"), looks := false }, kinds := [], alts := [], laidByText := true, laidKinds := [.widerDeep], laidTests := true, laidLooks := .later }
def ProveGivenCardSaid : Prop := Claim7.holds Tryz.pinned (.plain (OpenSpec.ofChange proveGivenSpec)) proveGivenCard

/-- THE SECOND FORM's CARD OF 'gameplayerlaw15.ProveFacts'. -/
def proveFactsUptoCard : Claim7 := { stood := { row := proveFactsUptoRow, standIns := [], harness := (true, "8b11ddd31c26be96ef1f3c596526d5459b2bc93e073b863e0c1f035a3d68da7a"), looks := false }, kinds := [], alts := [], laidByText := true, laidKinds := [.widerDeep], laidTests := true, laidLooks := .later }
def ProveFactsUptoCardSaid : Prop := Claim7.holds Tryz.pinned (.plain (OpenSpec.upto proveFactsSpec)) proveFactsUptoCard

/-- THE SECOND FORM's CARD OF 'gameplayerlaw15.ProveGiven'. -/
def proveGivenUptoCard : Claim7 := { stood := { row := proveGivenUptoRow, standIns := [], harness := (true, "8b11ddd31c26be96ef1f3c596526d5459b2bc93e073b863e0c1f035a3d68da7a"), looks := false }, kinds := [], alts := [], laidByText := true, laidKinds := [.widerDeep], laidTests := true, laidLooks := .later }
def ProveGivenUptoCardSaid : Prop := Claim7.holds Tryz.pinned (.plain (OpenSpec.upto proveGivenSpec)) proveGivenUptoCard
end Rows
end Go.Proofs.YtjpfdkecffnlbaaGreatDoor
