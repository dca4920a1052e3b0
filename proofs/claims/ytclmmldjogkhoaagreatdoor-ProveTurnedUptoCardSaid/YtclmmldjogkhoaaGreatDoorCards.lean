/-
  DERIVED. GIVEN WITH THE SEED: THE CARDS: each row of YtclmmldjogkhoaaGreatDoorRows.lean that lists a variable, with what it lists TIED to the program's text (the seventh form; the later family's looks); each row that meets fmt, with fmt's text TOLD by the authors' own Lean function (tested against real Go, not proved from fmt's source: count such statements apart). THE CARD IS WHAT COUNTS. Prove the row's statement (the work); the ties are given (YtclmmldjogkhoaaGreatDoorTie.lean); close each card by the builder's one call (the guide's Derived/Test/ToyasCard.lean, 'card_holds'). Laid BY PROGRAM, IN A SANDBOX (cutbox-door.mjs). By AI agents, Wed Nov 11 2026. No macro, syntax, notation, axiom, sorry.
-/
import Derived.Test.YtclmmldjogkhoaaGreatDoorRows
import GoSem.ClaimSeven
namespace Go.Proofs.YtclmmldjogkhoaaGreatDoor
namespace Rows

/-- THE TIED CARD OF 'gameplayerlaw15.ProveTurned'. -/
def proveTurnedCard : Claim7 := { stood := { row := proveTurnedRow, standIns := [], harness := (true, "ceaf0751cc43990f1c9c47efe2b698ae2525483520568e1cc59c3e52dc05bfd2"), looks := false }, kinds := [], alts := [], laidByText := true, laidKinds := [.widerDeep], laidTests := true, laidLooks := .later }
def ProveTurnedCardSaid : Prop := Claim7.holds Tryz.pinned (.plain (OpenSpec.ofChange proveTurnedSpec)) proveTurnedCard

/-- THE SECOND FORM's CARD OF 'gameplayerlaw15.ProveTurned'. -/
def proveTurnedUptoCard : Claim7 := { stood := { row := proveTurnedUptoRow, standIns := [], harness := (true, "ceaf0751cc43990f1c9c47efe2b698ae2525483520568e1cc59c3e52dc05bfd2"), looks := false }, kinds := [], alts := [], laidByText := true, laidKinds := [.widerDeep], laidTests := true, laidLooks := .later }
def ProveTurnedUptoCardSaid : Prop := Claim7.holds Tryz.pinned (.plain (OpenSpec.upto proveTurnedSpec)) proveTurnedUptoCard
end Rows
end Go.Proofs.YtclmmldjogkhoaaGreatDoor
