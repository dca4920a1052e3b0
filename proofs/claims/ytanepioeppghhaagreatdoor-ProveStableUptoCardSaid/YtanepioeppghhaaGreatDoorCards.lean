/-
  DERIVED. GIVEN WITH THE SEED: THE CARDS: each row of YtanepioeppghhaaGreatDoorRows.lean that lists a variable, with what it lists TIED to the program's text (the seventh form; the later family's looks); each row that meets fmt, with fmt's text TOLD by the authors' own Lean function (tested against real Go, not proved from fmt's source: count such statements apart). THE CARD IS WHAT COUNTS. Prove the row's statement (the work); the ties are given (YtanepioeppghhaaGreatDoorTie.lean); close each card by the builder's one call (the guide's Derived/Test/ToyasCard.lean, 'card_holds'). Laid BY PROGRAM, IN A SANDBOX (cutbox-door.mjs). By AI agents, Wed Nov 11 2026. No macro, syntax, notation, axiom, sorry.
-/
import Derived.Test.YtanepioeppghhaaGreatDoorRows
import GoSem.ClaimSeven
namespace Go.Proofs.YtanepioeppghhaaGreatDoor
namespace Rows

/-- THE TIED CARD OF 'gameplayerlaw15.ProveStable'. -/
def proveStableCard : Claim7 := { stood := { row := proveStableRow, standIns := [], harness := (true, "ae62982819906fef07837df15d38a3f35099e8ce0143fe190d14c272109fe168"), looks := false }, kinds := [], alts := [], laidByText := true, laidKinds := [.widerDeep], laidTests := true, laidLooks := .later }
def ProveStableCardSaid : Prop := Claim7.holds Tryz.pinned (.plain (OpenSpec.ofChange proveStableSpec)) proveStableCard

/-- THE TIED CARD OF 'gameplayerlaw15.ProveGrows'. -/
def proveGrowsCard : Claim7 := { stood := { row := proveGrowsRow, standIns := [], harness := (true, "ae62982819906fef07837df15d38a3f35099e8ce0143fe190d14c272109fe168"), looks := false }, kinds := [], alts := [], laidByText := true, laidKinds := [.widerDeep], laidTests := true, laidLooks := .later }
def ProveGrowsCardSaid : Prop := Claim7.holds Tryz.pinned (.plain (OpenSpec.ofChange proveGrowsSpec)) proveGrowsCard

/-- THE SECOND FORM's CARD OF 'gameplayerlaw15.ProveStable'. -/
def proveStableUptoCard : Claim7 := { stood := { row := proveStableUptoRow, standIns := [], harness := (true, "ae62982819906fef07837df15d38a3f35099e8ce0143fe190d14c272109fe168"), looks := false }, kinds := [], alts := [], laidByText := true, laidKinds := [.widerDeep], laidTests := true, laidLooks := .later }
def ProveStableUptoCardSaid : Prop := Claim7.holds Tryz.pinned (.plain (OpenSpec.upto proveStableSpec)) proveStableUptoCard

/-- THE SECOND FORM's CARD OF 'gameplayerlaw15.ProveGrows'. -/
def proveGrowsUptoCard : Claim7 := { stood := { row := proveGrowsUptoRow, standIns := [], harness := (true, "ae62982819906fef07837df15d38a3f35099e8ce0143fe190d14c272109fe168"), looks := false }, kinds := [], alts := [], laidByText := true, laidKinds := [.widerDeep], laidTests := true, laidLooks := .later }
def ProveGrowsUptoCardSaid : Prop := Claim7.holds Tryz.pinned (.plain (OpenSpec.upto proveGrowsSpec)) proveGrowsUptoCard
end Rows
end Go.Proofs.YtanepioeppghhaaGreatDoor
