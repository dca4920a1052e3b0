/-
  DERIVED. GIVEN WITH THE SEED: THE CARDS: each row of YtbgaambfhmnhhaaGreatDoorRows.lean that lists a variable, with what it lists TIED to the program's text (the seventh form; the later family's looks); each row that meets fmt, with fmt's text TOLD by the authors' own Lean function (tested against real Go, not proved from fmt's source: count such statements apart). THE CARD IS WHAT COUNTS. Prove the row's statement (the work); the ties are given (YtbgaambfhmnhhaaGreatDoorTie.lean); close each card by the builder's one call (the guide's Derived/Test/ToyasCard.lean, 'card_holds'). Laid BY PROGRAM, IN A SANDBOX (cutbox-door.mjs). By AI agents, Wed Nov 11 2026. No macro, syntax, notation, axiom, sorry.
-/
import Derived.Test.YtbgaambfhmnhhaaGreatDoorRows
import GoSem.ClaimSeven
namespace Go.Proofs.YtbgaambfhmnhhaaGreatDoor
namespace Rows

/-- THE TIED CARD OF 'gameplayerlaw16.QueryNone'. -/
def queryNoneCard : Claim7 := { stood := { row := queryNoneRow, standIns := [], harness := (true, "cc35054da0054aef1280ef4c0e0df7a805a95b374681ed14003c7107f168f0e7"), looks := false }, kinds := [], alts := [], laidByText := true, laidKinds := [.widerDeep], laidTests := true, laidLooks := .later }
def QueryNoneCardSaid : Prop := Claim7.holds Tryz.pinned (.plain (OpenSpec.ofChange queryNoneSpec)) queryNoneCard

/-- THE SECOND FORM's CARD OF 'gameplayerlaw16.QueryNone'. -/
def queryNoneUptoCard : Claim7 := { stood := { row := queryNoneUptoRow, standIns := [], harness := (true, "cc35054da0054aef1280ef4c0e0df7a805a95b374681ed14003c7107f168f0e7"), looks := false }, kinds := [], alts := [], laidByText := true, laidKinds := [.widerDeep], laidTests := true, laidLooks := .later }
def QueryNoneUptoCardSaid : Prop := Claim7.holds Tryz.pinned (.plain (OpenSpec.upto queryNoneSpec)) queryNoneUptoCard
end Rows
end Go.Proofs.YtbgaambfhmnhhaaGreatDoor
