/-
  DERIVED. GIVEN WITH THE SEED: THE CARDS: each row of YtljpaghckmbmlaaGreatDoorRows.lean that lists a variable, with what it lists TIED to the program's text (the seventh form; the later family's looks); each row that meets fmt, with fmt's text TOLD by the authors' own Lean function (tested against real Go, not proved from fmt's source: count such statements apart). THE CARD IS WHAT COUNTS. Prove the row's statement (the work); the ties are given (YtljpaghckmbmlaaGreatDoorTie.lean); close each card by the builder's one call (the guide's Derived/Test/ToyasCard.lean, 'card_holds'). Laid BY PROGRAM, IN A SANDBOX (cutbox-door.mjs). By AI agents, Wed Nov 11 2026. No macro, syntax, notation, axiom, sorry.
-/
import Derived.Test.YtljpaghckmbmlaaGreatDoorRows
import GoSem.ClaimSeven
namespace Go.Proofs.YtljpaghckmbmlaaGreatDoor
namespace Rows

/-- THE TIED CARD OF 'gameplayerlaw15.ProveFacts'. -/
def proveFactsCard : Claim7 := { stood := { row := proveFactsRow, standIns := [], harness := (true, "73866dfe4fd0c4ec94104bfa789329c51e59f8dcd273e6fb30761abdec6f6f2a"), looks := false }, kinds := [], alts := [], laidByText := true, laidKinds := [.widerDeep], laidTests := true, laidLooks := .later }
def ProveFactsCardSaid : Prop := Claim7.holds Tryz.pinned (.plain (OpenSpec.ofChange proveFactsSpec)) proveFactsCard

/-- THE TIED CARD OF 'gameplayerlaw15.ProveRounds'. -/
def proveRoundsCard : Claim7 := { stood := { row := proveRoundsRow, standIns := [], harness := (true, "73866dfe4fd0c4ec94104bfa789329c51e59f8dcd273e6fb30761abdec6f6f2a"), looks := false }, kinds := [], alts := [], laidByText := true, laidKinds := [.widerDeep], laidTests := true, laidLooks := .later }
def ProveRoundsCardSaid : Prop := Claim7.holds Tryz.pinned (.plain (OpenSpec.ofChange proveRoundsSpec)) proveRoundsCard

/-- THE TIED CARD OF 'gameplayerlaw15.ProveAnswers'. -/
def proveAnswersCard : Claim7 := { stood := { row := proveAnswersRow, standIns := [], harness := (true, "73866dfe4fd0c4ec94104bfa789329c51e59f8dcd273e6fb30761abdec6f6f2a"), looks := false }, kinds := [], alts := [], laidByText := true, laidKinds := [.widerDeep], laidTests := true, laidLooks := .later }
def ProveAnswersCardSaid : Prop := Claim7.holds Tryz.pinned (.plain (OpenSpec.ofChange proveAnswersSpec)) proveAnswersCard

/-- THE SECOND FORM's CARD OF 'gameplayerlaw15.ProveFacts'. -/
def proveFactsUptoCard : Claim7 := { stood := { row := proveFactsUptoRow, standIns := [], harness := (true, "73866dfe4fd0c4ec94104bfa789329c51e59f8dcd273e6fb30761abdec6f6f2a"), looks := false }, kinds := [], alts := [], laidByText := true, laidKinds := [.widerDeep], laidTests := true, laidLooks := .later }
def ProveFactsUptoCardSaid : Prop := Claim7.holds Tryz.pinned (.plain (OpenSpec.upto proveFactsSpec)) proveFactsUptoCard

/-- THE SECOND FORM's CARD OF 'gameplayerlaw15.ProveRounds'. -/
def proveRoundsUptoCard : Claim7 := { stood := { row := proveRoundsUptoRow, standIns := [], harness := (true, "73866dfe4fd0c4ec94104bfa789329c51e59f8dcd273e6fb30761abdec6f6f2a"), looks := false }, kinds := [], alts := [], laidByText := true, laidKinds := [.widerDeep], laidTests := true, laidLooks := .later }
def ProveRoundsUptoCardSaid : Prop := Claim7.holds Tryz.pinned (.plain (OpenSpec.upto proveRoundsSpec)) proveRoundsUptoCard

/-- THE SECOND FORM's CARD OF 'gameplayerlaw15.ProveAnswers'. -/
def proveAnswersUptoCard : Claim7 := { stood := { row := proveAnswersUptoRow, standIns := [], harness := (true, "73866dfe4fd0c4ec94104bfa789329c51e59f8dcd273e6fb30761abdec6f6f2a"), looks := false }, kinds := [], alts := [], laidByText := true, laidKinds := [.widerDeep], laidTests := true, laidLooks := .later }
def ProveAnswersUptoCardSaid : Prop := Claim7.holds Tryz.pinned (.plain (OpenSpec.upto proveAnswersSpec)) proveAnswersUptoCard
end Rows
end Go.Proofs.YtljpaghckmbmlaaGreatDoor
