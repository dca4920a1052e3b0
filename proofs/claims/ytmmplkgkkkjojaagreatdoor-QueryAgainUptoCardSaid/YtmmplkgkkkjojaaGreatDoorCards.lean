/-
  DERIVED. GIVEN WITH THE SEED: THE CARDS: each row of YtmmplkgkkkjojaaGreatDoorRows.lean that lists a variable, with what it lists TIED to the program's text (the seventh form; the later family's looks); each row that meets fmt, with fmt's text TOLD by the authors' own Lean function (tested against real Go, not proved from fmt's source: count such statements apart). THE CARD IS WHAT COUNTS. Prove the row's statement (the work); the ties are given (YtmmplkgkkkjojaaGreatDoorTie.lean); close each card by the builder's one call (the guide's Derived/Test/ToyasCard.lean, 'card_holds'). Laid BY PROGRAM, IN A SANDBOX (cutbox-door.mjs). By AI agents, Wed Nov 11 2026. No macro, syntax, notation, axiom, sorry.
-/
import Derived.Test.YtmmplkgkkkjojaaGreatDoorRows
import GoSem.ClaimSeven
namespace Go.Proofs.YtmmplkgkkkjojaaGreatDoor
namespace Rows

/-- THE TIED CARD OF 'gameplayerlaw16.QueryMatches'. -/
def queryMatchesCard : Claim7 := { stood := { row := queryMatchesRow, standIns := [], harness := (true, "94421db739e3e33cc9b189afdb39abe20ed25184960e05283dce05a301ac28fd"), looks := false }, kinds := [], alts := [], laidByText := true, laidKinds := [.widerDeep], laidTests := true, laidLooks := .later }
def QueryMatchesCardSaid : Prop := Claim7.holds Tryz.pinned (.plain (OpenSpec.ofChange queryMatchesSpec)) queryMatchesCard

/-- THE TIED CARD OF 'gameplayerlaw16.QueryFresh'. -/
def queryFreshCard : Claim7 := { stood := { row := queryFreshRow, standIns := [], harness := (true, "94421db739e3e33cc9b189afdb39abe20ed25184960e05283dce05a301ac28fd"), looks := false }, kinds := [], alts := [], laidByText := true, laidKinds := [.widerDeep], laidTests := true, laidLooks := .later }
def QueryFreshCardSaid : Prop := Claim7.holds Tryz.pinned (.plain (OpenSpec.ofChange queryFreshSpec)) queryFreshCard

/-- THE TIED CARD OF 'gameplayerlaw16.QueryAgain'. -/
def queryAgainCard : Claim7 := { stood := { row := queryAgainRow, standIns := [], harness := (true, "94421db739e3e33cc9b189afdb39abe20ed25184960e05283dce05a301ac28fd"), looks := false }, kinds := [], alts := [], laidByText := true, laidKinds := [.widerDeep], laidTests := true, laidLooks := .later }
def QueryAgainCardSaid : Prop := Claim7.holds Tryz.pinned (.plain (OpenSpec.ofChange queryAgainSpec)) queryAgainCard

/-- THE TIED CARD OF 'gameplayerlaw16.QueryStays'. -/
def queryStaysCard : Claim7 := { stood := { row := queryStaysRow, standIns := [], harness := (true, "94421db739e3e33cc9b189afdb39abe20ed25184960e05283dce05a301ac28fd"), looks := false }, kinds := [], alts := [], laidByText := true, laidKinds := [.widerDeep], laidTests := true, laidLooks := .later }
def QueryStaysCardSaid : Prop := Claim7.holds Tryz.pinned (.plain (OpenSpec.ofChange queryStaysSpec)) queryStaysCard

/-- THE SECOND FORM's CARD OF 'gameplayerlaw16.QueryMatches'. -/
def queryMatchesUptoCard : Claim7 := { stood := { row := queryMatchesUptoRow, standIns := [], harness := (true, "94421db739e3e33cc9b189afdb39abe20ed25184960e05283dce05a301ac28fd"), looks := false }, kinds := [], alts := [], laidByText := true, laidKinds := [.widerDeep], laidTests := true, laidLooks := .later }
def QueryMatchesUptoCardSaid : Prop := Claim7.holds Tryz.pinned (.plain (OpenSpec.upto queryMatchesSpec)) queryMatchesUptoCard

/-- THE SECOND FORM's CARD OF 'gameplayerlaw16.QueryFresh'. -/
def queryFreshUptoCard : Claim7 := { stood := { row := queryFreshUptoRow, standIns := [], harness := (true, "94421db739e3e33cc9b189afdb39abe20ed25184960e05283dce05a301ac28fd"), looks := false }, kinds := [], alts := [], laidByText := true, laidKinds := [.widerDeep], laidTests := true, laidLooks := .later }
def QueryFreshUptoCardSaid : Prop := Claim7.holds Tryz.pinned (.plain (OpenSpec.upto queryFreshSpec)) queryFreshUptoCard

/-- THE SECOND FORM's CARD OF 'gameplayerlaw16.QueryAgain'. -/
def queryAgainUptoCard : Claim7 := { stood := { row := queryAgainUptoRow, standIns := [], harness := (true, "94421db739e3e33cc9b189afdb39abe20ed25184960e05283dce05a301ac28fd"), looks := false }, kinds := [], alts := [], laidByText := true, laidKinds := [.widerDeep], laidTests := true, laidLooks := .later }
def QueryAgainUptoCardSaid : Prop := Claim7.holds Tryz.pinned (.plain (OpenSpec.upto queryAgainSpec)) queryAgainUptoCard

/-- THE SECOND FORM's CARD OF 'gameplayerlaw16.QueryStays'. -/
def queryStaysUptoCard : Claim7 := { stood := { row := queryStaysUptoRow, standIns := [], harness := (true, "94421db739e3e33cc9b189afdb39abe20ed25184960e05283dce05a301ac28fd"), looks := false }, kinds := [], alts := [], laidByText := true, laidKinds := [.widerDeep], laidTests := true, laidLooks := .later }
def QueryStaysUptoCardSaid : Prop := Claim7.holds Tryz.pinned (.plain (OpenSpec.upto queryStaysSpec)) queryStaysUptoCard
end Rows
end Go.Proofs.YtmmplkgkkkjojaaGreatDoor
