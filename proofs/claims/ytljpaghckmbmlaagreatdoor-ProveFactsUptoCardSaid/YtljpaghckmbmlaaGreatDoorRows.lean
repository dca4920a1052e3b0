/-
  NARROWER THAN 'FOR EVERY INPUT', by the rows' own cells (each row's printed sentence says how): ProveFacts: loops, laid · ProveRounds: loops, laid · ProveAnswers: loops, laid.
  DERIVED. THE GIVEN ROWS OF THIS SEAT. 3 by the template 'for every input the law returns true; each argument reads behind the call as it read before'; 0 by the template 'total and deterministic' (their statements: YtljpaghckmbmlaaGreatDoorTotals.lean).
  GIVEN WITH THE SEED: the statements are not yours to turn. If you find one false, say at which input.
  Laid BY PROGRAM, IN A SANDBOX (cutbox-rows.mjs): the forced cells as the released guide's own fill.sh prints them over the translation 97e0f0247299d737… (all of the seat's roots in one cut). By AI agents, Wed Nov 11 2026. No macro, syntax, notation, axiom, sorry.
-/
import Derived.Test.YtljpaghckmbmlaaGreatDoorChecked
import GoSem.Claim
import GoSem.ClaimJoined
import GoSem.ClaimMapViews
import Derived.JoinedTies
import Derived.KernelRfl
namespace Go.Proofs.YtljpaghckmbmlaaGreatDoor
/- THE CELL 'sum', in the pinned program and in every row, IS THE sha256 OF THE DUMP (.gsa) THAT YtljpaghckmbmlaaGreatDoorProg.lean LOADS. Nothing in Lean hashes anything: it is a label: what it is worth is what the hold of that sum in a sandbox is worth. -/
noncomputable def Tryz.pinned : Pinned := { name := "ytljpaghckmbmlaagreatdoor", sum := "97e0f0247299d737a781fcd8c1ae4c7daa46b7b2e6eb08bab09da3e522226838", checked := Tryz.checked }
namespace Rows
def none {H : Type} : Left H := { results := [], args := [] }

/- WHAT THE LISTED PACKAGE-LEVEL VARIABLES READ AS WHEN THE CALL BEGINS. Each datum BY PROGRAM (the guide's laid-datum.mjs) off the statement by which the dump's own 'gosem.cut.vars' lays the variable. In a bare row this is a premise. The card (YtljpaghckmbmlaaGreatDoorCards.lean) ties it to the program's text. -/
def laid_gameplayer_check_keywords {H : Type} : DataW H := .agg [.agg [.lit (.string [114, 111, 108, 101]), .lit (.int .i64 1), .lit (.bool true), .lit (.bool true)], .agg [.lit (.string [105, 110, 105, 116]), .lit (.int .i64 1), .lit (.bool true), .lit (.bool false)], .agg [.lit (.string [116, 114, 117, 101]), .lit (.int .i64 1), .lit (.bool false), .lit (.bool true)], .agg [.lit (.string [100, 111, 101, 115]), .lit (.int .i64 2), .lit (.bool false), .lit (.bool true)], .agg [.lit (.string [108, 101, 103, 97, 108]), .lit (.int .i64 2), .lit (.bool true), .lit (.bool false)], .agg [.lit (.string [110, 101, 120, 116]), .lit (.int .i64 1), .lit (.bool true), .lit (.bool false)], .agg [.lit (.string [116, 101, 114, 109, 105, 110, 97, 108]), .lit (.int .i64 0), .lit (.bool true), .lit (.bool false)], .agg [.lit (.string [103, 111, 97, 108]), .lit (.int .i64 2), .lit (.bool true), .lit (.bool false)], .agg [.lit (.string [115, 101, 101, 115]), .lit (.int .i64 2), .lit (.bool true), .lit (.bool false)], .agg [.lit (.string [100, 105, 115, 116, 105, 110, 99, 116]), .lit (.int .i64 2), .lit (.bool false), .lit (.bool true)]]

/-- 'gameplayerlaw15.ProveFacts': WHATEVER THE INPUT: true; the input reads as it did. -/
def proveFactsSpec : ChangeSpec := { name := "proveFacts", fn := fun _ => fun
  | [d1, d2] => { results := [.lit (.bool true)], args := [d1, d2] }
  | _ => none }
def proveFactsRow : OpenClaim := { program := "ytljpaghckmbmlaagreatdoor", sum := "97e0f0247299d737a781fcd8c1ae4c7daa46b7b2e6eb08bab09da3e522226838", func := "gameplayer/gameplayerlaw15.ProveFacts", spec := "proveFacts", inPlace := ["internal/abi.NoEscape", "internal/bytealg.abigen_runtime_cmpstring", "slices.overlaps[gameplayer/api.Binding]"], unfollowed := true, recurses := true, named := ["gameplayer/check.keywords"], loops := true, plainKeys := false, apart := false, laid := [("gameplayer/check.keywords", laid_gameplayer_check_keywords)] }
def ProveFactsSaid : Prop := proveFactsRow.holds Tryz.pinned (OpenSpec.ofChange proveFactsSpec)

/-- ITS FALSE NEIGHBOUR: 'it returns false'. Refute it at one input. -/
def proveFactsWrong : ChangeSpec := { name := "proveFacts", fn := fun _ => fun
  | [d1, d2] => { results := [.lit (.bool false)], args := [d1, d2] }
  | _ => none }
def ProveFactsWrongFalsely : Prop := proveFactsRow.holds Tryz.pinned (OpenSpec.ofChange proveFactsWrong)

/-- 'gameplayerlaw15.ProveRounds': WHATEVER THE INPUT: true; the input reads as it did. -/
def proveRoundsSpec : ChangeSpec := { name := "proveRounds", fn := fun _ => fun
  | [d1, d2] => { results := [.lit (.bool true)], args := [d1, d2] }
  | _ => none }
def proveRoundsRow : OpenClaim := { program := "ytljpaghckmbmlaagreatdoor", sum := "97e0f0247299d737a781fcd8c1ae4c7daa46b7b2e6eb08bab09da3e522226838", func := "gameplayer/gameplayerlaw15.ProveRounds", spec := "proveRounds", inPlace := ["internal/abi.NoEscape", "internal/bytealg.abigen_runtime_cmpstring", "slices.overlaps[gameplayer/api.Binding]"], unfollowed := true, recurses := true, named := ["gameplayer/check.keywords"], loops := true, plainKeys := false, apart := false, laid := [("gameplayer/check.keywords", laid_gameplayer_check_keywords)] }
def ProveRoundsSaid : Prop := proveRoundsRow.holds Tryz.pinned (OpenSpec.ofChange proveRoundsSpec)

/-- ITS FALSE NEIGHBOUR: 'it returns false'. Refute it at one input. -/
def proveRoundsWrong : ChangeSpec := { name := "proveRounds", fn := fun _ => fun
  | [d1, d2] => { results := [.lit (.bool false)], args := [d1, d2] }
  | _ => none }
def ProveRoundsWrongFalsely : Prop := proveRoundsRow.holds Tryz.pinned (OpenSpec.ofChange proveRoundsWrong)

/-- 'gameplayerlaw15.ProveAnswers': WHATEVER THE INPUT: true; the input reads as it did. -/
def proveAnswersSpec : ChangeSpec := { name := "proveAnswers", fn := fun _ => fun
  | [d1, d2, d3] => { results := [.lit (.bool true)], args := [d1, d2, d3] }
  | _ => none }
def proveAnswersRow : OpenClaim := { program := "ytljpaghckmbmlaagreatdoor", sum := "97e0f0247299d737a781fcd8c1ae4c7daa46b7b2e6eb08bab09da3e522226838", func := "gameplayer/gameplayerlaw15.ProveAnswers", spec := "proveAnswers", inPlace := ["internal/abi.NoEscape", "internal/bytealg.abigen_runtime_cmpstring", "slices.overlaps[gameplayer/api.Binding]"], unfollowed := true, recurses := true, named := ["gameplayer/check.keywords"], loops := true, plainKeys := false, apart := false, laid := [("gameplayer/check.keywords", laid_gameplayer_check_keywords)] }
def ProveAnswersSaid : Prop := proveAnswersRow.holds Tryz.pinned (OpenSpec.ofChange proveAnswersSpec)

/-- ITS FALSE NEIGHBOUR: 'it returns false'. Refute it at one input. -/
def proveAnswersWrong : ChangeSpec := { name := "proveAnswers", fn := fun _ => fun
  | [d1, d2, d3] => { results := [.lit (.bool false)], args := [d1, d2, d3] }
  | _ => none }
def ProveAnswersWrongFalsely : Prop := proveAnswersRow.holds Tryz.pinned (OpenSpec.ofChange proveAnswersWrong)

/- THE SECOND FORM. 'bulk': how many values and letters a reading holds, each counted each time it is reached (what is shared counts as often as it is met; a slice's spare places count too). A statement '..UptoSaid' is the law's where the arguments, and the package variables that the reading takes, are together of bulk at most 1048576: NARROWER than '..Said'. Prove '..Said' where nothing that the law and all that it calls make is longer than what came in: it says more and counts as full. Else prove '..UptoSaid'. A law counts once. -/
mutual
def uptoBulk {H : Type} : DataW H → Nat
  | .lit (.string bytes) => bytes.length + 1
  | .lit _ => 1
  | .nil => 1
  | .ptr d => uptoBulk d + 1
  | .slice elems spare => uptoBulkAll elems + uptoBulkAll spare + 1
  | .agg parts => uptoBulkAll parts + 1
  | .iface _ d => uptoBulk d + 1
  | .map entries => uptoBulkEntries entries + 1
  | .held _ => 1
def uptoBulkAll {H : Type} : List (DataW H) → Nat
  | [] => 0
  | d :: r => uptoBulk d + uptoBulkAll r
def uptoBulkEntries {H : Type} : List (Lit × DataW H) → Nat
  | [] => 0
  | x :: r => uptoBulkEntry x + uptoBulkEntries r
def uptoBulkEntry {H : Type} : Lit × DataW H → Nat
  | (.string bytes, d) => bytes.length + uptoBulk d + 1
  | (_, d) => uptoBulk d + 1
 end
def uptoSmall : (H : Type) → List (DataW H) → Bool := fun _ ds => decide (uptoBulkAll ds ≤ 1048576)
def OpenSpec.upto (s : _root_.Go.ChangeSpec) : _root_.Go.OpenSpec := { _root_.Go.OpenSpec.ofChange s with cond := some uptoSmall }

/-- 'gameplayerlaw15.ProveFacts', WHERE WHAT IT READS IS OF BULK AT MOST 1048576: true; the input reads as it did. -/
def proveFactsUptoRow : OpenClaim := { program := "ytljpaghckmbmlaagreatdoor", sum := "97e0f0247299d737a781fcd8c1ae4c7daa46b7b2e6eb08bab09da3e522226838", func := "gameplayer/gameplayerlaw15.ProveFacts", spec := "proveFacts", inPlace := ["internal/abi.NoEscape", "internal/bytealg.abigen_runtime_cmpstring", "slices.overlaps[gameplayer/api.Binding]"], unfollowed := true, recurses := true, named := ["gameplayer/check.keywords"], loops := true, plainKeys := false, apart := false, laid := [("gameplayer/check.keywords", laid_gameplayer_check_keywords)], narrowed := true }
def ProveFactsUptoSaid : Prop := proveFactsUptoRow.holds Tryz.pinned (OpenSpec.upto proveFactsSpec)

/-- 'gameplayerlaw15.ProveRounds', WHERE WHAT IT READS IS OF BULK AT MOST 1048576: true; the input reads as it did. -/
def proveRoundsUptoRow : OpenClaim := { program := "ytljpaghckmbmlaagreatdoor", sum := "97e0f0247299d737a781fcd8c1ae4c7daa46b7b2e6eb08bab09da3e522226838", func := "gameplayer/gameplayerlaw15.ProveRounds", spec := "proveRounds", inPlace := ["internal/abi.NoEscape", "internal/bytealg.abigen_runtime_cmpstring", "slices.overlaps[gameplayer/api.Binding]"], unfollowed := true, recurses := true, named := ["gameplayer/check.keywords"], loops := true, plainKeys := false, apart := false, laid := [("gameplayer/check.keywords", laid_gameplayer_check_keywords)], narrowed := true }
def ProveRoundsUptoSaid : Prop := proveRoundsUptoRow.holds Tryz.pinned (OpenSpec.upto proveRoundsSpec)

/-- 'gameplayerlaw15.ProveAnswers', WHERE WHAT IT READS IS OF BULK AT MOST 1048576: true; the input reads as it did. -/
def proveAnswersUptoRow : OpenClaim := { program := "ytljpaghckmbmlaagreatdoor", sum := "97e0f0247299d737a781fcd8c1ae4c7daa46b7b2e6eb08bab09da3e522226838", func := "gameplayer/gameplayerlaw15.ProveAnswers", spec := "proveAnswers", inPlace := ["internal/abi.NoEscape", "internal/bytealg.abigen_runtime_cmpstring", "slices.overlaps[gameplayer/api.Binding]"], unfollowed := true, recurses := true, named := ["gameplayer/check.keywords"], loops := true, plainKeys := false, apart := false, laid := [("gameplayer/check.keywords", laid_gameplayer_check_keywords)], narrowed := true }
def ProveAnswersUptoSaid : Prop := proveAnswersUptoRow.holds Tryz.pinned (OpenSpec.upto proveAnswersSpec)

end Rows
end Go.Proofs.YtljpaghckmbmlaaGreatDoor
