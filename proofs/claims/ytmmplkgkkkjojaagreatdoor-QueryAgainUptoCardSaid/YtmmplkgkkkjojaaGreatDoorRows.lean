/-
  NARROWER THAN 'FOR EVERY INPUT', by the rows' own cells (each row's printed sentence says how): QueryMatches: loops, laid · QueryFresh: loops, laid · QueryAgain: loops, laid · QueryStays: loops, laid.
  DERIVED. THE GIVEN ROWS OF THIS SEAT. 4 by the template 'for every input the law returns true; each argument reads behind the call as it read before'; 0 by the template 'total and deterministic' (their statements: YtmmplkgkkkjojaaGreatDoorTotals.lean).
  GIVEN WITH THE SEED: the statements are not yours to turn. If you find one false, say at which input.
  Laid BY PROGRAM, IN A SANDBOX (cutbox-rows.mjs): the forced cells as the released guide's own fill.sh prints them over the translation 55c1d7447af7d981… (all of the seat's roots in one cut). By AI agents, Wed Nov 11 2026. No macro, syntax, notation, axiom, sorry.
-/
import Derived.Test.YtmmplkgkkkjojaaGreatDoorChecked
import GoSem.Claim
import GoSem.ClaimJoined
import GoSem.ClaimMapViews
import Derived.JoinedTies
import Derived.KernelRfl
namespace Go.Proofs.YtmmplkgkkkjojaaGreatDoor
/- THE CELL 'sum', in the pinned program and in every row, IS THE sha256 OF THE DUMP (.gsa) THAT YtmmplkgkkkjojaaGreatDoorProg.lean LOADS. Nothing in Lean hashes anything: it is a label: what it is worth is what the hold of that sum in a sandbox is worth. -/
noncomputable def Tryz.pinned : Pinned := { name := "ytmmplkgkkkjojaagreatdoor", sum := "55c1d7447af7d9812a8c620765648675f371621aa9cc57a3fcd08c3174f2fab6", checked := Tryz.checked }
namespace Rows
def none {H : Type} : Left H := { results := [], args := [] }

/- WHAT THE LISTED PACKAGE-LEVEL VARIABLES READ AS WHEN THE CALL BEGINS. Each datum BY PROGRAM (the guide's laid-datum.mjs) off the statement by which the dump's own 'gosem.cut.vars' lays the variable. In a bare row this is a premise. The card (YtmmplkgkkkjojaaGreatDoorCards.lean) ties it to the program's text. -/
def laid_gameplayer_check_keywords {H : Type} : DataW H := .agg [.agg [.lit (.string [114, 111, 108, 101]), .lit (.int .i64 1), .lit (.bool true), .lit (.bool true)], .agg [.lit (.string [105, 110, 105, 116]), .lit (.int .i64 1), .lit (.bool true), .lit (.bool false)], .agg [.lit (.string [116, 114, 117, 101]), .lit (.int .i64 1), .lit (.bool false), .lit (.bool true)], .agg [.lit (.string [100, 111, 101, 115]), .lit (.int .i64 2), .lit (.bool false), .lit (.bool true)], .agg [.lit (.string [108, 101, 103, 97, 108]), .lit (.int .i64 2), .lit (.bool true), .lit (.bool false)], .agg [.lit (.string [110, 101, 120, 116]), .lit (.int .i64 1), .lit (.bool true), .lit (.bool false)], .agg [.lit (.string [116, 101, 114, 109, 105, 110, 97, 108]), .lit (.int .i64 0), .lit (.bool true), .lit (.bool false)], .agg [.lit (.string [103, 111, 97, 108]), .lit (.int .i64 2), .lit (.bool true), .lit (.bool false)], .agg [.lit (.string [115, 101, 101, 115]), .lit (.int .i64 2), .lit (.bool true), .lit (.bool false)], .agg [.lit (.string [100, 105, 115, 116, 105, 110, 99, 116]), .lit (.int .i64 2), .lit (.bool false), .lit (.bool true)]]

/-- 'gameplayerlaw16.QueryMatches': WHATEVER THE INPUT: true; the input reads as it did. -/
def queryMatchesSpec : ChangeSpec := { name := "queryMatches", fn := fun _ => fun
  | [d1, d2, d3] => { results := [.lit (.bool true)], args := [d1, d2, d3] }
  | _ => none }
def queryMatchesRow : OpenClaim := { program := "ytmmplkgkkkjojaagreatdoor", sum := "55c1d7447af7d9812a8c620765648675f371621aa9cc57a3fcd08c3174f2fab6", func := "gameplayer/gameplayerlaw16.QueryMatches", spec := "queryMatches", inPlace := ["internal/abi.NoEscape", "internal/bytealg.abigen_runtime_cmpstring", "slices.overlaps[gameplayer/api.Binding]"], unfollowed := true, recurses := true, named := ["gameplayer/check.keywords"], loops := true, plainKeys := false, apart := false, laid := [("gameplayer/check.keywords", laid_gameplayer_check_keywords)] }
def QueryMatchesSaid : Prop := queryMatchesRow.holds Tryz.pinned (OpenSpec.ofChange queryMatchesSpec)

/-- ITS FALSE NEIGHBOUR: 'it returns false'. Refute it at one input. -/
def queryMatchesWrong : ChangeSpec := { name := "queryMatches", fn := fun _ => fun
  | [d1, d2, d3] => { results := [.lit (.bool false)], args := [d1, d2, d3] }
  | _ => none }
def QueryMatchesWrongFalsely : Prop := queryMatchesRow.holds Tryz.pinned (OpenSpec.ofChange queryMatchesWrong)

/-- 'gameplayerlaw16.QueryFresh': WHATEVER THE INPUT: true; the input reads as it did. -/
def queryFreshSpec : ChangeSpec := { name := "queryFresh", fn := fun _ => fun
  | [d1, d2, d3] => { results := [.lit (.bool true)], args := [d1, d2, d3] }
  | _ => none }
def queryFreshRow : OpenClaim := { program := "ytmmplkgkkkjojaagreatdoor", sum := "55c1d7447af7d9812a8c620765648675f371621aa9cc57a3fcd08c3174f2fab6", func := "gameplayer/gameplayerlaw16.QueryFresh", spec := "queryFresh", inPlace := ["internal/abi.NoEscape", "internal/bytealg.abigen_runtime_cmpstring", "slices.overlaps[gameplayer/api.Binding]"], unfollowed := true, recurses := true, named := ["gameplayer/check.keywords"], loops := true, plainKeys := false, apart := false, laid := [("gameplayer/check.keywords", laid_gameplayer_check_keywords)] }
def QueryFreshSaid : Prop := queryFreshRow.holds Tryz.pinned (OpenSpec.ofChange queryFreshSpec)

/-- ITS FALSE NEIGHBOUR: 'it returns false'. Refute it at one input. -/
def queryFreshWrong : ChangeSpec := { name := "queryFresh", fn := fun _ => fun
  | [d1, d2, d3] => { results := [.lit (.bool false)], args := [d1, d2, d3] }
  | _ => none }
def QueryFreshWrongFalsely : Prop := queryFreshRow.holds Tryz.pinned (OpenSpec.ofChange queryFreshWrong)

/-- 'gameplayerlaw16.QueryAgain': WHATEVER THE INPUT: true; the input reads as it did. -/
def queryAgainSpec : ChangeSpec := { name := "queryAgain", fn := fun _ => fun
  | [d1, d2, d3] => { results := [.lit (.bool true)], args := [d1, d2, d3] }
  | _ => none }
def queryAgainRow : OpenClaim := { program := "ytmmplkgkkkjojaagreatdoor", sum := "55c1d7447af7d9812a8c620765648675f371621aa9cc57a3fcd08c3174f2fab6", func := "gameplayer/gameplayerlaw16.QueryAgain", spec := "queryAgain", inPlace := ["internal/abi.NoEscape", "internal/bytealg.abigen_runtime_cmpstring", "slices.overlaps[gameplayer/api.Binding]"], unfollowed := true, recurses := true, named := ["gameplayer/check.keywords"], loops := true, plainKeys := false, apart := false, laid := [("gameplayer/check.keywords", laid_gameplayer_check_keywords)] }
def QueryAgainSaid : Prop := queryAgainRow.holds Tryz.pinned (OpenSpec.ofChange queryAgainSpec)

/-- ITS FALSE NEIGHBOUR: 'it returns false'. Refute it at one input. -/
def queryAgainWrong : ChangeSpec := { name := "queryAgain", fn := fun _ => fun
  | [d1, d2, d3] => { results := [.lit (.bool false)], args := [d1, d2, d3] }
  | _ => none }
def QueryAgainWrongFalsely : Prop := queryAgainRow.holds Tryz.pinned (OpenSpec.ofChange queryAgainWrong)

/-- 'gameplayerlaw16.QueryStays': WHATEVER THE INPUT: true; the input reads as it did. -/
def queryStaysSpec : ChangeSpec := { name := "queryStays", fn := fun _ => fun
  | [d1, d2, d3] => { results := [.lit (.bool true)], args := [d1, d2, d3] }
  | _ => none }
def queryStaysRow : OpenClaim := { program := "ytmmplkgkkkjojaagreatdoor", sum := "55c1d7447af7d9812a8c620765648675f371621aa9cc57a3fcd08c3174f2fab6", func := "gameplayer/gameplayerlaw16.QueryStays", spec := "queryStays", inPlace := ["internal/abi.NoEscape", "internal/bytealg.abigen_runtime_cmpstring", "slices.overlaps[gameplayer/api.Binding]"], unfollowed := true, recurses := true, named := ["gameplayer/check.keywords"], loops := true, plainKeys := false, apart := false, laid := [("gameplayer/check.keywords", laid_gameplayer_check_keywords)] }
def QueryStaysSaid : Prop := queryStaysRow.holds Tryz.pinned (OpenSpec.ofChange queryStaysSpec)

/-- ITS FALSE NEIGHBOUR: 'it returns false'. Refute it at one input. -/
def queryStaysWrong : ChangeSpec := { name := "queryStays", fn := fun _ => fun
  | [d1, d2, d3] => { results := [.lit (.bool false)], args := [d1, d2, d3] }
  | _ => none }
def QueryStaysWrongFalsely : Prop := queryStaysRow.holds Tryz.pinned (OpenSpec.ofChange queryStaysWrong)

/- THE SECOND FORM. 'bulk': how many values and letters a reading holds, each counted each time it is reached (what is shared counts as often as it is met; a slice's spare places count too). A statement '..UptoSaid' is the law's where the arguments, and the package variables that the reading takes, are together of bulk at most 1048576: NARROWER than '..Said'. Prove '..Said' where nothing that the law and all that it calls make is longer than what came in: it says more and counts as full. Else prove '..UptoSaid'. A law counts once. -/
mutual
def uptoBulk {H : Type} : DataW H → Nat
  | .lit (.string bytes) => bytes.length + 1
  | .lit _ => 1
  | .nil => 1
  | .ptr d => uptoBulk d + 1
  | .slice elems spare => uptoBulkAll elems + uptoBulkAll spare + 1
  | .agg parts => uptoBulkAll parts + 1
  | .iface _ d => uptoBulk d + 1
  | .map entries => uptoBulkEntries entries + 1
  | .held _ => 1
def uptoBulkAll {H : Type} : List (DataW H) → Nat
  | [] => 0
  | d :: r => uptoBulk d + uptoBulkAll r
def uptoBulkEntries {H : Type} : List (Lit × DataW H) → Nat
  | [] => 0
  | x :: r => uptoBulkEntry x + uptoBulkEntries r
def uptoBulkEntry {H : Type} : Lit × DataW H → Nat
  | (.string bytes, d) => bytes.length + uptoBulk d + 1
  | (_, d) => uptoBulk d + 1
 end
def uptoSmall : (H : Type) → List (DataW H) → Bool := fun _ ds => decide (uptoBulkAll ds ≤ 1048576)
def OpenSpec.upto (s : _root_.Go.ChangeSpec) : _root_.Go.OpenSpec := { _root_.Go.OpenSpec.ofChange s with cond := some uptoSmall }

/-- 'gameplayerlaw16.QueryMatches', WHERE WHAT IT READS IS OF BULK AT MOST 1048576: true; the input reads as it did. -/
def queryMatchesUptoRow : OpenClaim := { program := "ytmmplkgkkkjojaagreatdoor", sum := "55c1d7447af7d9812a8c620765648675f371621aa9cc57a3fcd08c3174f2fab6", func := "gameplayer/gameplayerlaw16.QueryMatches", spec := "queryMatches", inPlace := ["internal/abi.NoEscape", "internal/bytealg.abigen_runtime_cmpstring", "slices.overlaps[gameplayer/api.Binding]"], unfollowed := true, recurses := true, named := ["gameplayer/check.keywords"], loops := true, plainKeys := false, apart := false, laid := [("gameplayer/check.keywords", laid_gameplayer_check_keywords)], narrowed := true }
def QueryMatchesUptoSaid : Prop := queryMatchesUptoRow.holds Tryz.pinned (OpenSpec.upto queryMatchesSpec)

/-- 'gameplayerlaw16.QueryFresh', WHERE WHAT IT READS IS OF BULK AT MOST 1048576: true; the input reads as it did. -/
def queryFreshUptoRow : OpenClaim := { program := "ytmmplkgkkkjojaagreatdoor", sum := "55c1d7447af7d9812a8c620765648675f371621aa9cc57a3fcd08c3174f2fab6", func := "gameplayer/gameplayerlaw16.QueryFresh", spec := "queryFresh", inPlace := ["internal/abi.NoEscape", "internal/bytealg.abigen_runtime_cmpstring", "slices.overlaps[gameplayer/api.Binding]"], unfollowed := true, recurses := true, named := ["gameplayer/check.keywords"], loops := true, plainKeys := false, apart := false, laid := [("gameplayer/check.keywords", laid_gameplayer_check_keywords)], narrowed := true }
def QueryFreshUptoSaid : Prop := queryFreshUptoRow.holds Tryz.pinned (OpenSpec.upto queryFreshSpec)

/-- 'gameplayerlaw16.QueryAgain', WHERE WHAT IT READS IS OF BULK AT MOST 1048576: true; the input reads as it did. -/
def queryAgainUptoRow : OpenClaim := { program := "ytmmplkgkkkjojaagreatdoor", sum := "55c1d7447af7d9812a8c620765648675f371621aa9cc57a3fcd08c3174f2fab6", func := "gameplayer/gameplayerlaw16.QueryAgain", spec := "queryAgain", inPlace := ["internal/abi.NoEscape", "internal/bytealg.abigen_runtime_cmpstring", "slices.overlaps[gameplayer/api.Binding]"], unfollowed := true, recurses := true, named := ["gameplayer/check.keywords"], loops := true, plainKeys := false, apart := false, laid := [("gameplayer/check.keywords", laid_gameplayer_check_keywords)], narrowed := true }
def QueryAgainUptoSaid : Prop := queryAgainUptoRow.holds Tryz.pinned (OpenSpec.upto queryAgainSpec)

/-- 'gameplayerlaw16.QueryStays', WHERE WHAT IT READS IS OF BULK AT MOST 1048576: true; the input reads as it did. -/
def queryStaysUptoRow : OpenClaim := { program := "ytmmplkgkkkjojaagreatdoor", sum := "55c1d7447af7d9812a8c620765648675f371621aa9cc57a3fcd08c3174f2fab6", func := "gameplayer/gameplayerlaw16.QueryStays", spec := "queryStays", inPlace := ["internal/abi.NoEscape", "internal/bytealg.abigen_runtime_cmpstring", "slices.overlaps[gameplayer/api.Binding]"], unfollowed := true, recurses := true, named := ["gameplayer/check.keywords"], loops := true, plainKeys := false, apart := false, laid := [("gameplayer/check.keywords", laid_gameplayer_check_keywords)], narrowed := true }
def QueryStaysUptoSaid : Prop := queryStaysUptoRow.holds Tryz.pinned (OpenSpec.upto queryStaysSpec)

end Rows
end Go.Proofs.YtmmplkgkkkjojaaGreatDoor
