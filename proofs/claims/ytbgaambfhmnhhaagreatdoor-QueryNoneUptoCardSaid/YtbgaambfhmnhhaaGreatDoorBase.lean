/- The keyword table; the calls that are shown by hand: slices.AppendSeq over maps.Keys. Conditions: none. -/
import Derived.Test.YtbgaambfhmnhhaaGreatDoorAm15
import Derived.Test.YtbgaambfhmnhhaaGreatDoorCode
import Derived.Test.YtbgaambfhmnhhaaGreatDoorProg
import Derived.KernelRfl
set_option maxRecDepth 100000
namespace AM
open Go Go.Proofs
def keywords : AV := .cptr [.str [114,111,108,101],.int .i64 1,.bool true,.bool true,.str [105,110,105,116],.int .i64 1,.bool true,.bool false,.str [116,114,117,101],.int .i64 1,.bool false,.bool true,.str [100,111,101,115],.int .i64 2,.bool false,.bool true,.str [108,101,103,97,108],.int .i64 2,.bool true,.bool false,.str [110,101,120,116],.int .i64 1,.bool true,.bool false,.str [116,101,114,109,105,110,97,108],.int .i64 0,.bool true,.bool false,.str [103,111,97,108],.int .i64 2,.bool true,.bool false,.str [115,101,101,115],.int .i64 2,.bool true,.bool false,.str [100,105,115,116,105,110,99,116],.int .i64 2,.bool false,.bool true]
def glN : Glob := fun g => bif Nat.beq g 0 then some keywords else none
theorem pair138 : chkPair Tryz.prog 138 106 30 115 3 [.alloc 3 [.str [],.str [],.bool false],.st 3 (.t 3) (.t 9)] (.ld 11 (.t 3) 3 true) = true := by kernel_rfl
theorem pair166 : chkPair Tryz.prog 166 141 31 9 1 [.mv 3 (.t 9)] (.mv 11 (.t 3)) = true := by kernel_rfl
def baseF : Caller := asOrc 166 141 1 9 (asOrc 138 106 3 115 (fun _ _ _ => none))
theorem baseN : CallerOk Tryz.prog glN baseF := (asOrc_of (asOrc_of (fun _ _ _ _ h => by cases h) pair138 (pre_agg rfl)) pair166 pre_str)
/-- A known pure call. -/
abbrev DE (e : Nat × List AV × AV) : Prop := chkCallee Tryz.prog e.1 = true ∧ e.2.1.all AV.arg = true ∧ Det Tryz.prog glN e.1 e.2.1 e.2.2
/-- A known call over a heap. -/
abbrev CE (e : KE) : Prop := CallT Tryz.prog glN e.f e.xs e.H fun r H' => (r, H') ∈ e.outs
end AM
