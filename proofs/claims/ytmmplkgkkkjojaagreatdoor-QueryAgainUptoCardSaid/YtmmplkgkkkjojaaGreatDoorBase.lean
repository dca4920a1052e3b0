/- The keyword table; the calls that are shown by hand: slices.AppendSeq over maps.Keys. Conditions: none. -/
import Derived.Test.YtmmplkgkkkjojaaGreatDoorAm4
import Derived.Test.YtmmplkgkkkjojaaGreatDoorCode1
import Derived.Test.YtmmplkgkkkjojaaGreatDoorProg
import Derived.KernelRfl
set_option maxRecDepth 100000
namespace AM
open Go Go.Proofs
def ae0:AV:=.cL [.str [114,111,108,101],.int .i64 1,.bool true,.bool true,.str [105,110,105,116],.int .i64 1,.bool true,.bool false,.str [116,114,117,101],.int .i64 1,.bool false,.bool true,.str [100,111,101,115],.int .i64 2,.bool false,.bool true,.str [108,101,103,97,108],.int .i64 2,.bool true,.bool false,.str [110,101,120,116],.int .i64 1,.bool true,.bool false,.str [116,101,114,109,105,110,97,108],.int .i64 0,.bool true,.bool false,.str [103,111,97,108],.int .i64 2,.bool true,.bool false,.str [115,101,101,115],.int .i64 2,.bool true,.bool false,.str [100,105,115,116,105,110,99,116],.int .i64 2,.bool false,.bool true]
def aD:cQ:=λg=>bif Nat.beq g 0 then some ae0 else none
theorem ap8:Jc Tryz.prog 153 110 54 107 3 [.alloc 3 [.str [],.str [],.bool false],.st 3 (.t 3) (.t 9)] (.ld 11 (.t 3) 3 true)=true:=by kernel_rfl
theorem ap9:Jc Tryz.prog 195 157 51 9 1 [.hV 3 (.t 9)] (.hV 11 (.t 3))=true:=by kernel_rfl
end AM
