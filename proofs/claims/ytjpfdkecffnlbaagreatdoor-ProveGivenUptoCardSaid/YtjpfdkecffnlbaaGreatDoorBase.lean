/- The keyword table; the calls that are shown by hand: slices.AppendSeq over maps.Keys. Conditions: none. -/
import Derived.Test.YtjpfdkecffnlbaaGreatDoorAm11
import Derived.Test.YtjpfdkecffnlbaaGreatDoorCode
import Derived.Test.YtjpfdkecffnlbaaGreatDoorProg
import Derived.KernelRfl
set_option maxRecDepth 100000
namespace AM
open Go Go.Proofs
def QF:AV:=.cU [.str [114,111,108,101],.int .i64 1,.bool true,.bool true,.str [105,110,105,116],.int .i64 1,.bool true,.bool false,.str [116,114,117,101],.int .i64 1,.bool false,.bool true,.str [100,111,101,115],.int .i64 2,.bool false,.bool true,.str [108,101,103,97,108],.int .i64 2,.bool true,.bool false,.str [110,101,120,116],.int .i64 1,.bool true,.bool false,.str [116,101,114,109,105,110,97,108],.int .i64 0,.bool true,.bool false,.str [103,111,97,108],.int .i64 2,.bool true,.bool false,.str [115,101,101,115],.int .i64 2,.bool true,.bool false,.str [100,105,115,116,105,110,99,116],.int .i64 2,.bool false,.bool true]
def bq:aR:=fun g=>bif Nat.beq g 0 then some QF else none
theorem ak8:zY Tryz.prog 196 176 137 141 3 [.alloc 3 [.str [],.str [],.bool false],.st 3 (.t 3) (.t 9)] (.ak 11 (.t 3) 3 true)=true:=by kernel_rfl
theorem ak9:zY Tryz.prog 208 195 125 9 1 [.I 3 (.t 9)] (.I 11 (.t 3))=true:=by kernel_rfl
def xl:hE:=w8 208 195 1 9 (w8 196 176 3 141 (fun _ _ _=>none))
theorem Aq:jj Tryz.prog bq xl:=(Pd (Pd (fun _ _ _ _ h=>by cases h) ak8 (afp rfl)) ak9 afo)
/-- A known pure call. -/
abbrev a3 (e:Nat×List AV×AV):Prop:=hQ Tryz.prog e.1=true∧e.2.1.all AV.arg=true∧a4 Tryz.prog bq e.1 e.2.1 e.2.2
/-- A known call over a heap. -/
abbrev dM (e:c0):Prop:=ec Tryz.prog bq e.f e.xs e.H fun r H'=>(r,H')∈e.outs
end AM
