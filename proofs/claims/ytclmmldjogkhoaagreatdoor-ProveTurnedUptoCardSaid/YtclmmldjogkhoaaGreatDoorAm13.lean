/- An abstract machine, and what of the given program it does, part 14. Conditions: none. -/
import Derived.Test.YtclmmldjogkhoaaGreatDoorAm12
import Derived.ChangeArms
set_option linter.unusedVariables false
namespace AM
open Go
inductive I where
 |mk (name:List UInt8) (args:List I)
def I.name:I->List UInt8|.mk n _=>n
def I.args:I->List I|.mk _ l=>l
mutual
def I.enc:I->AV|.mk n l=>.agg [.str n,.list none 2 (eA l)]
def eA:List I->List AV|[]=>[]|t::r=>t.enc::eA r
end
def I.cells(t:I):List AV:=[.str t.name,.list none 2 (eA t.args)]
def jw(l:List I):AV:=.list none 2 (eA l)
theorem I.xd(t:I):t.enc=.agg t.cells:=by cases t;simp only[I.enc,I.cells,I.name,I.args]
theorem vj(l:List I):eA l=l.map I.enc:=by
 induction l with
 |nil=>simp only[eA,List.map_nil]|cons t r ih=>simp only[eA,List.map_cons,ih]
structure Hk(P:Program)(T L S:TypeId):Prop where
 dL:∃f0 f1:Field,P.underlying T=some (.struct #[f0,f1])/\f0.type=S/\f0.offset=0/\f1.type=L/\f1.offset=1
 cg:P.underlying L=some (.slice T)
 dg:P.underlying S=some .string
 DG:P.cellsOf T=2
 anB:P.cellsOf L=1
 MA:P.cellsOf S=1
structure y1{H:Type}(jN:DataW H->Nat):Prop where
 str:∀b,b.length<=jN (.lit (.string b))
 len:∀e r,e.length<=jN (.slice e r)
 slice:∀e r,∀d∈e,jN d<=jN (.slice e r)
 agg:∀l,∀d∈l,jN d<=jN (.agg l)
section
variable {H:Type}{enc:TypeId×Value->H}{P:Program}{w:World}{base:Nat}{spare:Nat->Bool}{held:Bool}{T L S:TypeId}{γ:e4}{jN:DataW H->Nat}
theorem Up{b:Nat}:∀{cs:List AV}{ws:List Value}{off:Nat},fB γ cs ws->(∀(i:Nat)v,ws[i]?=some v->γ b (off+i)=some v)->e5 γ b off cs
 |[],_,_,_,_=>.nil _ _|c::cs,_,off,.cons _ _ v ws h1 U a,h=>by
  refine .cons _ _ _ _ v (by simpa using h 0 v (by simp)) h1 U (Up a fun i u d=>?_);have:=h (i+1) u (by simpa using d);rwa[show off+(i+1)=off+1+i by omega]at this
variable {a:Addr}
theorem anC{n:Nat}{cs:List Value}(h:w.cells? base a n=some cs):cs.length=n/\∀i v,cs[i]?=some v->w.cell? (a.add i)=some v:=by
 unfold World.cells? at h;split at h
 ·have b:=mapM_some_length h;simp at b;refine⟨b,fun i v c=>?_⟩;have ak:i<n:=by grind
  have:=mapM_some_get h i i (by simp[ak]);rw[this,c]
 ·cases h
theorem anD{v:Value}(h:w.cell? a=some v):a.spot=none:=by
 unfold World.cell? at h;split at h
 ·simp_all
 ·cases h
end
end AM
