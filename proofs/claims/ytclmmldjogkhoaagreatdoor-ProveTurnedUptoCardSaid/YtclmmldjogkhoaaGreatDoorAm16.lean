/- An abstract machine, and what of the given program it does, part 17. Conditions: none. -/
import Derived.Test.YtclmmldjogkhoaaGreatDoorAm15
set_option linter.unusedVariables false
namespace AM
open Go
def jq{α:Type}(p:α->Bool):List α->Nat->Int
 |[],_=>-1|t::r,i=>if p t=true then i else jq p r (i+1)
def k0{α:Type}(p:α->Bool)(l:List α):Int:=jq p l 0
variable {α:Type}
theorem Oo(p:α->Bool):∀(l:List α)(i:Nat),(0<=jq p l i)↔l.any p=true
 |[],i=>by simp[jq]|t::r,i=>by
  simp only[jq,List.any_cons];by_cases h:p t=true
  ·simp[h]
  ·simp only[Bool.not_eq_true]at h;rw[h,Bool.false_or,<-Oo p r (i+1)];simp
theorem acv[Inhabited α](p:α->Bool):∀(l:List α)(i:Nat),l.any p=true->∃k,k<l.length/\jq p l i=((i+k:Nat):Int)/\p l[k]! = true/\l.find? p=some l[k]!
 |[],i,h=>by simp at h|t::r,i,h=>by
  by_cases a:p t=true
  ·exact⟨0,by simp,by simp[jq,a],by simpa using a,by simp[a]⟩
  ·simp only[Bool.not_eq_true]at a;simp only[List.any_cons,a,Bool.false_or]at h;obtain⟨k,b,U,c,d⟩:=acv p r (i+1) h;refine⟨k+1,by simpa using b,?_,by simpa using c,by simp[a,d]⟩;simp only[jq,a,Bool.false_eq_true,if_false,U];omega
def lK:I->Bool
 |.mk n l=>match l with
  |[]=>!(hh n).isSome&&!fo n&&!e9 n|t::r=>!fo n||(lK t||Ie r)
  where Ie:List I->Bool|[]=>false|t::r=>lK t||Ie r
theorem ayc(l:List I):lK.Ie l=l.any lK:=by
 induction l with
 |nil=>rfl|cons t r ih=>simp only[lK.Ie,ih,List.any_cons]
theorem acw(t:I):lK t=if t.args.length=0 then !(hh t.name).isSome&&!fo t.name&&!e9 t.name else !fo t.name||t.args.any lK:=by
 obtain⟨n,l⟩:=t;cases l with
 |nil=>simp[lK,I.args,I.name]|cons t r=>simp[lK,I.args,I.name,ayc]
def me:I->Bool
 |.mk _ l=>decide (4<l.length)||Et l
  where Et:List I->Bool|[]=>false|t::r=>me t||Et r
theorem ayd(l:List I):me.Et l=l.any me:=by
 induction l with
 |nil=>rfl|cons t r ih=>simp only[me.Et,ih,List.any_cons]
theorem acx(t:I):me t=(decide (4<t.args.length)||t.args.any me):=by
 obtain⟨n,l⟩:=t;show(decide (4<l.length)||me.Et l)=_;rw[ayd];rfl
def pW:List fZ:=[⟨[114,111,108,101],1,true,true⟩,⟨[105,110,105,116],1,true,false⟩,⟨[116,114,117,101],1,false,true⟩,⟨[100,111,101,115],2,false,true⟩,⟨[108,101,103,97,108],2,true,false⟩,⟨[110,101,120,116],1,true,false⟩,⟨[116,101,114,109,105,110,97,108],0,true,false⟩,⟨[103,111,97,108],2,true,false⟩,⟨[115,101,101,115],2,true,false⟩,⟨[100,105,115,116,105,110,99,116],2,false,true⟩]
def xy(s:aj):Option fZ:=pW.find? fun k=>k.name==s
def mf(t:I)(head:Bool):Nat :=
 if !fo t.name||lK t then 4
 else if me t||(match xy t.name with|some k=>decide ((t.args.length:Int)≠k.args)|none=>false)then 5
 else if 4<c0 t then 3
 else if(match xy t.name with|some k=>if head then !k.head else !k.body|none=>false)then 6
 else 0
def hW:aj:=[100,105,115,116,105,110,99,116]
def BF:aj:=[114,111,108,101]
def eX(l:Lit):Bool:=!l.neg&&!(l.atom.name==hW)
def fU(r:aU):List I:=r.head::r.body.map Lit.atom
def zm(r:aU):List I:=r.head::(r.body.filter fun l=>!eX l).map Lit.atom
def Eu(r:aU):List I:=(r.body.filter eX).map Lit.atom
def rN(r:aU):Bool:=(nD (zm r)).all fun v=>(nD (Eu r)).contains v
def rO:List I->Bool->Nat
 |[],_=>0|t::r,h=>if mf t h=0 then rO r false else mf t h
def h6(r:aU):Nat :=
 if 8<r.body.length then 2
 else if rO (fU r) true≠0 then rO (fU r) true
 else if 5<(nD (fU r)).length then 11
 else if !rN r then 7
 else if r.head.name==BF&&(decide (0<r.body.length)||decide (0<r.head.args[0]!.args.length)||!fo r.head.args[0]!.name)then 8
 else 0
end AM
