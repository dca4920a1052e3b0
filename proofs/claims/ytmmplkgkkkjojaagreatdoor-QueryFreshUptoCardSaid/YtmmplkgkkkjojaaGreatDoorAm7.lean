/- An abstract machine, and what of the given program it does, part 8. Conditions: none. -/
import Derived.Test.YtmmplkgkkkjojaaGreatDoorAm6
set_option linter.unusedSimpArgs false
set_option linter.unusedVariables false
namespace AM
open Go
def j7{α:Type}(p:α->Bool):List α->Nat->Int
 |[],_=>-1|t::r,i=>if p t=true then i else j7 p r (i+1)
def lN{α:Type}(p:α->Bool)(l:List α):Int:=j7 p l 0
variable {α:Type}
theorem QU(p:α->Bool):∀(l:List α)(i:Nat),(0<=j7 p l i)↔l.any p=true
 |[],i=>by simp[j7]|t::r,i=>by
  simp only[j7,List.any_cons];by_cases h:p t=true
  ·simp[h]
  ·simp only[Bool.not_eq_true]at h;rw[h,Bool.false_or,<-QU p r (i+1)];simp
theorem ahp[Inhabited α](p:α->Bool):∀(l:List α)(i:Nat),l.any p=true->∃k,k<l.length/\j7 p l i=((i+k:Nat):Int)/\p l[k]! = true/\l.find? p=some l[k]!
 |[],i,h=>by simp at h|t::r,i,h=>by
  by_cases a:p t=true
  ·exact⟨0,be,by simp[j7,a],kO,by simp[a]⟩
  ·simp only[Bool.not_eq_true]at a;simp only[List.any_cons,a,Bool.false_or]at h;obtain⟨k,b,c,d,e⟩:=ahp p r (i+1) h;refine⟨k+1,by simpa using b,?_,mQ,by simp[a,e]⟩;simp only[j7,a,Bool.false_eq_true,if_false,c];omega
def gM:I->Bool
 |.mk n l=>match l with
  |[]=>!(fw n).isSome&&!dM n&&!eg n|t::r=>!dM n||(gM t||Km r)
  where Km:List I->Bool|[]=>false|t::r=>gM t||Km r
theorem aEF(l:List I):gM.Km l=l.any gM:=by
 induction l with
 |nil=>rfl|cons t r ih=>simp only[gM.Km,ih,List.any_cons]
theorem Kn(t:I):gM t=if t.args.length=0 then !(fw t.name).isSome&&!dM t.name&&!eg t.name else !dM t.name||t.args.any gM:=by
 obtain⟨n,l⟩:=t;cases l with
 |nil=>rfl|cons t r=>simp[gM,I.args,I.name,aEF]
def iK:I->Bool
 |.mk _ l=>decide (4<l.length)||Gg l
  where Gg:List I->Bool|[]=>false|t::r=>iK t||Gg r
theorem aEG(l:List I):iK.Gg l=l.any iK:=by
 induction l with
 |nil=>rfl|cons t r ih=>simp only[iK.Gg,ih,List.any_cons]
theorem QV(t:I):iK t=(decide (4<t.args.length)||t.args.any iK):=by
 obtain⟨n,l⟩:=t;show(decide (4<l.length)||iK.Gg l)=_;rw[aEG];rfl
def kY:List gE:=[⟨[114,111,108,101],1,true,true⟩,⟨[105,110,105,116],1,true,false⟩,⟨[116,114,117,101],1,false,true⟩,⟨[100,111,101,115],2,false,true⟩,⟨[108,101,103,97,108],2,true,false⟩,⟨[110,101,120,116],1,true,false⟩,⟨[116,101,114,109,105,110,97,108],0,true,false⟩,⟨[103,111,97,108],2,true,false⟩,⟨[115,101,101,115],2,true,false⟩,⟨[100,105,115,116,105,110,99,116],2,false,true⟩]
def ln(s:ak):Option gE:=kY.find? λk=>k.name==s
def kj(t:I)(head:Bool):Nat :=
 if !dM t.name||gM t then 4
 else if iK t||(match ln t.name with|some k=>decide ((t.args.length:Int)≠k.args)|none=>false)then 5
 else if 4<cc t then 3
 else if(match ln t.name with|some k=>if head then !k.head else !k.body|none=>false)then 6
 else 0
def eG:ak:=[100,105,115,116,105,110,99,116]
def w2:ak:=[114,111,108,101]
def dB(l:Lit):Bool:=!l.neg&&!(l.atom.name==eG)
def dx(r:aU):List I:=r.head::r.body.map Lit.atom
def w3(r:aU):List I:=r.head::(r.body.filter λl=>!dB l).map Lit.atom
def AB(r:aU):List I:=(r.body.filter dB).map Lit.atom
def nL(r:aU):Bool:=(hE (w3 r)).all λv=>(hE (AB r)).contains v
def kG:List I->Bool->Nat
 |[],_=>0|t::r,h=>if kj t h=0 then kG r false else kj t h
def fK(r:aU):Nat :=
 if 8<r.body.length then 2
 else if kG (dx r) true≠0 then kG (dx r) true
 else if 5<(hE (dx r)).length then 11
 else if !nL r then 7
 else if r.head.name==w2&&(decide (0<r.body.length)||decide (0<r.head.args[0]!.args.length)||!dM r.head.args[0]!.name)then 8
 else 0
end AM
