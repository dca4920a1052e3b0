/- gameplayerref12.Insert. Conditions: none. -/
import Derived.Test.YtjpfdkecffnlbaaGreatDoorR2
import Derived.Test.YtjpfdkecffnlbaaGreatDoorAm13
set_option maxRecDepth 100000
set_option maxHeartbeats 4000000
set_option linter.unusedSimpArgs false
set_option linter.unusedVariables false
namespace AM
open Go Go.Proofs
theorem aml (a b:List aj):bC (a++b)=bC a++bC b:=by rw [ln,ln,ln,List.map_append]
theorem S2 (l:List aj) (n:Nat):(bC l).take n=bC (l.take n):=by rw [ln,ln,List.map_take]
theorem S3 (l:List aj) (n:Nat):(bC l).drop n=bC (l.drop n):=by rw [ln,ln,List.map_drop]
theorem amm (l:List aj) (t:aj) (aN:l.length<1000000):a4 Tryz.prog bq 37 [cN l,t.enc] (cN (ie l t)):=by
 have Ax:M=1099511627776:=rfl
 refine a4.sl (D:=eB) ale (by simp only [List.all_cons,List.all_nil,aj.arg];rfl) rfl (PU _) ?_
 obtain ⟨jo,jq⟩:=t
 simp only [aj.enc,cN]
 unfold P4
 simp only [go_sem,aV,aW,ed,Int.reduceLE,Int.reduceLT,Int.reduceToNat,Int.reduceAdd,Int.reduceSub,↓reduceIte,Nat.reduceBEq,Nat.reduceAdd,Nat.reduceSub,Nat.reduceMul,Nat.reduceLT,Nat.reduceEqDiff,reduceCtorEq,Nat.reduceLeDiff]
 refine e8 (fun p:Nat×Nat=>⟨N [(0,.v (.list none 2 (bC l))),(3,.v (.cU [.str jo,.list none 2 (bC jq)])),(5,.v (.int .i64 p.1)),(6,.v (.int .i64 p.2))],[]⟩)
  (fun p=>p.1≤p.2∧p.2≤l.length∧jn l (.mk jo jq) l.length p.1 p.2=ic l (.mk jo jq)) (fun p=>p.2 - p.1) (0,l.length) ⟨by simp,by simp,rfl⟩ (by (try simp only [go_sem,aV,aW,Int.reduceLE,Int.reduceLT,Int.reduceToNat,Int.reduceAdd,Int.reduceSub,↓reduceIte,Nat.reduceBEq,Nat.reduceAdd,Nat.reduceSub,Nat.reduceMul,Nat.reduceLT,Nat.reduceEqDiff,reduceCtorEq,Nat.reduceLeDiff])<;>(first | rfl | (simp only [b7,List.foldr_cons,List.foldr_nil,Env.ins,Int.reduceLE,Int.reduceLT,Int.reduceToNat,Int.reduceAdd,Int.reduceSub,↓reduceIte,Nat.reduceBEq,Nat.reduceAdd,Nat.reduceSub,Nat.reduceMul,Nat.reduceLT,Nat.reduceEqDiff,reduceCtorEq,Nat.reduceLeDiff];try rfl))) ?_
 rintro ⟨aX,av⟩ ⟨R,aa,ao⟩
 simp only at R aa ao
 by_cases h:aX<av
 ·have aB:decide ((aX:Int)<(av:Int))=true:=decide_eq_true (by omega)
  have hm:(aX+av) / 2<l.length:=by omega
  have bX:l[(aX+av) / 2]?=some l[(aX+av) / 2]:=List.getElem?_eq_getElem hm
  have f1:(bC l)[(aX+av) / 2]?=some l[(aX+av) / 2].enc:=by rw [mF,bX];rfl
  have bN:IntKind.i64.wrap ((aX:Int)+av)=((aX+av:Nat):Int):=by rw [wrap64]<;>omega
  have cb:IntKind.i64.wrap (((aX+av:Nat):Int).tdiv 2)=(((aX+av) / 2:Nat):Int):=by
   rw [Int.tdiv_eq_ediv_of_nonneg (by omega),wrap64]<;>omega
  have ds:(0:Int)≤(((aX+av) / 2:Nat):Int):=by omega
  have dz:(((aX+av) / 2:Nat):Int)<l.length:=by omega
  have ez:IntKind.i64.wrap ((((aX+av) / 2:Nat):Int)+1)=(((aX+av) / 2+1:Nat):Int):=by rw [wrap64]<;>omega
  have aS:=S0 l (.mk jo jq) (f:=l.length) (by omega) h bX
  rw [ao] at aS
  have q:=J0 l[(aX+av) / 2] (.mk jo jq)
  have w:=J1 l[(aX+av) / 2] (.mk jo jq)
  generalize l[(aX+av) / 2]=x at *
  obtain ⟨l0,l1⟩:=x
  simp only [aj.enc] at f1 q w
  generalize bJ (.mk l0 l1) (.mk jo jq)=c at *
  have jF:((2:Int)=0)=False:=by simp
  generalize aq3:(aX+av) / 2=m at *
  by_cases af:c<0
  ·have k8:decide (c<0)=true:=decide_eq_true af
   rw [if_pos af] at aS
   simp only [go_sem,aV,aW,aB,f1,bN,cb,ds,dz,ez,jF,k8,q,w,ed,Int.reduceLE,Int.reduceLT,Int.reduceToNat,Int.reduceAdd,Int.reduceSub,↓reduceIte,Nat.reduceBEq,Nat.reduceAdd,Nat.reduceSub,Nat.reduceMul,Nat.reduceLT,Nat.reduceEqDiff,reduceCtorEq,Nat.reduceLeDiff]
   exact ⟨(m+1,av),⟨by simp only;omega,aa,aS.symm⟩,by simp only;omega,by (first | rfl | (simp only [b7,List.foldr_cons,List.foldr_nil,Env.ins,Int.reduceLE,Int.reduceLT,Int.reduceToNat,Int.reduceAdd,Int.reduceSub,↓reduceIte,Nat.reduceBEq,Nat.reduceAdd,Nat.reduceSub,Nat.reduceMul,Nat.reduceLT,Nat.reduceEqDiff,reduceCtorEq,Nat.reduceLeDiff];try rfl))⟩
  ·have k8:decide (c<0)=false:=decide_eq_false af
   rw [if_neg af] at aS
   simp only [go_sem,aV,aW,aB,f1,bN,cb,ds,dz,ez,jF,k8,q,w,ed,Int.reduceLE,Int.reduceLT,Int.reduceToNat,Int.reduceAdd,Int.reduceSub,↓reduceIte,Nat.reduceBEq,Nat.reduceAdd,Nat.reduceSub,Nat.reduceMul,Nat.reduceLT,Nat.reduceEqDiff,reduceCtorEq,Nat.reduceLeDiff]
   exact ⟨(aX,m),⟨by simp only;omega,by simp only;omega,aS.symm⟩,by simp only;omega,by (first | rfl | (simp only [b7,List.foldr_cons,List.foldr_nil,Env.ins,Int.reduceLE,Int.reduceLT,Int.reduceToNat,Int.reduceAdd,Int.reduceSub,↓reduceIte,Nat.reduceBEq,Nat.reduceAdd,Nat.reduceSub,Nat.reduceMul,Nat.reduceLT,Nat.reduceEqDiff,reduceCtorEq,Nat.reduceLeDiff];try rfl))⟩
 ·have aB:decide ((aX:Int)<(av:Int))=false:=decide_eq_false (by omega)
  have jc:ic l (.mk jo jq)=aX:=by rw [←ao,uT l _ (by omega)]
  have bN:(0:Int)≤aX:=by omega
  have de:(bC (l.take aX)).length≤M:=by rw [ed,List.length_take];omega
  have dR:(l.take aX).length≤M:=by rw [List.length_take];omega
  have r2:(l.take aX).length+1≤M:=by rw [List.length_take];omega
  have r6:(l.take aX).length+1+(l.drop aX).length≤M:=by rw [List.length_take,List.length_drop];omega
  have qF:(aX:Int)≤l.length:=by omega
  have S4:(l.length:Int)≤l.length:=by omega
  have fin:bC (l.take aX++(.mk jo jq)::l.drop aX)=bC (l.take aX)++[.agg [.str jo,.list none 2 (bC jq)]]++bC (l.drop aX):=by
   rw [aml];simp only [bC,aj.enc,List.append_assoc,List.cons_append,List.nil_append]
  unfold P3
  by_cases al:aX<l.length
  ·have aI:decide ((aX:Int)<(l.length:Int))=true:=decide_eq_true (by omega)
   have dS:(aX:Int)<l.length:=by omega
   have bX:l[aX]?=some l[aX]:=List.getElem?_eq_getElem al
   have f1:(bC l)[aX]?=some l[aX].enc:=by rw [mF,bX];rfl
   have q:=J0 l[aX] (.mk jo jq)
   have w:=J1 l[aX] (.mk jo jq)
   have fH:ie l (.mk jo jq)=if bJ l[aX] (.mk jo jq)=0 then l else l.take aX++(.mk jo jq)::l.drop aX:=by simp only [ie,jc,bX]
   generalize l[aX]=x at *
   obtain ⟨l0,l1⟩:=x
   simp only [aj.enc] at f1 q w
   generalize bJ (.mk l0 l1) (.mk jo jq)=c at *
   by_cases af:c=0
   ·have k8:(c==0)=true:=by simp [af]
    rw [if_pos af] at fH
    rw [fH]
    simp only [go_sem,aV,aW,aB,aI,dS,f1,bN,k8,q,w,ed,z8,Int.reduceLE,Int.reduceLT,Int.reduceToNat,Int.reduceAdd,Int.reduceSub,↓reduceIte,Nat.reduceBEq,Nat.reduceAdd,Nat.reduceSub,Nat.reduceMul,Nat.reduceLT,Nat.reduceEqDiff,reduceCtorEq,Nat.reduceLeDiff]
    exact ⟨_,rfl,eZ.refl _⟩
   ·have k8:(c==0)=false:=by simp [af]
    rw [if_neg af] at fH
    rw [fH]
    simp only [go_sem,aV,aW,aB,aI,dS,f1,bN,k8,q,w,ed,S2,S3,de,dR,r2,r6,qF,S4,List.drop_zero,List.take_length,List.length_append,z8,Int.reduceLE,Int.reduceLT,Int.reduceToNat,Int.reduceAdd,Int.reduceSub,↓reduceIte,Nat.reduceBEq,Nat.reduceAdd,Nat.reduceSub,Nat.reduceMul,Nat.reduceLT,Nat.reduceEqDiff,reduceCtorEq,Nat.reduceLeDiff]
    refine ⟨_,rfl,?_⟩
    rw [fin]
    exact eZ.disown _ _ _
  ·have aI:decide ((aX:Int)<(l.length:Int))=false:=decide_eq_false (by omega)
   have fH:ie l (.mk jo jq)=l.take aX++(.mk jo jq)::l.drop aX:=by simp only [ie,jc,List.getElem?_eq_none (show l.length≤aX by omega)]
   rw [fH]
   simp only [go_sem,aV,aW,aB,aI,bN,ed,S2,S3,de,dR,r2,r6,qF,S4,List.drop_zero,List.take_length,List.length_append,z8,Int.reduceLE,Int.reduceLT,Int.reduceToNat,Int.reduceAdd,Int.reduceSub,↓reduceIte,Nat.reduceBEq,Nat.reduceAdd,Nat.reduceSub,Nat.reduceMul,Nat.reduceLT,Nat.reduceEqDiff,reduceCtorEq,Nat.reduceLeDiff]
   refine ⟨_,rfl,?_⟩
   rw [fin]
   exact eZ.disown _ _ _
end AM
