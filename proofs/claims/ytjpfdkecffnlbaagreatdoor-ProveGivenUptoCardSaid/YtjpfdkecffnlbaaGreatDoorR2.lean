/- gameplayerref01: IsNumber, value, class, Strings, Compare, CompareList: they return what the program's functions return. Conditions: none. -/
import Derived.Test.YtjpfdkecffnlbaaGreatDoorR1
set_option maxRecDepth 100000
set_option maxHeartbeats 4000000
set_option linter.unusedSimpArgs false
set_option linter.unusedVariables false
namespace AM
open Go Go.Proofs
theorem SU (s:cK):eB 158 [.str s]=some (g8 s):=by simp [eB]
theorem amb (s:cK):eB 156 [.str s]=some (.bool (gV s).isSome):=by simp [eB]
theorem SV (s:cK):eB 113 [.str s]=some (.int .i64 (hT s)):=by simp [eB]
theorem amc (s:cK):eB 157 [.str s]=some (.bool (iP s)):=by simp [eB]
theorem SW (t:aj):eB 112 [t.enc]=some (.int .i64 (gi t)):=by simp [eB,si]
theorem Az (a b:Nat):eB 111 [.int .i64 a,.int .i64 b]=some (.int .i64 (eo a b)):=by simp [eB]
theorem amd (a b:cK):eB 114 [.str a,.str b]=some (.int .i64 (da a b)):=by simp [eB]
theorem J0 (t u:aj):eB 66 [t.enc,u.enc]=some (.int .i64 (bJ t u)):=by simp [eB,si]
theorem ame (t u:List aj):eB 115 [cN t,cN u]=some (.int .i64 (dm t u)):=by simp [eB,sj]
theorem amf (s:cK):a4 Tryz.prog bq 156 [.str s] (.bool (gV s).isSome):=by
 refine a4.intro (D:=eB) alp rfl rfl ?_
 have q:=SU s
 have w:=SS s
 unfold Qj
 unfold g8 at q w
 simp only [go_sem,aV,aW,q,w,Qk,Int.reduceLE,Int.reduceLT,Int.reduceToNat,Int.reduceAdd,Int.reduceSub,↓reduceIte,Nat.reduceBEq,Nat.reduceAdd,Nat.reduceSub,Nat.reduceMul,Nat.reduceLT,Nat.reduceEqDiff,reduceCtorEq,Nat.reduceLeDiff]
theorem SX (s:cK):a4 Tryz.prog bq 113 [.str s] (.int .i64 (hT s)):=by
 refine a4.intro (D:=eB) ali rfl rfl ?_
 have q:=SU s
 have w:=SS s
 unfold Qa
 unfold g8 at q w
 simp only [go_sem,aV,aW,q,w,Qb,hT,Int.reduceLE,Int.reduceLT,Int.reduceToNat,Int.reduceAdd,Int.reduceSub,↓reduceIte,Nat.reduceBEq,Nat.reduceAdd,Nat.reduceSub,Nat.reduceMul,Nat.reduceLT,Nat.reduceEqDiff,reduceCtorEq,Nat.reduceLeDiff]
theorem SY (t:aj):a4 Tryz.prog bq 112 [t.enc] (.int .i64 (gi t)):=by
 refine a4.intro (D:=eB) alh (by simp only [List.all_cons,List.all_nil,aj.arg];rfl) rfl ?_
 obtain ⟨fj,dv⟩:=t
 simp only [aj.enc,gi,aj.args,aj.name]
 have an:=amb fj
 have b3:=amf fj
 have ar:=amc fj
 have c2:=ama fj
 unfold P9
 by_cases R:dv.length>0
 ·have aB:decide ((dv.length:Int)>0)=true:=decide_eq_true (by omega)
  simp only [go_sem,aV,aW,aB,ed,R,Ab,Int.reduceLE,Int.reduceLT,Int.reduceToNat,Int.reduceAdd,Int.reduceSub,↓reduceIte,Nat.reduceBEq,Nat.reduceAdd,Nat.reduceSub,Nat.reduceMul,Nat.reduceLT,Nat.reduceEqDiff,reduceCtorEq,Nat.reduceLeDiff]
 ·have aB:decide ((dv.length:Int)>0)=false:=decide_eq_false (by omega)
  obtain ⟨cf,e5⟩:∃b,(gV fj).isSome=b:=⟨_,rfl⟩
  obtain ⟨cY,eQ⟩:∃b,iP fj=b:=⟨_,rfl⟩
  rw [e5] at an b3
  rw [eQ] at ar c2
  cases cf
  ·cases cY<;>simp only [go_sem,aV,aW,aB,ed,R,e5,eQ,an,b3,ar,c2,Ab,Int.reduceLE,Int.reduceLT,Int.reduceToNat,Int.reduceAdd,Int.reduceSub,↓reduceIte,Nat.reduceBEq,Nat.reduceAdd,Nat.reduceSub,Nat.reduceMul,Nat.reduceLT,Nat.reduceEqDiff,reduceCtorEq,Nat.reduceLeDiff]
  ·simp only [go_sem,aV,aW,aB,ed,R,e5,an,b3,Ab,Int.reduceLE,Int.reduceLT,Int.reduceToNat,Int.reduceAdd,Int.reduceSub,↓reduceIte,Nat.reduceBEq,Nat.reduceAdd,Nat.reduceSub,Nat.reduceMul,Nat.reduceLT,Nat.reduceEqDiff,reduceCtorEq,Nat.reduceLeDiff]
theorem amg (a b:cK):a4 Tryz.prog bq 114 [.str a,.str b] (.int .i64 (da a b)):=by
 refine a4.intro (D:=eB) alj rfl rfl ?_
 have h:=JV a b
 have aa:Op.bytesLess b a=true∨Op.bytesLess b a=false:=by cases Op.bytesLess b a<;>simp
 have al:Op.bytesLess a b=false→(!(Op.bytesLess a b||a==b))=Op.bytesLess b a:=fun aP=>by
  have aY:=JV b a
  have bn:da a b=0↔a=b:=pP
  rw [h,aP] at bn
  simp only [Bool.false_eq_true,if_false] at bn
  rw [aP,Bool.false_or]
  cases ah:Op.bytesLess b a with
  | true=>rw [ah] at bn;simp at bn;simp [bn]
  | false=>rw [ah] at bn;simp at bn;simp [bn]
 unfold Qc
 rw [h]
 cases R:Op.bytesLess a b with
 | true=>simp only [go_sem,aV,aW,R,Ac,Int.reduceLE,Int.reduceLT,Int.reduceToNat,Int.reduceAdd,Int.reduceSub,↓reduceIte,Nat.reduceBEq,Nat.reduceAdd,Nat.reduceSub,Nat.reduceMul,Nat.reduceLT,Nat.reduceEqDiff,reduceCtorEq,Nat.reduceLeDiff]
 | false =>
  have cw:=al R
  rw [R,Bool.false_or] at cw
  cases ah:Op.bytesLess b a with
  | true =>
   rw [ah] at cw
   have dr:(a==b)=false:=by simpa using cw
   simp only [go_sem,aV,aW,R,dr,ah,Ac,Int.reduceLE,Int.reduceLT,Int.reduceToNat,Int.reduceAdd,Int.reduceSub,↓reduceIte,Nat.reduceBEq,Nat.reduceAdd,Nat.reduceSub,Nat.reduceMul,Nat.reduceLT,Nat.reduceEqDiff,reduceCtorEq,Nat.reduceLeDiff]
  | false =>
   rw [ah] at cw
   have dr:(a==b)=true:=by simpa using cw
   simp only [go_sem,aV,aW,R,dr,ah,Ac,Int.reduceLE,Int.reduceLT,Int.reduceToNat,Int.reduceAdd,Int.reduceSub,↓reduceIte,Nat.reduceBEq,Nat.reduceAdd,Nat.reduceSub,Nat.reduceMul,Nat.reduceLT,Nat.reduceEqDiff,reduceCtorEq,Nat.reduceLeDiff]
theorem amh (l m:List aj) (h:∀t∈l,∀u,a4 Tryz.prog bq 66 [t.enc,u.enc] (.int .i64 (bJ t u))):a4 Tryz.prog bq 115 [cN l,cN m] (.int .i64 (dm l m)):=by
 refine a4.assume (B:=l.length≤M∧m.length≤M) (fun γ vs h=>by cases h with | cons _ _ _ _ h cC=>cases cC with | cons _ _ _ _ aa _=>exact ⟨(sh h).1,(sh aa).1⟩) fun ah=>?_
 have Ax:M=1099511627776:=rfl
 refine a4.intro (D:=eB) alk rfl rfl ?_
 unfold Qd
 simp only [cN]
 simp only [go_sem,aV,aW,Int.reduceLE,Int.reduceLT,Int.reduceToNat,Int.reduceAdd,Int.reduceSub,↓reduceIte,Nat.reduceBEq,Nat.reduceAdd,Nat.reduceSub,Nat.reduceMul,Nat.reduceLT,Nat.reduceEqDiff,reduceCtorEq,Nat.reduceLeDiff]
 refine e8 (fun i:Nat=>⟨N [(0,.v (.list none 2 (bC l))),(1,.v (.list none 2 (bC m))),(5,.v (.int .i64 i))],[]⟩)
  (fun i=>i≤l.length∧i≤m.length∧dm (l.drop i) (m.drop i)=dm l m) (fun i=>l.length - i) 0 ⟨by omega,by omega,rfl⟩ (by (try simp only [go_sem,aV,aW,Int.reduceLE,Int.reduceLT,Int.reduceToNat,Int.reduceAdd,Int.reduceSub,↓reduceIte,Nat.reduceBEq,Nat.reduceAdd,Nat.reduceSub,Nat.reduceMul,Nat.reduceLT,Nat.reduceEqDiff,reduceCtorEq,Nat.reduceLeDiff])<;>(first | rfl | (simp only [b7,List.foldr_cons,List.foldr_nil,Env.ins,Int.reduceLE,Int.reduceLT,Int.reduceToNat,Int.reduceAdd,Int.reduceSub,↓reduceIte,Nat.reduceBEq,Nat.reduceAdd,Nat.reduceSub,Nat.reduceMul,Nat.reduceLT,Nat.reduceEqDiff,reduceCtorEq,Nat.reduceLeDiff];try rfl))) ?_
 rintro i ⟨av,a6,ao⟩
 have fin:l.length≤i∨m.length≤i→eB 111 [.int .i64 l.length,.int .i64 m.length]=some (.int .i64 (dm l m))∧a4 Tryz.prog bq 111 [.int .i64 l.length,.int .i64 m.length] (.int .i64 (dm l m)):=fun y0=>by
  have q:=Az l.length m.length
  have w:=Ay l.length m.length
  rw [←SF l m i av a6,←SD (l.drop i) (m.drop i) (by simp only [List.length_drop];omega),ao] at q w
  exact ⟨q,w⟩
 by_cases R:i<l.length
 ·have aB:decide ((i:Int)<(l.length:Int))=true:=decide_eq_true (by omega)
  by_cases aa:i<m.length
  ·have aI:decide ((i:Int)<(m.length:Int))=true:=decide_eq_true (by omega)
   have bX:l[i]?=some l[i]:=List.getElem?_eq_getElem R
   have bQ:m[i]?=some m[i]:=List.getElem?_eq_getElem aa
   have f1:(bC l)[i]?=some l[i].enc:=by rw [mF,bX];rfl
   have f2:(bC m)[i]?=some m[i].enc:=by rw [mF,bQ];rfl
   have f5:IntKind.i64.wrap ((i:Int)+1)=((i+1:Nat):Int):=by rw [wrap64]<;>omega
   have f6:(0:Int)≤i:=by omega
   have f7:(i:Int)<l.length:=by omega
   have f8:(i:Int)<m.length:=by omega
   have q:=J0 l[i] m[i]
   have w:=h l[i] (List.getElem_mem _) m[i]
   have aS:=SE bX bQ
   rw [ao] at aS
   generalize l[i]=x at *
   generalize m[i]=y at *
   obtain ⟨et,de⟩:=x
   obtain ⟨ey,dR⟩:=y
   simp only [aj.enc] at f1 f2 q w
   generalize bJ (.mk et de) (.mk ey dR)=c at *
   by_cases al:c=0
   ·have k:(c != 0)=false:=by simp [al]
    rw [if_pos al] at aS
    simp only [go_sem,aV,aW,aB,aI,f1,f2,f5,f6,f7,f8,q,w,k,ed,Int.reduceLE,Int.reduceLT,Int.reduceToNat,Int.reduceAdd,Int.reduceSub,↓reduceIte,Nat.reduceBEq,Nat.reduceAdd,Nat.reduceSub,Nat.reduceMul,Nat.reduceLT,Nat.reduceEqDiff,reduceCtorEq,Nat.reduceLeDiff]
    exact ⟨i+1,⟨by omega,by omega,aS.symm⟩,by omega,by (first | rfl | (simp only [b7,List.foldr_cons,List.foldr_nil,Env.ins,Int.reduceLE,Int.reduceLT,Int.reduceToNat,Int.reduceAdd,Int.reduceSub,↓reduceIte,Nat.reduceBEq,Nat.reduceAdd,Nat.reduceSub,Nat.reduceMul,Nat.reduceLT,Nat.reduceEqDiff,reduceCtorEq,Nat.reduceLeDiff];try rfl))⟩
   ·have k:(c != 0)=true:=by simp [al]
    rw [if_neg al] at aS
    simp only [go_sem,aV,aW,aB,aI,f1,f2,f5,f6,f7,f8,q,w,k,ed,Ad,aS,Int.reduceLE,Int.reduceLT,Int.reduceToNat,Int.reduceAdd,Int.reduceSub,↓reduceIte,Nat.reduceBEq,Nat.reduceAdd,Nat.reduceSub,Nat.reduceMul,Nat.reduceLT,Nat.reduceEqDiff,reduceCtorEq,Nat.reduceLeDiff]
  ·have aI:decide ((i:Int)<(m.length:Int))=false:=decide_eq_false (by omega)
   obtain ⟨q,w⟩:=fin (.inr (by omega))
   unfold HP
   simp only [go_sem,aV,aW,aB,aI,ed,q,w,Ad,Int.reduceLE,Int.reduceLT,Int.reduceToNat,Int.reduceAdd,Int.reduceSub,↓reduceIte,Nat.reduceBEq,Nat.reduceAdd,Nat.reduceSub,Nat.reduceMul,Nat.reduceLT,Nat.reduceEqDiff,reduceCtorEq,Nat.reduceLeDiff]
 ·have aB:decide ((i:Int)<(l.length:Int))=false:=decide_eq_false (by omega)
  obtain ⟨q,w⟩:=fin (.inl (by omega))
  unfold HP
  simp only [go_sem,aV,aW,aB,ed,q,w,Ad,Int.reduceLE,Int.reduceLT,Int.reduceToNat,Int.reduceAdd,Int.reduceSub,↓reduceIte,Nat.reduceBEq,Nat.reduceAdd,Nat.reduceSub,Nat.reduceMul,Nat.reduceLT,Nat.reduceEqDiff,reduceCtorEq,Nat.reduceLeDiff]
theorem ami (t u:aj) (h:a4 Tryz.prog bq 115 [cN t.args,cN u.args] (.int .i64 (dm t.args u.args))):a4 Tryz.prog bq 66 [t.enc,u.enc] (.int .i64 (bJ t u)):=by
 refine a4.intro (D:=eB) alf (by simp only [List.all_cons,List.all_nil,aj.arg];rfl) rfl ?_
 have an:=SW t
 have b3:=SY t
 have ar:=SW u
 have c2:=SY u
 have aO:=ame t.args u.args
 have af:=uR t u
 obtain ⟨n,a⟩:=t
 obtain ⟨m,b⟩:=u
 simp only [aj.enc,aj.args,aj.name,cN] at an b3 ar c2 aO h af ⊢
 generalize bJ (.mk n a) (.mk m b)=lu at *
 generalize gi (.mk n a)=x at *
 generalize gi (.mk m b)=y at *
 have bf:=Az x y
 have v1:=Ay x y
 have bu:=SV n
 have v2:=SX n
 have b5:=SV m
 have hn:=SX m
 have cy:=Az (hT n) (hT m)
 have v4:=Ay (hT n) (hT m)
 have eW:=Az a.length b.length
 have Ec:=Ay a.length b.length
 have eF:=amd n m
 have v6:=amg n m
 unfold P5
 by_cases R:x=y
 ·have bN:eo x y=0:=by rw [R];simp [eo]
  rw [bN] at bf v1
  have cb:((0:Int) != 0)=false:=rfl
  by_cases aa:x=0
  ·have ds:((x:Int)==0)=true:=by rw [aa];rfl
   have ax:lu=eo (hT n) (hT m):=by rw [af,nF,if_neg (fun g=>g R),if_pos aa]
   rw [ax]
   simp only [go_sem,aV,aW,an,b3,ar,c2,bf,v1,cb,ds,bu,v2,b5,hn,cy,v4,uA,Int.reduceLE,Int.reduceLT,Int.reduceToNat,Int.reduceAdd,Int.reduceSub,↓reduceIte,Nat.reduceBEq,Nat.reduceAdd,Nat.reduceSub,Nat.reduceMul,Nat.reduceLT,Nat.reduceEqDiff,reduceCtorEq,Nat.reduceLeDiff]
  ·have ds:((x:Int)==0)=false:=by rw [beq_eq_false_iff_ne];omega
   by_cases al:a.length=b.length
   ·have dz:((a.length:Int) != b.length)=false:=by simp [al]
    have amj:∃c,da n m=c:=⟨_,rfl⟩
    obtain ⟨c,v5⟩:=amj
    rw [v5] at eF v6
    by_cases aY:c=0
    ·have ax:lu=dm a b:=by rw [af,v5,nF,if_neg (fun g=>g R),if_neg aa,if_neg (fun g=>g al),if_neg (fun g=>g aY)]
     rw [ax]
     have ez:(c != 0)=false:=by simp [aY]
     simp only [go_sem,aV,aW,an,b3,ar,c2,bf,v1,cb,ds,dz,eF,v6,ez,aO,h,ed,uA,Int.reduceLE,Int.reduceLT,Int.reduceToNat,Int.reduceAdd,Int.reduceSub,↓reduceIte,Nat.reduceBEq,Nat.reduceAdd,Nat.reduceSub,Nat.reduceMul,Nat.reduceLT,Nat.reduceEqDiff,reduceCtorEq,Nat.reduceLeDiff]
    ·have ax:lu=c:=by rw [af,v5,nF,if_neg (fun g=>g R),if_neg aa,if_neg (fun g=>g al),if_pos aY]
     rw [ax]
     have ez:(c != 0)=true:=by simp [aY]
     simp only [go_sem,aV,aW,an,b3,ar,c2,bf,v1,cb,ds,dz,eF,v6,ez,ed,uA,Int.reduceLE,Int.reduceLT,Int.reduceToNat,Int.reduceAdd,Int.reduceSub,↓reduceIte,Nat.reduceBEq,Nat.reduceAdd,Nat.reduceSub,Nat.reduceMul,Nat.reduceLT,Nat.reduceEqDiff,reduceCtorEq,Nat.reduceLeDiff]
   ·have ax:lu=eo a.length b.length:=by rw [af,nF,if_neg (fun g=>g R),if_neg aa,if_pos al]
    rw [ax]
    have dz:((a.length:Int) != b.length)=true:=by simp;omega
    simp only [go_sem,aV,aW,an,b3,ar,c2,bf,v1,cb,ds,dz,eW,Ec,ed,uA,Int.reduceLE,Int.reduceLT,Int.reduceToNat,Int.reduceAdd,Int.reduceSub,↓reduceIte,Nat.reduceBEq,Nat.reduceAdd,Nat.reduceSub,Nat.reduceMul,Nat.reduceLT,Nat.reduceEqDiff,reduceCtorEq,Nat.reduceLeDiff]
 ·have ax:lu=eo x y:=by rw [af,nF,if_pos R]
  rw [ax]
  have bN:(eo x y != 0)=true:=by
   simp only [eo]
   by_cases g:x<y
   ·simp [g]
   ·have:y<x:=by omega
    simp [g,this]
  simp only [go_sem,aV,aW,an,b3,ar,c2,bf,v1,bN,uA,Int.reduceLE,Int.reduceLT,Int.reduceToNat,Int.reduceAdd,Int.reduceSub,↓reduceIte,Nat.reduceBEq,Nat.reduceAdd,Nat.reduceSub,Nat.reduceMul,Nat.reduceLT,Nat.reduceEqDiff,reduceCtorEq,Nat.reduceLeDiff]
mutual
theorem J1:∀(t u:aj),a4 Tryz.prog bq 66 [t.enc,u.enc] (.int .i64 (bJ t u))
 | .mk n a,u=>ami (.mk n a) u (amh a u.args fun t aF u=>SZ a t aF u)
theorem SZ:∀(l:List aj),∀t∈l,∀u,a4 Tryz.prog bq 66 [t.enc,u.enc] (.int .i64 (bJ t u))
 | [],_,h,_=>by cases h
 | s::r,t,h,u=>by
  rcases List.mem_cons.1 h with e | h
  ·rw [e];exact J1 s u
  ·exact SZ r t h u
end
end AM
