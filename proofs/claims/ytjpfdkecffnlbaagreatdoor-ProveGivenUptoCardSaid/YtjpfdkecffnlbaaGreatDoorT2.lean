/- term.kindOf, order, Compare, CompareList, strings.Compare. Conditions: none. -/
import Derived.Test.YtjpfdkecffnlbaaGreatDoorT1
set_option maxRecDepth 100000
set_option maxHeartbeats 4000000
set_option linter.unusedSimpArgs false
set_option linter.unusedVariables false
namespace AM
open Go Go.Proofs
def hp (f:Nat) (xs:List AV):Option AV :=
 if f=121 then (match xs with | [x]=>(fV x).map fun t=>qT (fr t) | _=>none)
 else if f=123 then (match xs with | [.int .i64 a,.int .i64 b]=>some (.int .i64 (eo a.toNat b.toNat)) | _=>none)
 else if f=124 then (match xs with | [.str a,.str b]=>some (.int .i64 (da a b)) | _=>none)
 else if f=162 then (match xs with | [.str a,.str b]=>some (.int .i64 (da a b)) | _=>none)
 else if f=75 then (match xs with | [x,y]=>(match fV x,fV y with | some t,some u=>some (.int .i64 (bJ t u)) | _,_=>none) | _=>none)
 else if f=122 then (match xs with | [x,y]=>(match ia x,ia y with | some t,some u=>some (.int .i64 (dm t u)) | _,_=>none) | _=>none)
 else jl f xs
theorem alO (s:cK):hp 161 [.str s]=some (g8 s):=by simp [hp,alL]
theorem alP (s:cK):hp 126 [.str s]=some (.bool (iP s)):=by simp [hp,alN]
theorem SH (t:aj):hp 121 [t.enc]=some (qT (fr t)):=by simp [hp,si]
theorem Av (a b:Nat):hp 123 [.int .i64 a,.int .i64 b]=some (.int .i64 (eo a b)):=by simp [hp]
theorem alQ (a b:cK):hp 124 [.str a,.str b]=some (.int .i64 (da a b)):=by simp [hp]
theorem alR (a b:cK):hp 162 [.str a,.str b]=some (.int .i64 (da a b)):=by simp [hp]
theorem alS (t u:aj):hp 75 [t.enc,u.enc]=some (.int .i64 (bJ t u)):=by simp [hp,si]
theorem alT (t u:List aj):hp 122 [cN t,cN u]=some (.int .i64 (dm t u)):=by simp [hp,sj]
theorem Aw (a b:Nat):a4 Tryz.prog bq 123 [.int .i64 a,.int .i64 b] (.int .i64 (eo a b)):=by
 refine a4.intro (D:=hp) JH rfl rfl ?_
 unfold Af
 by_cases R:a<b
 ·have aB:decide ((a:Int)<b)=true:=decide_eq_true (by omega)
  simp only [go_sem,aV,aW,aB,uI,eo,R,Int.reduceLE,Int.reduceLT,Int.reduceToNat,Int.reduceAdd,Int.reduceSub,↓reduceIte,Nat.reduceBEq,Nat.reduceAdd,Nat.reduceSub,Nat.reduceMul,Nat.reduceLT,Nat.reduceEqDiff,reduceCtorEq,Nat.reduceLeDiff]
 ·have aB:decide ((a:Int)<b)=false:=decide_eq_false (by omega)
  by_cases aa:b<a
  ·have aI:decide ((a:Int)>b)=true:=decide_eq_true (by omega)
   simp only [go_sem,aV,aW,aB,aI,uI,eo,R,aa,Int.reduceLE,Int.reduceLT,Int.reduceToNat,Int.reduceAdd,Int.reduceSub,↓reduceIte,Nat.reduceBEq,Nat.reduceAdd,Nat.reduceSub,Nat.reduceMul,Nat.reduceLT,Nat.reduceEqDiff,reduceCtorEq,Nat.reduceLeDiff]
  ·have aI:decide ((a:Int)>b)=false:=decide_eq_false (by omega)
   simp only [go_sem,aV,aW,aB,aI,uI,eo,R,aa,Int.reduceLE,Int.reduceLT,Int.reduceToNat,Int.reduceAdd,Int.reduceSub,↓reduceIte,Nat.reduceBEq,Nat.reduceAdd,Nat.reduceSub,Nat.reduceMul,Nat.reduceLT,Nat.reduceEqDiff,reduceCtorEq,Nat.reduceLeDiff]
theorem alU (a b:cK):a4 Tryz.prog bq 162 [.str a,.str b] (.int .i64 (da a b)):=by
 refine a4.intro (D:=hp) JK rfl rfl ?_
 unfold Ak
 simp only [go_sem,aV,aW,Al,Int.reduceLE,Int.reduceLT,Int.reduceToNat,Int.reduceAdd,Int.reduceSub,↓reduceIte,Nat.reduceBEq,Nat.reduceAdd,Nat.reduceSub,Nat.reduceMul,Nat.reduceLT,Nat.reduceEqDiff,reduceCtorEq,Nat.reduceLeDiff]
theorem alV (a b:cK):a4 Tryz.prog bq 124 [.str a,.str b] (.int .i64 (da a b)):=by
 refine a4.intro (D:=hp) JI rfl rfl ?_
 have q:=alR a b
 have w:=alU a b
 unfold Ag
 simp only [go_sem,aV,aW,q,w,Ah,Int.reduceLE,Int.reduceLT,Int.reduceToNat,Int.reduceAdd,Int.reduceSub,↓reduceIte,Nat.reduceBEq,Nat.reduceAdd,Nat.reduceSub,Nat.reduceMul,Nat.reduceLT,Nat.reduceEqDiff,reduceCtorEq,Nat.reduceLeDiff]
theorem SI (t:aj):a4 Tryz.prog bq 121 [t.enc] (qT (fr t)):=by
 refine a4.intro (D:=hp) alm (by rw [List.all_cons,aj.arg];rfl) rfl ?_
 obtain ⟨fj,dv⟩:=t
 simp only [aj.enc]
 unfold Qe
 by_cases R:dv.length>0
 ·have aB:decide ((dv.length:Int)>0)=true:=decide_eq_true (by omega)
  have ab:fr (.mk fj dv)=(3,0,dv.length,fj):=by simp [fr,aj.args,aj.name,R]
  simp only [go_sem,aV,aW,aB,ed,ab,qT,xi,Int.reduceLE,Int.reduceLT,Int.reduceToNat,Int.reduceAdd,Int.reduceSub,↓reduceIte,Nat.reduceBEq,Nat.reduceAdd,Nat.reduceSub,Nat.reduceMul,Nat.reduceLT,Nat.reduceEqDiff,reduceCtorEq,Nat.reduceLeDiff]
 ·have aB:decide ((dv.length:Int)>0)=false:=decide_eq_false (by omega)
  have q:=alO fj
  have w:=alM fj
  cases aa:gV fj with
  | some n =>
   have ab:fr (.mk fj dv)=(0,n,0,[]):=by simp [fr,aj.args,aj.name,R,aa]
   rw [JP aa] at q w
   simp only [go_sem,aV,aW,aB,ed,ab,q,w,qT,xi,Int.reduceLE,Int.reduceLT,Int.reduceToNat,Int.reduceAdd,Int.reduceSub,↓reduceIte,Nat.reduceBEq,Nat.reduceAdd,Nat.reduceSub,Nat.reduceMul,Nat.reduceLT,Nat.reduceEqDiff,reduceCtorEq,Nat.reduceLeDiff]
  | none =>
   rw [JO aa] at q w
   have ar:=alP fj
   have c2:=alK fj
   cases al:iP fj with
   | true =>
    have ab:fr (.mk fj dv)=(2,0,0,fj):=by simp [fr,aj.args,aj.name,R,aa,al]
    rw [al] at ar c2
    simp only [go_sem,aV,aW,aB,ed,ab,q,w,ar,c2,qT,xi,Int.reduceLE,Int.reduceLT,Int.reduceToNat,Int.reduceAdd,Int.reduceSub,↓reduceIte,Nat.reduceBEq,Nat.reduceAdd,Nat.reduceSub,Nat.reduceMul,Nat.reduceLT,Nat.reduceEqDiff,reduceCtorEq,Nat.reduceLeDiff]
   | false =>
    have ab:fr (.mk fj dv)=(1,0,0,fj):=by simp [fr,aj.args,aj.name,R,aa,al]
    rw [al] at ar c2
    simp only [go_sem,aV,aW,aB,ed,ab,q,w,ar,c2,qT,xi,Int.reduceLE,Int.reduceLT,Int.reduceToNat,Int.reduceAdd,Int.reduceSub,↓reduceIte,Nat.reduceBEq,Nat.reduceAdd,Nat.reduceSub,Nat.reduceMul,Nat.reduceLT,Nat.reduceEqDiff,reduceCtorEq,Nat.reduceLeDiff]
theorem alW (l m:List aj) (h:∀t∈l,∀u,a4 Tryz.prog bq 75 [t.enc,u.enc] (.int .i64 (bJ t u))):a4 Tryz.prog bq 122 [cN l,cN m] (.int .i64 (dm l m)):=by
 refine a4.assume (B:=l.length≤M∧m.length≤M) (fun γ vs h=>by cases h with | cons _ _ _ _ h cC=>cases cC with | cons _ _ _ _ aa _=>exact ⟨(sh h).1,(sh aa).1⟩) fun ah=>?_
 have Ax:M=1099511627776:=rfl
 refine a4.intro (D:=hp) JG rfl rfl ?_
 unfold Ae
 simp only [cN]
 simp only [go_sem,aV,aW,Int.reduceLE,Int.reduceLT,Int.reduceToNat,Int.reduceAdd,Int.reduceSub,↓reduceIte,Nat.reduceBEq,Nat.reduceAdd,Nat.reduceSub,Nat.reduceMul,Nat.reduceLT,Nat.reduceEqDiff,reduceCtorEq,Nat.reduceLeDiff]
 refine e8 (fun i:Nat=>⟨N [(0,.v (.list none 2 (bC l))),(1,.v (.list none 2 (bC m))),(5,.v (.int .i64 i))],[]⟩)
  (fun i=>i≤l.length∧i≤m.length∧dm (l.drop i) (m.drop i)=dm l m) (fun i=>l.length - i) 0 ⟨by omega,by omega,rfl⟩ (by (try simp only [go_sem,aV,aW,Int.reduceLE,Int.reduceLT,Int.reduceToNat,Int.reduceAdd,Int.reduceSub,↓reduceIte,Nat.reduceBEq,Nat.reduceAdd,Nat.reduceSub,Nat.reduceMul,Nat.reduceLT,Nat.reduceEqDiff,reduceCtorEq,Nat.reduceLeDiff])<;>(first | rfl | (simp only [b7,List.foldr_cons,List.foldr_nil,Env.ins,Int.reduceLE,Int.reduceLT,Int.reduceToNat,Int.reduceAdd,Int.reduceSub,↓reduceIte,Nat.reduceBEq,Nat.reduceAdd,Nat.reduceSub,Nat.reduceMul,Nat.reduceLT,Nat.reduceEqDiff,reduceCtorEq,Nat.reduceLeDiff];try rfl))) ?_
 rintro i ⟨av,a6,ao⟩
 have fin:l.length≤i∨m.length≤i→hp 123 [.int .i64 l.length,.int .i64 m.length]=some (.int .i64 (dm l m))∧a4 Tryz.prog bq 123 [.int .i64 l.length,.int .i64 m.length] (.int .i64 (dm l m)):=fun y0=>by
  have q:=Av l.length m.length
  have w:=Aw l.length m.length
  rw [←SF l m i av a6,←SD (l.drop i) (m.drop i) (by simp only [List.length_drop];omega),ao] at q w
  exact ⟨q,w⟩
 by_cases R:i<l.length
 ·have aB:decide ((i:Int)<(l.length:Int))=true:=decide_eq_true (by omega)
  by_cases aa:i<m.length
  ·have aI:decide ((i:Int)<(m.length:Int))=true:=decide_eq_true (by omega)
   have bX:l[i]?=some l[i]:=List.getElem?_eq_getElem R
   have bQ:m[i]?=some m[i]:=List.getElem?_eq_getElem aa
   have f1:(bC l)[i]?=some l[i].enc:=by rw [mF,bX];rfl
   have f2:(bC m)[i]?=some m[i].enc:=by rw [mF,bQ];rfl
   have f5:IntKind.i64.wrap ((i:Int)+1)=((i+1:Nat):Int):=by rw [wrap64]<;>omega
   have f6:(0:Int)≤i:=by omega
   have f7:(i:Int)<l.length:=by omega
   have f8:(i:Int)<m.length:=by omega
   have q:=alS l[i] m[i]
   have w:=h l[i] (List.getElem_mem _) m[i]
   have aS:=SE bX bQ
   rw [ao] at aS
   generalize l[i]=x at *
   generalize m[i]=y at *
   obtain ⟨et,de⟩:=x
   obtain ⟨ey,dR⟩:=y
   simp only [aj.enc] at f1 f2 q w
   generalize bJ (.mk et de) (.mk ey dR)=c at *
   by_cases al:c=0
   ·have k:(c != 0)=false:=by simp [al]
    rw [if_pos al] at aS
    simp only [go_sem,aV,aW,aB,aI,f1,f2,f5,f6,f7,f8,q,w,k,ed,Int.reduceLE,Int.reduceLT,Int.reduceToNat,Int.reduceAdd,Int.reduceSub,↓reduceIte,Nat.reduceBEq,Nat.reduceAdd,Nat.reduceSub,Nat.reduceMul,Nat.reduceLT,Nat.reduceEqDiff,reduceCtorEq,Nat.reduceLeDiff]
    exact ⟨i+1,⟨by omega,by omega,aS.symm⟩,by omega,by (first | rfl | (simp only [b7,List.foldr_cons,List.foldr_nil,Env.ins,Int.reduceLE,Int.reduceLT,Int.reduceToNat,Int.reduceAdd,Int.reduceSub,↓reduceIte,Nat.reduceBEq,Nat.reduceAdd,Nat.reduceSub,Nat.reduceMul,Nat.reduceLT,Nat.reduceEqDiff,reduceCtorEq,Nat.reduceLeDiff];try rfl))⟩
   ·have k:(c != 0)=true:=by simp [al]
    rw [if_neg al] at aS
    simp only [go_sem,aV,aW,aB,aI,f1,f2,f5,f6,f7,f8,q,w,k,ed,uH,aS,Int.reduceLE,Int.reduceLT,Int.reduceToNat,Int.reduceAdd,Int.reduceSub,↓reduceIte,Nat.reduceBEq,Nat.reduceAdd,Nat.reduceSub,Nat.reduceMul,Nat.reduceLT,Nat.reduceEqDiff,reduceCtorEq,Nat.reduceLeDiff]
  ·have aI:decide ((i:Int)<(m.length:Int))=false:=decide_eq_false (by omega)
   obtain ⟨q,w⟩:=fin (.inr (by omega))
   unfold HR
   simp only [go_sem,aV,aW,aB,aI,ed,q,w,uH,Int.reduceLE,Int.reduceLT,Int.reduceToNat,Int.reduceAdd,Int.reduceSub,↓reduceIte,Nat.reduceBEq,Nat.reduceAdd,Nat.reduceSub,Nat.reduceMul,Nat.reduceLT,Nat.reduceEqDiff,reduceCtorEq,Nat.reduceLeDiff]
 ·have aB:decide ((i:Int)<(l.length:Int))=false:=decide_eq_false (by omega)
  obtain ⟨q,w⟩:=fin (.inl (by omega))
  unfold HR
  simp only [go_sem,aV,aW,aB,ed,q,w,uH,Int.reduceLE,Int.reduceLT,Int.reduceToNat,Int.reduceAdd,Int.reduceSub,↓reduceIte,Nat.reduceBEq,Nat.reduceAdd,Nat.reduceSub,Nat.reduceMul,Nat.reduceLT,Nat.reduceEqDiff,reduceCtorEq,Nat.reduceLeDiff]
theorem alX (t u:aj) (h:a4 Tryz.prog bq 122 [cN t.args,cN u.args] (.int .i64 (dm t.args u.args))):a4 Tryz.prog bq 75 [t.enc,u.enc] (.int .i64 (bJ t u)):=by
 refine a4.intro (D:=hp) Ri (by simp only [List.all_cons,List.all_nil,aj.arg];rfl) rfl ?_
 have an:=SH t
 have b3:=SI t
 have ar:=SH u
 have c2:=SI u
 have aO:=alT t.args u.args
 have af:=SC t u
 rw [af]
 clear af
 generalize fr t=x at *
 generalize fr u=y at *
 obtain ⟨x1,x2,x3,jP⟩:=x
 obtain ⟨eA,gp,gq,ph⟩:=y
 have bf:=Av x1 eA
 have v1:=Aw x1 eA
 have bu:=Av x2 gp
 have v2:=Aw x2 gp
 have b5:=Av x3 gq
 have hn:=Aw x3 gq
 have cy:=alQ jP ph
 have v4:=alV jP ph
 obtain ⟨n,a⟩:=t
 obtain ⟨m,b⟩:=u
 simp only [aj.enc,aj.args,cN,qT] at an b3 ar c2 aO h ⊢
 unfold P6
 have heq:nU [0,0,0,1] [.int .i64 (x1:Int),.int .i64 (x2:Int),.int .i64 (x3:Int),.str jP] [.int .i64 (eA:Int),.int .i64 (gp:Int),.int .i64 (gq:Int),.str ph]=some (decide ((x1,x2,x3,jP)=(eA,gp,gq,ph))):=by
  simp only [nU,jz,ml,if_true,Option.some.injEq,Prod.mk.injEq]
  rw [Bool.eq_iff_iff]
  simp only [Bool.and_eq_true,beq_iff_eq,decide_eq_true_eq,Int.natCast_inj,and_true]
 by_cases a0:(x1,x2,x3,jP)=(eA,gp,gq,ph)
 ·rw [decide_eq_true a0] at heq
  rw [if_pos a0]
  simp only [go_sem,aV,aW,an,b3,ar,c2,aO,h,heq,uF,Int.reduceLE,Int.reduceLT,Int.reduceToNat,Int.reduceAdd,Int.reduceSub,↓reduceIte,Nat.reduceBEq,Nat.reduceAdd,Nat.reduceSub,Nat.reduceMul,Nat.reduceLT,Nat.reduceEqDiff,reduceCtorEq,Nat.reduceLeDiff]
 ·rw [decide_eq_false a0] at heq
  rw [if_neg a0]
  by_cases R:x1=eA
  ·have bN:((x1:Int) != eA)=false:=by simp [R]
   rw [if_neg (by simp [R])]
   by_cases aa:x2=gp
   ·have cb:((x2:Int) != gp)=false:=by simp [aa]
    rw [if_neg (by simp [aa])]
    by_cases al:x3=gq
    ·have ds:((x3:Int) != gq)=false:=by simp [al]
     rw [if_neg (by simp [al])]
     simp only [go_sem,aV,aW,an,b3,ar,c2,heq,bN,cb,ds,cy,v4,uF,Int.reduceLE,Int.reduceLT,Int.reduceToNat,Int.reduceAdd,Int.reduceSub,↓reduceIte,Nat.reduceBEq,Nat.reduceAdd,Nat.reduceSub,Nat.reduceMul,Nat.reduceLT,Nat.reduceEqDiff,reduceCtorEq,Nat.reduceLeDiff]
    ·have ds:((x3:Int) != gq)=true:=by simp;omega
     rw [if_pos al]
     simp only [go_sem,aV,aW,an,b3,ar,c2,heq,bN,cb,ds,b5,hn,uF,Int.reduceLE,Int.reduceLT,Int.reduceToNat,Int.reduceAdd,Int.reduceSub,↓reduceIte,Nat.reduceBEq,Nat.reduceAdd,Nat.reduceSub,Nat.reduceMul,Nat.reduceLT,Nat.reduceEqDiff,reduceCtorEq,Nat.reduceLeDiff]
   ·have cb:((x2:Int) != gp)=true:=by simp;omega
    rw [if_pos aa]
    simp only [go_sem,aV,aW,an,b3,ar,c2,heq,bN,cb,bu,v2,uF,Int.reduceLE,Int.reduceLT,Int.reduceToNat,Int.reduceAdd,Int.reduceSub,↓reduceIte,Nat.reduceBEq,Nat.reduceAdd,Nat.reduceSub,Nat.reduceMul,Nat.reduceLT,Nat.reduceEqDiff,reduceCtorEq,Nat.reduceLeDiff]
  ·have bN:((x1:Int) != eA)=true:=by simp;omega
   rw [if_pos R]
   simp only [go_sem,aV,aW,an,b3,ar,c2,heq,bN,bf,v1,uF,Int.reduceLE,Int.reduceLT,Int.reduceToNat,Int.reduceAdd,Int.reduceSub,↓reduceIte,Nat.reduceBEq,Nat.reduceAdd,Nat.reduceSub,Nat.reduceMul,Nat.reduceLT,Nat.reduceEqDiff,reduceCtorEq,Nat.reduceLeDiff]
mutual
theorem JT:∀(t u:aj),a4 Tryz.prog bq 75 [t.enc,u.enc] (.int .i64 (bJ t u))
 | .mk n a,u=>alX (.mk n a) u (alW a u.args fun t aF u=>SJ a t aF u)
theorem SJ:∀(l:List aj),∀t∈l,∀u,a4 Tryz.prog bq 75 [t.enc,u.enc] (.int .i64 (bJ t u))
 | [],_,h,_=>by cases h
 | s::r,t,h,u=>by
  rcases List.mem_cons.1 h with e | h
  ·rw [e];exact JT s u
  ·exact SJ r t h u
end
end AM
