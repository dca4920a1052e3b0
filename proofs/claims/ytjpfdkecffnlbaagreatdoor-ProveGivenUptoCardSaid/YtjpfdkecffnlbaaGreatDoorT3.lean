/- gameplayerplain.Term and Terms, term.clone. Conditions: none. -/
import Derived.Test.YtjpfdkecffnlbaaGreatDoorT2
set_option maxRecDepth 100000
set_option maxHeartbeats 4000000
set_option linter.unusedSimpArgs false
set_option linter.unusedVariables false
namespace AM
open Go Go.Proofs
def oz (f:Nat) (xs:List AV):Option AV :=
 if f=34 then (match xs with | [x,y]=>(match fV x,fV y with | some t,some u=>some (.bool (lZ t u)) | _,_=>none) | _=>none)
 else if f=9 then (match xs with | [x,y]=>(match ia x,ia y with | some t,some u=>some (.bool (gW t u)) | _,_=>none) | _=>none)
 else if f=76 then (match xs with | [x]=>(fV x).map aj.enc | _=>none)
 else hp f xs
theorem alY (t u:aj):oz 34 [t.enc,u.enc]=some (.bool (lZ t u)):=by simp [oz,si]
theorem alZ (t u:List aj):oz 9 [cN t,cN u]=some (.bool (gW t u)):=by simp [oz,sj]
theorem al0 (t:aj):oz 76 [t.enc]=some t.enc:=by simp [oz,si]
theorem SK (l m:List aj) (h:∀t∈l,∀u,a4 Tryz.prog bq 34 [t.enc,u.enc] (.bool (lZ t u))):a4 Tryz.prog bq 9 [cN l,cN m] (.bool (gW l m)):=by
 refine a4.assume (B:=l.length≤M∧m.length≤M) (fun γ vs h=>by cases h with | cons _ _ _ _ h cC=>cases cC with | cons _ _ _ _ aa _=>exact ⟨(sh h).1,(sh aa).1⟩) fun ah=>?_
 have Ax:M=1099511627776:=rfl
 refine a4.intro (D:=oz) alb rfl rfl ?_
 unfold PY
 simp only [cN]
 by_cases a0:l.length=m.length
 ·have c3:((l.length:Int) != m.length)=false:=by simp [a0]
  simp only [go_sem,aV,aW,ed,c3,Int.reduceLE,Int.reduceLT,Int.reduceToNat,Int.reduceAdd,Int.reduceSub,↓reduceIte,Nat.reduceBEq,Nat.reduceAdd,Nat.reduceSub,Nat.reduceMul,Nat.reduceLT,Nat.reduceEqDiff,reduceCtorEq,Nat.reduceLeDiff]
  refine e8 (fun i:Nat=>⟨N [(0,.v (.list none 2 (bC l))),(1,.v (.list none 2 (bC m))),(12,.v (.int .i64 l.length)),(13,.v (.int .i64 i))],[]⟩)
   (fun i=>i≤l.length∧gW (l.drop i) (m.drop i)=gW l m) (fun i=>l.length - i) 0 ⟨by omega,rfl⟩ (by (try simp only [go_sem,aV,aW,Int.reduceLE,Int.reduceLT,Int.reduceToNat,Int.reduceAdd,Int.reduceSub,↓reduceIte,Nat.reduceBEq,Nat.reduceAdd,Nat.reduceSub,Nat.reduceMul,Nat.reduceLT,Nat.reduceEqDiff,reduceCtorEq,Nat.reduceLeDiff])<;>(first | rfl | (simp only [b7,List.foldr_cons,List.foldr_nil,Env.ins,Int.reduceLE,Int.reduceLT,Int.reduceToNat,Int.reduceAdd,Int.reduceSub,↓reduceIte,Nat.reduceBEq,Nat.reduceAdd,Nat.reduceSub,Nat.reduceMul,Nat.reduceLT,Nat.reduceEqDiff,reduceCtorEq,Nat.reduceLeDiff];try rfl))) ?_
  rintro i ⟨av,ao⟩
  by_cases R:i<l.length
  ·have aa:i<m.length:=by omega
   have aB:decide ((i:Int)<(l.length:Int))=true:=decide_eq_true (by omega)
   have bX:l[i]?=some l[i]:=List.getElem?_eq_getElem R
   have bQ:m[i]?=some m[i]:=List.getElem?_eq_getElem aa
   have f1:(bC l)[i]?=some l[i].enc:=by rw [mF,bX];rfl
   have f2:(bC m)[i]?=some m[i].enc:=by rw [mF,bQ];rfl
   have f5:IntKind.i64.wrap ((i:Int)+1)=((i+1:Nat):Int):=by rw [wrap64]<;>omega
   have f6:(0:Int)≤i:=by omega
   have f7:(i:Int)<l.length:=by omega
   have f8:(i:Int)<m.length:=by omega
   have q:=alY l[i] m[i]
   have w:=h l[i] (List.getElem_mem _) m[i]
   have aS:=alE bX bQ
   rw [ao] at aS
   generalize l[i]=x at *
   generalize m[i]=y at *
   obtain ⟨et,de⟩:=x
   obtain ⟨ey,dR⟩:=y
   simp only [aj.enc] at f1 f2 q w
   generalize lZ (.mk et de) (.mk ey dR)=c at *
   cases c
   ·simp only [go_sem,aV,aW,aB,f1,f2,f5,f6,f7,f8,q,w,ed,z3,aS,Int.reduceLE,Int.reduceLT,Int.reduceToNat,Int.reduceAdd,Int.reduceSub,↓reduceIte,Nat.reduceBEq,Nat.reduceAdd,Nat.reduceSub,Nat.reduceMul,Nat.reduceLT,Nat.reduceEqDiff,reduceCtorEq,Nat.reduceLeDiff]
   ·simp only [go_sem,aV,aW,aB,f1,f2,f5,f6,f7,f8,q,w,ed,Int.reduceLE,Int.reduceLT,Int.reduceToNat,Int.reduceAdd,Int.reduceSub,↓reduceIte,Nat.reduceBEq,Nat.reduceAdd,Nat.reduceSub,Nat.reduceMul,Nat.reduceLT,Nat.reduceEqDiff,reduceCtorEq,Nat.reduceLeDiff]
    exact ⟨i+1,⟨by omega,by rw [aS];rfl⟩,by omega,by (first | rfl | (simp only [b7,List.foldr_cons,List.foldr_nil,Env.ins,Int.reduceLE,Int.reduceLT,Int.reduceToNat,Int.reduceAdd,Int.reduceSub,↓reduceIte,Nat.reduceBEq,Nat.reduceAdd,Nat.reduceSub,Nat.reduceMul,Nat.reduceLT,Nat.reduceEqDiff,reduceCtorEq,Nat.reduceLeDiff];try rfl))⟩
  ·have aB:decide ((i:Int)<(l.length:Int))=false:=decide_eq_false (by omega)
   have:gW l m=true:=by rw [←ao,List.drop_eq_nil_of_le (by omega),List.drop_eq_nil_of_le (by omega)];rfl
   unfold PX
   simp only [go_sem,aV,aW,aB,this,z3,Int.reduceLE,Int.reduceLT,Int.reduceToNat,Int.reduceAdd,Int.reduceSub,↓reduceIte,Nat.reduceBEq,Nat.reduceAdd,Nat.reduceSub,Nat.reduceMul,Nat.reduceLT,Nat.reduceEqDiff,reduceCtorEq,Nat.reduceLeDiff]
 ·have c3:((l.length:Int) != m.length)=true:=by simp;omega
  simp only [go_sem,aV,aW,ed,c3,alD a0,z3,Int.reduceLE,Int.reduceLT,Int.reduceToNat,Int.reduceAdd,Int.reduceSub,↓reduceIte,Nat.reduceBEq,Nat.reduceAdd,Nat.reduceSub,Nat.reduceMul,Nat.reduceLT,Nat.reduceEqDiff,reduceCtorEq,Nat.reduceLeDiff]
theorem al1 (t u:aj) (h:a4 Tryz.prog bq 9 [cN t.args,cN u.args] (.bool (gW t.args u.args))):a4 Tryz.prog bq 34 [t.enc,u.enc] (.bool (lZ t u)):=by
 refine a4.intro (D:=oz) JE (by simp only [List.all_cons,List.all_nil,aj.arg];rfl) rfl ?_
 have q:=alZ t.args u.args
 obtain ⟨n,a⟩:=t
 obtain ⟨m,b⟩:=u
 simp only [aj.enc,aj.args,cN] at q h ⊢
 unfold z6
 cases R:n==m<;>simp only [go_sem,aV,aW,R,q,h,lZ,z7,Int.reduceLE,Int.reduceLT,Int.reduceToNat,Int.reduceAdd,Int.reduceSub,↓reduceIte,Nat.reduceBEq,Nat.reduceAdd,Nat.reduceSub,Nat.reduceMul,Nat.reduceLT,Nat.reduceEqDiff,reduceCtorEq,Nat.reduceLeDiff]
mutual
theorem SL:∀(t u:aj),a4 Tryz.prog bq 34 [t.enc,u.enc] (.bool (lZ t u))
 | .mk n a,u=>al1 (.mk n a) u (SK a u.args fun t aF u=>SM a t aF u)
theorem SM:∀(l:List aj),∀t∈l,∀u,a4 Tryz.prog bq 34 [t.enc,u.enc] (.bool (lZ t u))
 | [],_,h,_=>by cases h
 | s::r,t,h,u=>by
  rcases List.mem_cons.1 h with e | h
  ·rw [e];exact SL s u
  ·exact SM r t h u
end
theorem al2 (l m:List aj):a4 Tryz.prog bq 9 [cN l,cN m] (.bool (gW l m)):=SK l m fun t _ u=>SL t u
theorem al3 {l:List aj} {i:Nat} {t:aj} (h:l[i]?=some t):bC (l.take (i+1))=bC (l.take i)++[t.enc]:=by
 rw [uN h,ln,ln,List.map_append];rfl
theorem al4 (t:aj) (h:∀u∈t.args,a4 Tryz.prog bq 76 [u.enc] u.enc):a4 Tryz.prog bq 76 [t.enc] t.enc:=by
 refine a4.assume (B:=t.eG) (fun γ vs h=>by cases h with | cons _ _ _ _ h _=>exact aj.kd h) fun ah=>?_
 obtain ⟨fj,dv⟩:=t
 simp only [aj.eG] at ah
 simp only [aj.args] at h
 have c7:=ah.2.1
 have Ax:M=1099511627776:=rfl
 refine a4.sl (D:=oz) JF (by simp only [List.all_cons,List.all_nil,aj.arg];rfl) (aj.res _) (aj.ux _) ?_
 simp only [aj.enc]
 unfold z9
 simp only [go_sem,aV,aW,ed,uG,Int.reduceLE,Int.reduceLT,Int.reduceToNat,Int.reduceAdd,Int.reduceSub,↓reduceIte,Nat.reduceBEq,Nat.reduceAdd,Nat.reduceSub,Nat.reduceMul,Nat.reduceLT,Nat.reduceEqDiff,reduceCtorEq,Nat.reduceLeDiff]
 refine e8 (fun i:Nat=>⟨N [(2,.b [.str [],.aH 2]),(3,.v (.ptr 0 0)),(10,.v (.list none 2 (bC dv))),(11,.v (.int .i64 dv.length)),(12,.v (.int .i64 i))],[.cells [.str fj,if i=0 then .aH 2 else .list (some 38) 2 (bC (dv.take i))]]⟩)
  (fun i=>i≤dv.length) (fun i=>dv.length - i) 0 (by omega) (by (try simp only [go_sem,aV,aW,Int.reduceLE,Int.reduceLT,Int.reduceToNat,Int.reduceAdd,Int.reduceSub,↓reduceIte,Nat.reduceBEq,Nat.reduceAdd,Nat.reduceSub,Nat.reduceMul,Nat.reduceLT,Nat.reduceEqDiff,reduceCtorEq,Nat.reduceLeDiff])<;>(first | rfl | (simp only [b7,List.foldr_cons,List.foldr_nil,Env.ins,Int.reduceLE,Int.reduceLT,Int.reduceToNat,Int.reduceAdd,Int.reduceSub,↓reduceIte,Nat.reduceBEq,Nat.reduceAdd,Nat.reduceSub,Nat.reduceMul,Nat.reduceLT,Nat.reduceEqDiff,reduceCtorEq,Nat.reduceLeDiff];try rfl))) ?_
 intro i av
 by_cases R:i<dv.length
 ·have aB:decide ((i:Int)<(dv.length:Int))=true:=decide_eq_true (by omega)
  have bX:dv[i]?=some dv[i]:=List.getElem?_eq_getElem R
  have f1:(bC dv)[i]?=some dv[i].enc:=by rw [mF,bX];rfl
  have f5:IntKind.i64.wrap ((i:Int)+1)=((i+1:Nat):Int):=by rw [wrap64]<;>omega
  have f6:(0:Int)≤i:=by omega
  have f7:(i:Int)<dv.length:=by omega
  have q:=al0 dv[i]
  have w:=h dv[i] (List.getElem_mem _)
  have aS:=al3 bX
  generalize dv[i]=x at *
  obtain ⟨et,de⟩:=x
  simp only [aj.enc] at f1 q w aS
  have bN:(if i+1=0 then (AV.aH 2) else .list (some 38) 2 (bC (dv.take (i+1))))=.list (some 38) 2 (bC (dv.take (i+1))):=if_neg (by omega)
  by_cases a0:i=0
  ·have c3:(if i=0 then (AV.aH 2) else .list (some 38) 2 (bC (dv.take i)))=.aH 2:=if_pos a0
   have jh:bC (dv.take (i+1))=[.agg [.str et,.list none 2 (bC de)]]:=by rw [aS,a0,List.take_zero];simp only [bC,List.nil_append]
   have k:1≤M:=by omega
   simp only [go_sem,aV,aW,aB,f1,f5,f6,f7,q,w,ed,c3,k,Int.reduceLE,Int.reduceLT,Int.reduceToNat,Int.reduceAdd,Int.reduceSub,↓reduceIte,Nat.reduceBEq,Nat.reduceAdd,Nat.reduceSub,Nat.reduceMul,Nat.reduceLT,Nat.reduceEqDiff,reduceCtorEq,Nat.reduceLeDiff]
   exact ⟨i+1,by omega,by omega,by (simp only [b7,List.foldr_cons,List.foldr_nil,Env.ins,bN,jh,Int.reduceLE,Int.reduceLT,Int.reduceToNat,Int.reduceAdd,Int.reduceSub,↓reduceIte,Nat.reduceBEq,Nat.reduceAdd,Nat.reduceSub,Nat.reduceMul,Nat.reduceLT,Nat.reduceEqDiff,reduceCtorEq,Nat.reduceLeDiff])⟩
  ·have c3:(if i=0 then (AV.aH 2) else .list (some 38) 2 (bC (dv.take i)))=.list (some 38) 2 (bC (dv.take i)):=if_neg a0
   have k:(dv.take i).length+1≤M:=by rw [List.length_take];omega
   simp only [go_sem,aV,aW,aB,f1,f5,f6,f7,q,w,ed,c3,k,Int.reduceLE,Int.reduceLT,Int.reduceToNat,Int.reduceAdd,Int.reduceSub,↓reduceIte,Nat.reduceBEq,Nat.reduceAdd,Nat.reduceSub,Nat.reduceMul,Nat.reduceLT,Nat.reduceEqDiff,reduceCtorEq,Nat.reduceLeDiff]
   exact ⟨i+1,by omega,by omega,by (simp only [b7,List.foldr_cons,List.foldr_nil,Env.ins,bN,aS,Int.reduceLE,Int.reduceLT,Int.reduceToNat,Int.reduceAdd,Int.reduceSub,↓reduceIte,Nat.reduceBEq,Nat.reduceAdd,Nat.reduceSub,Nat.reduceMul,Nat.reduceLT,Nat.reduceEqDiff,reduceCtorEq,Nat.reduceLeDiff])⟩
 ·have aB:decide ((i:Int)<(dv.length:Int))=false:=decide_eq_false (by omega)
  have iE:i=dv.length:=by omega
  unfold P7
  by_cases a0:i=0
  ·have c3:(if i=0 then (AV.aH 2) else .list (some 38) 2 (bC (dv.take i)))=.aH 2:=if_pos a0
   simp only [go_sem,aV,aW,aB,c3,uG,Int.reduceLE,Int.reduceLT,Int.reduceToNat,Int.reduceAdd,Int.reduceSub,↓reduceIte,Nat.reduceBEq,Nat.reduceAdd,Nat.reduceSub,Nat.reduceMul,Nat.reduceLT,Nat.reduceEqDiff,reduceCtorEq,Nat.reduceLeDiff]
   refine ⟨_,rfl,eZ.agg (.cons (eZ.refl _) (.cons ?_ .nil))⟩
   have:dv=[]:=List.eq_nil_of_length_eq_zero (by omega)
   rw [this];simp only [bC];exact eZ.aH 2
  ·have c3:(if i=0 then (AV.aH 2) else .list (some 38) 2 (bC (dv.take i)))=.list (some 38) 2 (bC (dv.take i)):=if_neg a0
   simp only [go_sem,aV,aW,aB,c3,uG,Int.reduceLE,Int.reduceLT,Int.reduceToNat,Int.reduceAdd,Int.reduceSub,↓reduceIte,Nat.reduceBEq,Nat.reduceAdd,Nat.reduceSub,Nat.reduceMul,Nat.reduceLT,Nat.reduceEqDiff,reduceCtorEq,Nat.reduceLeDiff]
   refine ⟨_,rfl,eZ.agg (.cons (eZ.refl _) (.cons ?_ .nil))⟩
   rw [iE,List.take_length];exact eZ.refl _
mutual
theorem SN:∀(t:aj),a4 Tryz.prog bq 76 [t.enc] t.enc
 | .mk n a=>al4 (.mk n a) fun u hu=>SO a u hu
theorem SO:∀(l:List aj),∀t∈l,a4 Tryz.prog bq 76 [t.enc] t.enc
 | [],_,h=>by cases h
 | s::r,t,h=>by
  rcases List.mem_cons.1 h with e | h
  ·rw [e];exact SN s
  ·exact SO r t h
end
end AM
