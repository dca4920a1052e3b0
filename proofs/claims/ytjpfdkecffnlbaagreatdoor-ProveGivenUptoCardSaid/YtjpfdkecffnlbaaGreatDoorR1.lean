/- gameplayerref01: lower, upper, digit, Name, Number, IsNumber, value, Variable, class, sign, Strings, Compare, CompareList: they return what the program's functions return. Conditions: none. -/
import Derived.Test.YtjpfdkecffnlbaaGreatDoorT3
import Derived.Test.YtjpfdkecffnlbaaGreatDoorAm13
set_option maxRecDepth 100000
set_option maxHeartbeats 4000000
set_option linter.unusedSimpArgs false
set_option linter.unusedVariables false
namespace AM
open Go Go.Proofs
def jm (c:UInt8):Bool:=decide (97≤c.toNat)&&decide (c.toNat≤122)
def lr (c:UInt8):Bool:=decide (65≤c.toNat)&&decide (c.toNat≤90)
def eB (f:Nat) (xs:List AV):Option AV :=
 if f=186 then (match xs with | [.int .u8 c]=>some (.bool (jm (UInt8.ofNat c.toNat))) | _=>none)
 else if f=188 then (match xs with | [.int .u8 c]=>some (.bool (lr (UInt8.ofNat c.toNat))) | _=>none)
 else if f=187 then (match xs with | [.int .u8 c]=>some (.bool (du (UInt8.ofNat c.toNat))) | _=>none)
 else if f=150 then (match xs with | [.str s]=>some (.bool (pO s)) | _=>none)
 else if f=158 then (match xs with | [.str s]=>some (g8 s) | _=>none)
 else if f=156 then (match xs with | [.str s]=>some (.bool (gV s).isSome) | _=>none)
 else if f=113 then (match xs with | [.str s]=>some (.int .i64 (hT s)) | _=>none)
 else if f=157 then (match xs with | [.str s]=>some (.bool (iP s)) | _=>none)
 else if f=112 then (match xs with | [x]=>(fV x).map fun t=>.int .i64 (gi t) | _=>none)
 else if f=111 then (match xs with | [.int .i64 a,.int .i64 b]=>some (.int .i64 (eo a.toNat b.toNat)) | _=>none)
 else if f=114 then (match xs with | [.str a,.str b]=>some (.int .i64 (da a b)) | _=>none)
 else if f=66 then (match xs with | [x,y]=>(match fV x,fV y with | some t,some u=>some (.int .i64 (bJ t u)) | _,_=>none) | _=>none)
 else if f=115 then (match xs with | [x,y]=>(match ia x,ia y with | some t,some u=>some (.int .i64 (dm t u)) | _,_=>none) | _=>none)
 else oz f xs
theorem JW (c:UInt8):a4 Tryz.prog bq 186 [.int .u8 c.toNat] (.bool (jm c)):=by
 refine a4.intro (D:=eB) alv rfl rfl ?_
 unfold Qt
 by_cases R:97≤c.toNat
 ·have aB:decide ((c.toNat:Int)≥97)=true:=decide_eq_true (by omega)
  by_cases aa:c.toNat≤122
  ·have aI:decide ((c.toNat:Int)≤122)=true:=decide_eq_true (by omega)
   simp only [go_sem,aV,aW,aB,aI,R,aa,jm,An,Int.reduceLE,Int.reduceLT,Int.reduceToNat,Int.reduceAdd,Int.reduceSub,↓reduceIte,Nat.reduceBEq,Nat.reduceAdd,Nat.reduceSub,Nat.reduceMul,Nat.reduceLT,Nat.reduceEqDiff,reduceCtorEq,Nat.reduceLeDiff]
  ·have aI:decide ((c.toNat:Int)≤122)=false:=decide_eq_false (by omega)
   simp only [go_sem,aV,aW,aB,aI,R,aa,jm,An,Int.reduceLE,Int.reduceLT,Int.reduceToNat,Int.reduceAdd,Int.reduceSub,↓reduceIte,Nat.reduceBEq,Nat.reduceAdd,Nat.reduceSub,Nat.reduceMul,Nat.reduceLT,Nat.reduceEqDiff,reduceCtorEq,Nat.reduceLeDiff]
 ·have aB:decide ((c.toNat:Int)≥97)=false:=decide_eq_false (by omega)
  simp only [go_sem,aV,aW,aB,R,jm,An,Int.reduceLE,Int.reduceLT,Int.reduceToNat,Int.reduceAdd,Int.reduceSub,↓reduceIte,Nat.reduceBEq,Nat.reduceAdd,Nat.reduceSub,Nat.reduceMul,Nat.reduceLT,Nat.reduceEqDiff,reduceCtorEq,Nat.reduceLeDiff]
theorem SQ (c:UInt8):a4 Tryz.prog bq 188 [.int .u8 c.toNat] (.bool (lr c)):=by
 refine a4.intro (D:=eB) alx rfl rfl ?_
 unfold Qv
 by_cases R:65≤c.toNat
 ·have aB:decide ((c.toNat:Int)≥65)=true:=decide_eq_true (by omega)
  by_cases aa:c.toNat≤90
  ·have aI:decide ((c.toNat:Int)≤90)=true:=decide_eq_true (by omega)
   simp only [go_sem,aV,aW,aB,aI,R,aa,lr,Ap,Int.reduceLE,Int.reduceLT,Int.reduceToNat,Int.reduceAdd,Int.reduceSub,↓reduceIte,Nat.reduceBEq,Nat.reduceAdd,Nat.reduceSub,Nat.reduceMul,Nat.reduceLT,Nat.reduceEqDiff,reduceCtorEq,Nat.reduceLeDiff]
  ·have aI:decide ((c.toNat:Int)≤90)=false:=decide_eq_false (by omega)
   simp only [go_sem,aV,aW,aB,aI,R,aa,lr,Ap,Int.reduceLE,Int.reduceLT,Int.reduceToNat,Int.reduceAdd,Int.reduceSub,↓reduceIte,Nat.reduceBEq,Nat.reduceAdd,Nat.reduceSub,Nat.reduceMul,Nat.reduceLT,Nat.reduceEqDiff,reduceCtorEq,Nat.reduceLeDiff]
 ·have aB:decide ((c.toNat:Int)≥65)=false:=decide_eq_false (by omega)
  simp only [go_sem,aV,aW,aB,R,lr,Ap,Int.reduceLE,Int.reduceLT,Int.reduceToNat,Int.reduceAdd,Int.reduceSub,↓reduceIte,Nat.reduceBEq,Nat.reduceAdd,Nat.reduceSub,Nat.reduceMul,Nat.reduceLT,Nat.reduceEqDiff,reduceCtorEq,Nat.reduceLeDiff]
theorem JX (c:UInt8):a4 Tryz.prog bq 187 [.int .u8 c.toNat] (.bool (du c)):=by
 refine a4.intro (D:=eB) alw rfl rfl ?_
 unfold Qu
 by_cases R:48≤c.toNat
 ·have aB:decide ((c.toNat:Int)≥48)=true:=decide_eq_true (by omega)
  by_cases aa:c.toNat≤57
  ·have aI:decide ((c.toNat:Int)≤57)=true:=decide_eq_true (by omega)
   simp only [go_sem,aV,aW,aB,aI,R,aa,du,Ao,Int.reduceLE,Int.reduceLT,Int.reduceToNat,Int.reduceAdd,Int.reduceSub,↓reduceIte,Nat.reduceBEq,Nat.reduceAdd,Nat.reduceSub,Nat.reduceMul,Nat.reduceLT,Nat.reduceEqDiff,reduceCtorEq,Nat.reduceLeDiff]
  ·have aI:decide ((c.toNat:Int)≤57)=false:=decide_eq_false (by omega)
   simp only [go_sem,aV,aW,aB,aI,R,aa,du,Ao,Int.reduceLE,Int.reduceLT,Int.reduceToNat,Int.reduceAdd,Int.reduceSub,↓reduceIte,Nat.reduceBEq,Nat.reduceAdd,Nat.reduceSub,Nat.reduceMul,Nat.reduceLT,Nat.reduceEqDiff,reduceCtorEq,Nat.reduceLeDiff]
 ·have aB:decide ((c.toNat:Int)≥48)=false:=decide_eq_false (by omega)
  simp only [go_sem,aV,aW,aB,R,du,Ao,Int.reduceLE,Int.reduceLT,Int.reduceToNat,Int.reduceAdd,Int.reduceSub,↓reduceIte,Nat.reduceBEq,Nat.reduceAdd,Nat.reduceSub,Nat.reduceMul,Nat.reduceLT,Nat.reduceEqDiff,reduceCtorEq,Nat.reduceLeDiff]
theorem JY (c:UInt8):eB 186 [.int .u8 c.toNat]=some (.bool (jm c)):=by simp [eB]
theorem SR (c:UInt8):eB 188 [.int .u8 c.toNat]=some (.bool (lr c)):=by simp [eB]
theorem JZ (c:UInt8):eB 187 [.int .u8 c.toNat]=some (.bool (du c)):=by simp [eB]
theorem Ay (a b:Nat):a4 Tryz.prog bq 111 [.int .i64 a,.int .i64 b] (.int .i64 (eo a b)):=by
 refine a4.intro (D:=eB) alg rfl rfl ?_
 unfold P8
 by_cases R:a<b
 ·have aB:decide ((a:Int)<b)=true:=decide_eq_true (by omega)
  simp only [go_sem,aV,aW,aB,Aa,eo,R,Int.reduceLE,Int.reduceLT,Int.reduceToNat,Int.reduceAdd,Int.reduceSub,↓reduceIte,Nat.reduceBEq,Nat.reduceAdd,Nat.reduceSub,Nat.reduceMul,Nat.reduceLT,Nat.reduceEqDiff,reduceCtorEq,Nat.reduceLeDiff]
 ·have aB:decide ((a:Int)<b)=false:=decide_eq_false (by omega)
  by_cases aa:b<a
  ·have aI:decide ((a:Int)>b)=true:=decide_eq_true (by omega)
   simp only [go_sem,aV,aW,aB,aI,Aa,eo,R,aa,Int.reduceLE,Int.reduceLT,Int.reduceToNat,Int.reduceAdd,Int.reduceSub,↓reduceIte,Nat.reduceBEq,Nat.reduceAdd,Nat.reduceSub,Nat.reduceMul,Nat.reduceLT,Nat.reduceEqDiff,reduceCtorEq,Nat.reduceLeDiff]
  ·have aI:decide ((a:Int)>b)=false:=decide_eq_false (by omega)
   simp only [go_sem,aV,aW,aB,aI,Aa,eo,R,aa,Int.reduceLE,Int.reduceLT,Int.reduceToNat,Int.reduceAdd,Int.reduceSub,↓reduceIte,Nat.reduceBEq,Nat.reduceAdd,Nat.reduceSub,Nat.reduceMul,Nat.reduceLT,Nat.reduceEqDiff,reduceCtorEq,Nat.reduceLeDiff]
def qU (c:UInt8):Bool:=jm c||du c||decide (c.toNat=45)
theorem al6 (c:UInt8):fN c [(97,122),(48,57),(45,45)]=qU c:=by
 simp only [fN,qU,jm,du,List.any_cons,List.any_nil,Bool.or_false,←Bool.or_assoc]
 congr 1
 rw [Bool.eq_iff_iff];simp;omega
theorem al7 {s:cK} {x:UInt8} (h:s[0]?=some x):pO s=(decide (s.length≤16)&&jm x&&s.all qU&&!(s==[105,102])&&!(s==[97,110,100])&&!(s==[110,111,116])):=by
 have R:fN x [(97,122)]=jm x:=by simp only [fN,jm,List.any_cons,List.any_nil,Bool.or_false]
 have aa:(fun y=>fN y [(97,122),(48,57),(45,45)])=qU:=funext al6
 cases s with
 | nil=>simp at h
 | cons y r =>
  simp only [List.getElem?_cons_zero,Option.some.injEq] at h
  subst h
  simp only [pO,oy,R,aa]
theorem aq2 (s:cK):a4 Tryz.prog bq 150 [.str s] (.bool (pO s)):=by
 refine a4.intro (D:=eB) alo rfl rfl ?_
 unfold Qi
 by_cases a0:s.length=0
 ·have aB:decide ((s.length:Int)<1)=true:=decide_eq_true (by omega)
  simp only [go_sem,aV,aW,aB,pM,Int.reduceLE,Int.reduceLT,Int.reduceToNat,Int.reduceAdd,Int.reduceSub,↓reduceIte,Nat.reduceBEq,Nat.reduceAdd,Nat.reduceSub,Nat.reduceMul,Nat.reduceLT,Nat.reduceEqDiff,reduceCtorEq,Nat.reduceLeDiff]
  rw [List.eq_nil_of_length_eq_zero a0];rfl
 obtain ⟨x,bB⟩:∃x,s[0]?=some x:=⟨s[0],List.getElem?_eq_getElem (by omega)⟩
 rw [al7 bB]
 have aB:decide ((s.length:Int)<1)=false:=decide_eq_false (by omega)
 by_cases R:s.length≤16
 ·have aI:decide ((s.length:Int)>16)=false:=decide_eq_false (by omega)
  have an:=JY x
  have b3:=JW x
  rw [decide_eq_true R,Bool.true_and]
  generalize jm x=iO at *
  cases iO
  ·simp only [go_sem,aV,aW,bB,aB,aI,an,b3,pM,Int.reduceLE,Int.reduceLT,Int.reduceToNat,Int.reduceAdd,Int.reduceSub,↓reduceIte,Nat.reduceBEq,Nat.reduceAdd,Nat.reduceSub,Nat.reduceMul,Nat.reduceLT,Nat.reduceEqDiff,reduceCtorEq,Nat.reduceLeDiff]
  rw [Bool.true_and]
  cases bN:s==[105,102]
  ·cases cb:s==[97,110,100]
   ·cases ds:s==[110,111,116]
    ·simp only [Bool.not_false,Bool.and_true]
     simp only [go_sem,aV,aW,bB,aB,aI,an,b3,bN,cb,ds,Int.reduceLE,Int.reduceLT,Int.reduceToNat,Int.reduceAdd,Int.reduceSub,↓reduceIte,Nat.reduceBEq,Nat.reduceAdd,Nat.reduceSub,Nat.reduceMul,Nat.reduceLT,Nat.reduceEqDiff,reduceCtorEq,Nat.reduceLeDiff]
     refine e8 (fun i:Nat=>⟨N [(0,.v (.str s)),(31,.v (.int .i64 s.length)),(32,.v (.int .i64 i))],[]⟩)
      (fun i=>i≤s.length∧(s.take i).all qU=true) (fun i=>s.length - i) 0 ⟨by omega,rfl⟩ (by (try simp only [go_sem,aV,aW,Int.reduceLE,Int.reduceLT,Int.reduceToNat,Int.reduceAdd,Int.reduceSub,↓reduceIte,Nat.reduceBEq,Nat.reduceAdd,Nat.reduceSub,Nat.reduceMul,Nat.reduceLT,Nat.reduceEqDiff,reduceCtorEq,Nat.reduceLeDiff])<;>(first | rfl | (simp only [b7,List.foldr_cons,List.foldr_nil,Env.ins,Int.reduceLE,Int.reduceLT,Int.reduceToNat,Int.reduceAdd,Int.reduceSub,↓reduceIte,Nat.reduceBEq,Nat.reduceAdd,Nat.reduceSub,Nat.reduceMul,Nat.reduceLT,Nat.reduceEqDiff,reduceCtorEq,Nat.reduceLeDiff];try rfl))) ?_
     rintro i ⟨av,ao⟩
     by_cases h:i<s.length
     ·have f1:decide ((i:Int)<(s.length:Int))=true:=decide_eq_true (by omega)
      have f2:s[i]?=some s[i]:=List.getElem?_eq_getElem h
      have f5:IntKind.i64.wrap ((i:Int)+1)=((i+1:Nat):Int):=by rw [wrap64]<;>omega
      have f6:(0:Int)≤i:=by omega
      have ar:=JY s[i]
      have c2:=JW s[i]
      have aO:=JZ s[i]
      have eY:=JX s[i]
      have a1:qU s[i]=(jm s[i]||du s[i]||decide (s[i].toNat=45)):=rfl
      have dz:((s[i].toNat:Int) != 45) = !(decide (s[i].toNat=45)):=by
       by_cases g:s[i].toNat=45
       ·simp [g]
       ·rw [decide_eq_false g];simp;omega
      generalize jm s[i]=eQ at *
      generalize du s[i]=kN at *
      generalize decide (s[i].toNat=45)=ov at *
      have done:qU s[i]=true→∃j,(j≤s.length∧(s.take j).all qU=true)∧s.length - j<s.length - i∧i+1=j:=fun ah=>⟨i+1,⟨by omega,by rw [nE f2,ao,ah];rfl⟩,by omega,rfl⟩
      cases eQ
      ·cases kN
       ·cases ov
        ·simp only [go_sem,aV,aW,f1,f2,f5,f6,ar,c2,aO,eY,dz,pM,Int.reduceLE,Int.reduceLT,Int.reduceToNat,Int.reduceAdd,Int.reduceSub,↓reduceIte,Nat.reduceBEq,Nat.reduceAdd,Nat.reduceSub,Nat.reduceMul,Nat.reduceLT,Nat.reduceEqDiff,reduceCtorEq,Nat.reduceLeDiff]
         rw [uO f2 a1]
        ·simp only [go_sem,aV,aW,f1,f2,f5,f6,ar,c2,aO,eY,dz,Int.reduceLE,Int.reduceLT,Int.reduceToNat,Int.reduceAdd,Int.reduceSub,↓reduceIte,Nat.reduceBEq,Nat.reduceAdd,Nat.reduceSub,Nat.reduceMul,Nat.reduceLT,Nat.reduceEqDiff,reduceCtorEq,Nat.reduceLeDiff]
         exact ⟨i+1,⟨by omega,by rw [nE f2,ao,a1];rfl⟩,by omega,by (first | rfl | (simp only [b7,List.foldr_cons,List.foldr_nil,Env.ins,Int.reduceLE,Int.reduceLT,Int.reduceToNat,Int.reduceAdd,Int.reduceSub,↓reduceIte,Nat.reduceBEq,Nat.reduceAdd,Nat.reduceSub,Nat.reduceMul,Nat.reduceLT,Nat.reduceEqDiff,reduceCtorEq,Nat.reduceLeDiff];try rfl))⟩
       ·simp only [go_sem,aV,aW,f1,f2,f5,f6,ar,c2,aO,eY,Int.reduceLE,Int.reduceLT,Int.reduceToNat,Int.reduceAdd,Int.reduceSub,↓reduceIte,Nat.reduceBEq,Nat.reduceAdd,Nat.reduceSub,Nat.reduceMul,Nat.reduceLT,Nat.reduceEqDiff,reduceCtorEq,Nat.reduceLeDiff]
        exact ⟨i+1,⟨by omega,by rw [nE f2,ao,a1];rfl⟩,by omega,by (first | rfl | (simp only [b7,List.foldr_cons,List.foldr_nil,Env.ins,Int.reduceLE,Int.reduceLT,Int.reduceToNat,Int.reduceAdd,Int.reduceSub,↓reduceIte,Nat.reduceBEq,Nat.reduceAdd,Nat.reduceSub,Nat.reduceMul,Nat.reduceLT,Nat.reduceEqDiff,reduceCtorEq,Nat.reduceLeDiff];try rfl))⟩
      ·simp only [go_sem,aV,aW,f1,f2,f5,f6,ar,c2,Int.reduceLE,Int.reduceLT,Int.reduceToNat,Int.reduceAdd,Int.reduceSub,↓reduceIte,Nat.reduceBEq,Nat.reduceAdd,Nat.reduceSub,Nat.reduceMul,Nat.reduceLT,Nat.reduceEqDiff,reduceCtorEq,Nat.reduceLeDiff]
       exact ⟨i+1,⟨by omega,by rw [nE f2,ao,a1];rfl⟩,by omega,by (first | rfl | (simp only [b7,List.foldr_cons,List.foldr_nil,Env.ins,Int.reduceLE,Int.reduceLT,Int.reduceToNat,Int.reduceAdd,Int.reduceSub,↓reduceIte,Nat.reduceBEq,Nat.reduceAdd,Nat.reduceSub,Nat.reduceMul,Nat.reduceLT,Nat.reduceEqDiff,reduceCtorEq,Nat.reduceLeDiff];try rfl))⟩
     ·have f1:decide ((i:Int)<(s.length:Int))=false:=decide_eq_false (by omega)
      rw [List.take_of_length_le (by omega)] at ao
      unfold Qh
      simp only [go_sem,aV,aW,f1,ao,pM,Int.reduceLE,Int.reduceLT,Int.reduceToNat,Int.reduceAdd,Int.reduceSub,↓reduceIte,Nat.reduceBEq,Nat.reduceAdd,Nat.reduceSub,Nat.reduceMul,Nat.reduceLT,Nat.reduceEqDiff,reduceCtorEq,Nat.reduceLeDiff]
    ·simp only [go_sem,aV,aW,bB,aB,aI,an,b3,bN,cb,ds,pM,Int.reduceLE,Int.reduceLT,Int.reduceToNat,Int.reduceAdd,Int.reduceSub,↓reduceIte,Nat.reduceBEq,Nat.reduceAdd,Nat.reduceSub,Nat.reduceMul,Nat.reduceLT,Nat.reduceEqDiff,reduceCtorEq,Nat.reduceLeDiff]
   ·simp only [go_sem,aV,aW,bB,aB,aI,an,b3,bN,cb,pM,Int.reduceLE,Int.reduceLT,Int.reduceToNat,Int.reduceAdd,Int.reduceSub,↓reduceIte,Nat.reduceBEq,Nat.reduceAdd,Nat.reduceSub,Nat.reduceMul,Nat.reduceLT,Nat.reduceEqDiff,reduceCtorEq,Nat.reduceLeDiff]
  ·simp only [go_sem,aV,aW,bB,aB,aI,an,b3,bN,pM,Int.reduceLE,Int.reduceLT,Int.reduceToNat,Int.reduceAdd,Int.reduceSub,↓reduceIte,Nat.reduceBEq,Nat.reduceAdd,Nat.reduceSub,Nat.reduceMul,Nat.reduceLT,Nat.reduceEqDiff,reduceCtorEq,Nat.reduceLeDiff]
 ·have aI:decide ((s.length:Int)>16)=true:=decide_eq_true (by omega)
  simp only [go_sem,aV,aW,bB,aB,aI,R,pM,Int.reduceLE,Int.reduceLT,Int.reduceToNat,Int.reduceAdd,Int.reduceSub,↓reduceIte,Nat.reduceBEq,Nat.reduceAdd,Nat.reduceSub,Nat.reduceMul,Nat.reduceLT,Nat.reduceEqDiff,reduceCtorEq,Nat.reduceLeDiff]
def uS (c:UInt8):Bool:=lr c||jm c||du c
theorem al8 (c:UInt8):fN c [(65,90),(97,122),(48,57)]=uS c:=by
 simp only [fN,uS,lr,jm,du,List.any_cons,List.any_nil,Bool.or_false,←Bool.or_assoc]
theorem al9 {s:cK} {x:UInt8} (h:s[0]?=some x):iP s=(decide (s.length≤16)&&lr x&&s.all uS):=by
 have R:fN x [(65,90)]=lr x:=by simp only [fN,lr,List.any_cons,List.any_nil,Bool.or_false]
 have aa:(fun y=>fN y [(65,90),(97,122),(48,57)])=uS:=funext al8
 cases s with
 | nil=>simp at h
 | cons y r =>
  simp only [List.getElem?_cons_zero,Option.some.injEq] at h
  subst h
  simp only [iP,oy,R,aa]
theorem ama (s:cK):a4 Tryz.prog bq 157 [.str s] (.bool (iP s)):=by
 refine a4.intro (D:=eB) alq rfl rfl ?_
 unfold Qm
 by_cases a0:s.length=0
 ·have aB:decide ((s.length:Int)<1)=true:=decide_eq_true (by omega)
  simp only [go_sem,aV,aW,aB,uK,Int.reduceLE,Int.reduceLT,Int.reduceToNat,Int.reduceAdd,Int.reduceSub,↓reduceIte,Nat.reduceBEq,Nat.reduceAdd,Nat.reduceSub,Nat.reduceMul,Nat.reduceLT,Nat.reduceEqDiff,reduceCtorEq,Nat.reduceLeDiff]
  rw [List.eq_nil_of_length_eq_zero a0];rfl
 obtain ⟨x,bB⟩:∃x,s[0]?=some x:=⟨s[0],List.getElem?_eq_getElem (by omega)⟩
 rw [al9 bB]
 have aB:decide ((s.length:Int)<1)=false:=decide_eq_false (by omega)
 by_cases R:s.length≤16
 ·have aI:decide ((s.length:Int)>16)=false:=decide_eq_false (by omega)
  have an:=SR x
  have b3:=SQ x
  rw [decide_eq_true R,Bool.true_and]
  generalize lr x=iO at *
  cases iO
  ·simp only [go_sem,aV,aW,bB,aB,aI,an,b3,uK,Int.reduceLE,Int.reduceLT,Int.reduceToNat,Int.reduceAdd,Int.reduceSub,↓reduceIte,Nat.reduceBEq,Nat.reduceAdd,Nat.reduceSub,Nat.reduceMul,Nat.reduceLT,Nat.reduceEqDiff,reduceCtorEq,Nat.reduceLeDiff]
  rw [Bool.true_and]
  simp only [go_sem,aV,aW,bB,aB,aI,an,b3,Int.reduceLE,Int.reduceLT,Int.reduceToNat,Int.reduceAdd,Int.reduceSub,↓reduceIte,Nat.reduceBEq,Nat.reduceAdd,Nat.reduceSub,Nat.reduceMul,Nat.reduceLT,Nat.reduceEqDiff,reduceCtorEq,Nat.reduceLeDiff]
  refine e8 (fun i:Nat=>⟨N [(0,.v (.str s)),(19,.v (.int .i64 s.length)),(20,.v (.int .i64 i))],[]⟩)
   (fun i=>i≤s.length∧(s.take i).all uS=true) (fun i=>s.length - i) 0 ⟨by omega,rfl⟩ (by (try simp only [go_sem,aV,aW,Int.reduceLE,Int.reduceLT,Int.reduceToNat,Int.reduceAdd,Int.reduceSub,↓reduceIte,Nat.reduceBEq,Nat.reduceAdd,Nat.reduceSub,Nat.reduceMul,Nat.reduceLT,Nat.reduceEqDiff,reduceCtorEq,Nat.reduceLeDiff])<;>(first | rfl | (simp only [b7,List.foldr_cons,List.foldr_nil,Env.ins,Int.reduceLE,Int.reduceLT,Int.reduceToNat,Int.reduceAdd,Int.reduceSub,↓reduceIte,Nat.reduceBEq,Nat.reduceAdd,Nat.reduceSub,Nat.reduceMul,Nat.reduceLT,Nat.reduceEqDiff,reduceCtorEq,Nat.reduceLeDiff];try rfl))) ?_
  rintro i ⟨av,ao⟩
  by_cases h:i<s.length
  ·have f1:decide ((i:Int)<(s.length:Int))=true:=decide_eq_true (by omega)
   have f2:s[i]?=some s[i]:=List.getElem?_eq_getElem h
   have f5:IntKind.i64.wrap ((i:Int)+1)=((i+1:Nat):Int):=by rw [wrap64]<;>omega
   have f6:(0:Int)≤i:=by omega
   have ar:=JY s[i]
   have c2:=JW s[i]
   have aO:=JZ s[i]
   have eY:=JX s[i]
   have bD:=SR s[i]
   have qG:=SQ s[i]
   have a1:uS s[i]=(lr s[i]||jm s[i]||du s[i]):=rfl
   generalize jm s[i]=eQ at *
   generalize du s[i]=kN at *
   generalize lr s[i]=ov at *
   cases ah:(ov||eQ||kN) with
   | false =>
    simp only [Bool.or_eq_false_iff] at ah
    obtain ⟨⟨rfl,rfl⟩,rfl⟩:=ah
    simp only [go_sem,aV,aW,f1,f2,f5,f6,ar,c2,aO,eY,bD,qG,uK,Int.reduceLE,Int.reduceLT,Int.reduceToNat,Int.reduceAdd,Int.reduceSub,↓reduceIte,Nat.reduceBEq,Nat.reduceAdd,Nat.reduceSub,Nat.reduceMul,Nat.reduceLT,Nat.reduceEqDiff,reduceCtorEq,Nat.reduceLeDiff]
    rw [uO f2 a1]
   | true =>
    rw [ah] at a1
    cases eQ
    ·cases ov
     ·cases kN
      ·cases ah
      ·simp only [go_sem,aV,aW,f1,f2,f5,f6,ar,c2,aO,eY,bD,qG,Int.reduceLE,Int.reduceLT,Int.reduceToNat,Int.reduceAdd,Int.reduceSub,↓reduceIte,Nat.reduceBEq,Nat.reduceAdd,Nat.reduceSub,Nat.reduceMul,Nat.reduceLT,Nat.reduceEqDiff,reduceCtorEq,Nat.reduceLeDiff]
       exact ⟨i+1,⟨by omega,by rw [nE f2,ao,a1];rfl⟩,by omega,by (first | rfl | (simp only [b7,List.foldr_cons,List.foldr_nil,Env.ins,Int.reduceLE,Int.reduceLT,Int.reduceToNat,Int.reduceAdd,Int.reduceSub,↓reduceIte,Nat.reduceBEq,Nat.reduceAdd,Nat.reduceSub,Nat.reduceMul,Nat.reduceLT,Nat.reduceEqDiff,reduceCtorEq,Nat.reduceLeDiff];try rfl))⟩
     ·simp only [go_sem,aV,aW,f1,f2,f5,f6,ar,c2,aO,eY,bD,qG,Int.reduceLE,Int.reduceLT,Int.reduceToNat,Int.reduceAdd,Int.reduceSub,↓reduceIte,Nat.reduceBEq,Nat.reduceAdd,Nat.reduceSub,Nat.reduceMul,Nat.reduceLT,Nat.reduceEqDiff,reduceCtorEq,Nat.reduceLeDiff]
      exact ⟨i+1,⟨by omega,by rw [nE f2,ao,a1];rfl⟩,by omega,by (first | rfl | (simp only [b7,List.foldr_cons,List.foldr_nil,Env.ins,Int.reduceLE,Int.reduceLT,Int.reduceToNat,Int.reduceAdd,Int.reduceSub,↓reduceIte,Nat.reduceBEq,Nat.reduceAdd,Nat.reduceSub,Nat.reduceMul,Nat.reduceLT,Nat.reduceEqDiff,reduceCtorEq,Nat.reduceLeDiff];try rfl))⟩
    ·cases ov
     ·simp only [go_sem,aV,aW,f1,f2,f5,f6,ar,c2,aO,eY,bD,qG,Int.reduceLE,Int.reduceLT,Int.reduceToNat,Int.reduceAdd,Int.reduceSub,↓reduceIte,Nat.reduceBEq,Nat.reduceAdd,Nat.reduceSub,Nat.reduceMul,Nat.reduceLT,Nat.reduceEqDiff,reduceCtorEq,Nat.reduceLeDiff]
      exact ⟨i+1,⟨by omega,by rw [nE f2,ao,a1];rfl⟩,by omega,by (first | rfl | (simp only [b7,List.foldr_cons,List.foldr_nil,Env.ins,Int.reduceLE,Int.reduceLT,Int.reduceToNat,Int.reduceAdd,Int.reduceSub,↓reduceIte,Nat.reduceBEq,Nat.reduceAdd,Nat.reduceSub,Nat.reduceMul,Nat.reduceLT,Nat.reduceEqDiff,reduceCtorEq,Nat.reduceLeDiff];try rfl))⟩
     ·simp only [go_sem,aV,aW,f1,f2,f5,f6,ar,c2,aO,eY,bD,qG,Int.reduceLE,Int.reduceLT,Int.reduceToNat,Int.reduceAdd,Int.reduceSub,↓reduceIte,Nat.reduceBEq,Nat.reduceAdd,Nat.reduceSub,Nat.reduceMul,Nat.reduceLT,Nat.reduceEqDiff,reduceCtorEq,Nat.reduceLeDiff]
      exact ⟨i+1,⟨by omega,by rw [nE f2,ao,a1];rfl⟩,by omega,by (first | rfl | (simp only [b7,List.foldr_cons,List.foldr_nil,Env.ins,Int.reduceLE,Int.reduceLT,Int.reduceToNat,Int.reduceAdd,Int.reduceSub,↓reduceIte,Nat.reduceBEq,Nat.reduceAdd,Nat.reduceSub,Nat.reduceMul,Nat.reduceLT,Nat.reduceEqDiff,reduceCtorEq,Nat.reduceLeDiff];try rfl))⟩
  ·have f1:decide ((i:Int)<(s.length:Int))=false:=decide_eq_false (by omega)
   rw [List.take_of_length_le (by omega)] at ao
   unfold Ql
   simp only [go_sem,aV,aW,f1,ao,uK,Int.reduceLE,Int.reduceLT,Int.reduceToNat,Int.reduceAdd,Int.reduceSub,↓reduceIte,Nat.reduceBEq,Nat.reduceAdd,Nat.reduceSub,Nat.reduceMul,Nat.reduceLT,Nat.reduceEqDiff,reduceCtorEq,Nat.reduceLeDiff]
 ·have aI:decide ((s.length:Int)>16)=true:=decide_eq_true (by omega)
  simp only [go_sem,aV,aW,bB,aB,aI,R,uK,Int.reduceLE,Int.reduceLT,Int.reduceToNat,Int.reduceAdd,Int.reduceSub,↓reduceIte,Nat.reduceBEq,Nat.reduceAdd,Nat.reduceSub,Nat.reduceMul,Nat.reduceLT,Nat.reduceEqDiff,reduceCtorEq,Nat.reduceLeDiff]
theorem SS (s:cK):a4 Tryz.prog bq 158 [.str s] (g8 s):=by
 refine a4.intro (D:=eB) alr rfl rfl ?_
 unfold Qo
 by_cases a0:s.length=0
 ·have aB:decide ((s.length:Int)<1)=true:=decide_eq_true (by omega)
  simp only [go_sem,aV,aW,aB,qQ,Int.reduceLE,Int.reduceLT,Int.reduceToNat,Int.reduceAdd,Int.reduceSub,↓reduceIte,Nat.reduceBEq,Nat.reduceAdd,Nat.reduceSub,Nat.reduceMul,Nat.reduceLT,Nat.reduceEqDiff,reduceCtorEq,Nat.reduceLeDiff]
  rw [List.eq_nil_of_length_eq_zero a0];rfl
 obtain ⟨x,r,ai⟩:∃x r,s=x::r:=by cases s with | nil=>simp at a0 | cons x r=>exact ⟨x,r,rfl⟩
 have bB:s[0]?=some x:=by rw [ai];rfl
 have aB:decide ((s.length:Int)<1)=false:=decide_eq_false (by omega)
 have a1:gV s=if s.length≤4∧¬(x=48∧s.length>1)∧s.all du=true then some (fE s 0) else none:=by
  rw [ai]
  have:(r≠[])↔(x::r).length>1:=by cases r<;>simp
  simp only [gV,this]
 clear ai
 by_cases R:s.length≤4
 ·have aI:decide ((s.length:Int)>4)=false:=decide_eq_false (by omega)
  by_cases aa:x=48∧s.length>1
  ·have dS:((x.toNat:Int)==48)=true:=by rw [aa.1];rfl
   have h1:decide ((s.length:Int)>1)=true:=decide_eq_true (by omega)
   simp only [go_sem,aV,aW,bB,aB,aI,dS,h1,qQ,Int.reduceLE,Int.reduceLT,Int.reduceToNat,Int.reduceAdd,Int.reduceSub,↓reduceIte,Nat.reduceBEq,Nat.reduceAdd,Nat.reduceSub,Nat.reduceMul,Nat.reduceLT,Nat.reduceEqDiff,reduceCtorEq,Nat.reduceLeDiff]
   rw [g8,a1,if_neg (by simp [aa])];rfl
  ·have JR:s.all du=true→g8 s=.bw [.int .i64 (fE s 0:Nat),.bool true]:=fun h=>JP (by rw [a1,if_pos ⟨R,aa,h⟩])
   have xm:s.all du=false→g8 s=.bw [.int .i64 0,.bool false]:=fun h=>JO (by rw [a1,if_neg (by rw [h];simp)])
   have loop:∀(iL:ae) Q,(({ iL with env:=iL.env.close [2,3,5,23,27,33] }:ae)=⟨N [(0,.v (.str s)),(4,.v (.int .i64 0)),(25,.v (.int .i64 s.length)),(26,.v (.int .i64 0))],[]⟩) →
     (∀i:Int,s.all du=true→Q (.exit 0) ⟨N [(27,.v (.bool false)),(0,.v (.str s)),(4,.v (.int .i64 (fE s 0:Nat))),(25,.v (.int .i64 s.length)),(26,.v (.int .i64 i))],[]⟩)→(∀s',s.all du=false→Env.get s'.env 2=some (.v (.int .i64 0))→Env.get s'.env 3=some (.v (.bool false))→Q .ret s') →
     hI Tryz.prog bq eB (.loop Qn) iL Q ⟨⟩:=by
    intro iL Q jh JS tP
    refine e8 (fun i:Nat=>⟨N [(0,.v (.str s)),(4,.v (.int .i64 (fE (s.take i) 0:Nat))),(25,.v (.int .i64 s.length)),(26,.v (.int .i64 i))],[]⟩)
     (fun i=>i≤s.length∧(s.take i).all du=true) (fun i=>s.length - i) 0 ⟨by omega,rfl⟩ (jh.trans rfl) ?_
    rintro i ⟨av,ao⟩
    by_cases h:i<s.length
    ·have f1:decide ((i:Int)<(s.length:Int))=true:=decide_eq_true (by omega)
     have f2:s[i]?=some s[i]:=List.getElem?_eq_getElem h
     have f5:IntKind.i64.wrap ((i:Int)+1)=((i+1:Nat):Int):=by rw [wrap64]<;>omega
     have f6:(0:Int)≤i:=by omega
     have ax:=JN ao (by rw [List.length_take];omega)
     have bz:s[i].toNat<256:=UInt8.toNat_lt _
     have aO:=JZ s[i]
     have eY:=JX s[i]
     cases aw:du s[i] with
     | true =>
      rw [aw] at aO eY
      have bX:48≤s[i].toNat∧s[i].toNat≤57:=by simpa [du] using aw
      have ds:IntKind.u8.wrap ((s[i].toNat:Int) - 48)=((s[i].toNat - 48:Nat):Int):=by simp only [IntKind.wrap,IntKind.signed,IntKind.bits];simp;omega
      have dz:IntKind.i64.wrap ((s[i].toNat - 48:Nat):Int)=((s[i].toNat - 48:Nat):Int):=by rw [wrap64]<;>omega
      have ez:IntKind.i64.wrap (10*((fE (s.take i) 0:Nat):Int))=((10*fE (s.take i) 0:Nat):Int):=by rw [wrap64]<;>omega
      have jF:IntKind.i64.wrap (((10*fE (s.take i) 0:Nat):Int)+((s[i].toNat - 48:Nat):Int))=((fE (s.take (i+1)) 0:Nat):Int):=by
       rw [uN f2,JM,wrap64]<;>omega
      simp only [go_sem,aV,aW,f1,f2,f5,f6,aO,eY,ds,dz,ez,jF,Int.reduceLE,Int.reduceLT,Int.reduceToNat,Int.reduceAdd,Int.reduceSub,↓reduceIte,Nat.reduceBEq,Nat.reduceAdd,Nat.reduceSub,Nat.reduceMul,Nat.reduceLT,Nat.reduceEqDiff,reduceCtorEq,Nat.reduceLeDiff]
      exact ⟨i+1,⟨by omega,by rw [nE f2,ao,aw];rfl⟩,by omega,by (first | rfl | (simp only [b7,List.foldr_cons,List.foldr_nil,Env.ins,Int.reduceLE,Int.reduceLT,Int.reduceToNat,Int.reduceAdd,Int.reduceSub,↓reduceIte,Nat.reduceBEq,Nat.reduceAdd,Nat.reduceSub,Nat.reduceMul,Nat.reduceLT,Nat.reduceEqDiff,reduceCtorEq,Nat.reduceLeDiff];try rfl))⟩
     | false =>
      rw [aw] at aO eY
      simp only [go_sem,aV,aW,f1,f2,f5,f6,aO,eY,Int.reduceLE,Int.reduceLT,Int.reduceToNat,Int.reduceAdd,Int.reduceSub,↓reduceIte,Nat.reduceBEq,Nat.reduceAdd,Nat.reduceSub,Nat.reduceMul,Nat.reduceLT,Nat.reduceEqDiff,reduceCtorEq,Nat.reduceLeDiff]
      exact tP _ (uO f2 aw) (by simp only [go_sem,aV,aW,Int.reduceLE,Int.reduceLT,Int.reduceToNat,Int.reduceAdd,Int.reduceSub,↓reduceIte,Nat.reduceBEq,Nat.reduceAdd,Nat.reduceSub,Nat.reduceMul,Nat.reduceLT,Nat.reduceEqDiff,reduceCtorEq,Nat.reduceLeDiff]) (by simp only [go_sem,aV,aW,Int.reduceLE,Int.reduceLT,Int.reduceToNat,Int.reduceAdd,Int.reduceSub,↓reduceIte,Nat.reduceBEq,Nat.reduceAdd,Nat.reduceSub,Nat.reduceMul,Nat.reduceLT,Nat.reduceEqDiff,reduceCtorEq,Nat.reduceLeDiff])
    ·have f1:decide ((i:Int)<(s.length:Int))=false:=decide_eq_false (by omega)
     rw [List.take_of_length_le (by omega)] at ao
     simp only [go_sem,aV,aW,f1,Int.reduceLE,Int.reduceLT,Int.reduceToNat,Int.reduceAdd,Int.reduceSub,↓reduceIte,Nat.reduceBEq,Nat.reduceAdd,Nat.reduceSub,Nat.reduceMul,Nat.reduceLT,Nat.reduceEqDiff,reduceCtorEq,Nat.reduceLeDiff]
     rw [List.take_of_length_le (by omega)]
     exact JS _ ao
   have fin:∀i:Int,s.all du=true→hI Tryz.prog bq eB Iy ⟨N [(27,.v (.bool false)),(0,.v (.str s)),(4,.v (.int .i64 (fE s 0:Nat))),(25,.v (.int .i64 s.length)),(26,.v (.int .i64 i))],[]⟩ (qB fun s'=>mw s'.env qQ=some (g8 s)) ⟨⟩:=fun i h=>by
    unfold Iy
    simp only [go_sem,aV,aW,qQ,JR h,Int.reduceLE,Int.reduceLT,Int.reduceToNat,Int.reduceAdd,Int.reduceSub,↓reduceIte,Nat.reduceBEq,Nat.reduceAdd,Nat.reduceSub,Nat.reduceMul,Nat.reduceLT,Nat.reduceEqDiff,reduceCtorEq,Nat.reduceLeDiff]
   by_cases al:s.length>1
   ·have h1:decide ((s.length:Int)>1)=true:=decide_eq_true (by omega)
    have dS:((x.toNat:Int)==48)=false:=by
     rw [beq_eq_false_iff_ne]
     intro aY
     exact aa ⟨UInt8.toNat_inj.1 (by show x.toNat=48;omega),al⟩
    simp only [go_sem,aV,aW,bB,aB,aI,dS,h1,Int.reduceLE,Int.reduceLT,Int.reduceToNat,Int.reduceAdd,Int.reduceSub,↓reduceIte,Nat.reduceBEq,Nat.reduceAdd,Nat.reduceSub,Nat.reduceMul,Nat.reduceLT,Nat.reduceEqDiff,reduceCtorEq,Nat.reduceLeDiff]
    refine loop _ _ (by (try simp only [go_sem,aV,aW,Int.reduceLE,Int.reduceLT,Int.reduceToNat,Int.reduceAdd,Int.reduceSub,↓reduceIte,Nat.reduceBEq,Nat.reduceAdd,Nat.reduceSub,Nat.reduceMul,Nat.reduceLT,Nat.reduceEqDiff,reduceCtorEq,Nat.reduceLeDiff])<;>(first | rfl | (simp only [b7,List.foldr_cons,List.foldr_nil,Env.ins,Int.reduceLE,Int.reduceLT,Int.reduceToNat,Int.reduceAdd,Int.reduceSub,↓reduceIte,Nat.reduceBEq,Nat.reduceAdd,Nat.reduceSub,Nat.reduceMul,Nat.reduceLT,Nat.reduceEqDiff,reduceCtorEq,Nat.reduceLeDiff];try rfl))) (fun i h=>fin i h) (fun s' h bX bQ=>?_)
    simp only [go_sem,aV,aW,bX,bQ,qQ,xm h,Int.reduceLE,Int.reduceLT,Int.reduceToNat,Int.reduceAdd,Int.reduceSub,↓reduceIte,Nat.reduceBEq,Nat.reduceAdd,Nat.reduceSub,Nat.reduceMul,Nat.reduceLT,Nat.reduceEqDiff,reduceCtorEq,Nat.reduceLeDiff]
   ·have h1:decide ((s.length:Int)>1)=false:=decide_eq_false (by omega)
    simp only [go_sem,aV,aW,bB,aB,aI,h1,Int.reduceLE,Int.reduceLT,Int.reduceToNat,Int.reduceAdd,Int.reduceSub,↓reduceIte,Nat.reduceBEq,Nat.reduceAdd,Nat.reduceSub,Nat.reduceMul,Nat.reduceLT,Nat.reduceEqDiff,reduceCtorEq,Nat.reduceLeDiff]
    refine loop _ _ (by (try simp only [go_sem,aV,aW,Int.reduceLE,Int.reduceLT,Int.reduceToNat,Int.reduceAdd,Int.reduceSub,↓reduceIte,Nat.reduceBEq,Nat.reduceAdd,Nat.reduceSub,Nat.reduceMul,Nat.reduceLT,Nat.reduceEqDiff,reduceCtorEq,Nat.reduceLeDiff])<;>(first | rfl | (simp only [b7,List.foldr_cons,List.foldr_nil,Env.ins,Int.reduceLE,Int.reduceLT,Int.reduceToNat,Int.reduceAdd,Int.reduceSub,↓reduceIte,Nat.reduceBEq,Nat.reduceAdd,Nat.reduceSub,Nat.reduceMul,Nat.reduceLT,Nat.reduceEqDiff,reduceCtorEq,Nat.reduceLeDiff];try rfl))) (fun i h=>fin i h) (fun s' h bX bQ=>?_)
    simp only [go_sem,aV,aW,bX,bQ,qQ,xm h,Int.reduceLE,Int.reduceLT,Int.reduceToNat,Int.reduceAdd,Int.reduceSub,↓reduceIte,Nat.reduceBEq,Nat.reduceAdd,Nat.reduceSub,Nat.reduceMul,Nat.reduceLT,Nat.reduceEqDiff,reduceCtorEq,Nat.reduceLeDiff]
 ·have aI:decide ((s.length:Int)>4)=true:=decide_eq_true (by omega)
  simp only [go_sem,aV,aW,bB,aB,aI,qQ,Int.reduceLE,Int.reduceLT,Int.reduceToNat,Int.reduceAdd,Int.reduceSub,↓reduceIte,Nat.reduceBEq,Nat.reduceAdd,Nat.reduceSub,Nat.reduceMul,Nat.reduceLT,Nat.reduceEqDiff,reduceCtorEq,Nat.reduceLeDiff]
  rw [g8,a1,if_neg (by omega)];rfl
end AM
