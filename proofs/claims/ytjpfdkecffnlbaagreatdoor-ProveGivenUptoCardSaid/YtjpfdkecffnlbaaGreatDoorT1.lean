/- term.in, spelled, Name, Variable, Number, number, within, Valid, Ground. Conditions: none. -/
import Derived.Test.YtjpfdkecffnlbaaGreatDoorOk
import Derived.Test.YtjpfdkecffnlbaaGreatDoorAm13
set_option maxRecDepth 100000
set_option maxHeartbeats 4000000
set_option linter.unusedSimpArgs false
set_option linter.unusedVariables false
namespace AM
open Go Go.Proofs
def JQ (p:Nat×Nat):AV:=.agg [.int .u8 p.1,.int .u8 p.2]
def jl (f:Nat) (xs:List AV):Option AV :=
 if f=163 then (match xs with | [.int .u8 c,.list none 2 [.agg [.int .u8 a,.int .u8 b]]]=>some (.bool (fN (UInt8.ofNat c.toNat) [(a.toNat,b.toNat)])) | [.int .u8 c,.list none 2 [.agg [.int .u8 a,.int .u8 b],.agg [.int .u8 bO,.int .u8 bE],.agg [.int .u8 hG,.int .u8 ib]]]=>some (.bool (fN (UInt8.ofNat c.toNat) [(a.toNat,b.toNat),(bO.toNat,bE.toNat),(hG.toNat,ib.toNat)])) | _=>none)
 else if f=125 then (match xs with | [.str s,.agg [.int .u8 a,.int .u8 b,.int .u8 bO,.int .u8 bE,.int .u8 hG,.int .u8 ib]]=>some (.bool (oy s (a.toNat,b.toNat) (bO.toNat,bE.toNat) (hG.toNat,ib.toNat))) | _=>none)
 else if f=81 then (match xs with | [.str s]=>some (.bool (pO s)) | _=>none)
 else if f=126 then (match xs with | [.str s]=>some (.bool (iP s)) | _=>none)
 else if f=161 then (match xs with | [.str s]=>some (g8 s) | _=>none)
 else if f=132 then (match xs with | [.str s]=>some (.bool (gV s).isSome) | _=>none)
 else if f=86 then (match xs with | [x,.int .i64 n,.bool v]=>(fV x).map fun t=>.bool (uP n.toNat t v) | _=>none)
 else if f=80 then (match xs with | [x]=>(fV x).map fun t=>.bool (uP 4 t true) | _=>none)
 else if f=51 then (match xs with | [x]=>(fV x).map fun t=>.bool (uP 4 t false) | _=>none)
 else none
theorem SG (c:UInt8) (l:List (Nat×Nat)) (aN:l.length<100):a4 Tryz.prog bq 163 [.int .u8 c.toNat,.list none 2 (l.map JQ)] (.bool (fN c l)):=by
 refine a4.intro (D:=jl) JL rfl rfl ?_
 unfold Am
 simp only [go_sem,aV,aW,List.length_map,Int.reduceLE,Int.reduceLT,Int.reduceToNat,Int.reduceAdd,Int.reduceSub,↓reduceIte,Nat.reduceBEq,Nat.reduceAdd,Nat.reduceSub,Nat.reduceMul,Nat.reduceLT,Nat.reduceEqDiff,reduceCtorEq,Nat.reduceLeDiff]
 refine e8 (fun i:Nat=>⟨N [(0,.v (.int .u8 c.toNat)),(7,.v (.list none 2 (l.map JQ))),(8,.v (.int .i64 l.length)),(9,.v (.int .i64 i))],[]⟩)
  (fun i=>i≤l.length∧fN c (l.take i)=false) (fun i=>l.length - i) 0 ⟨by omega,by (first | rfl | (simp only [b7,List.foldr_cons,List.foldr_nil,Env.ins,Int.reduceLE,Int.reduceLT,Int.reduceToNat,Int.reduceAdd,Int.reduceSub,↓reduceIte,Nat.reduceBEq,Nat.reduceAdd,Nat.reduceSub,Nat.reduceMul,Nat.reduceLT,Nat.reduceEqDiff,reduceCtorEq,Nat.reduceLeDiff];try rfl))⟩ (by (try simp only [go_sem,aV,aW,Int.reduceLE,Int.reduceLT,Int.reduceToNat,Int.reduceAdd,Int.reduceSub,↓reduceIte,Nat.reduceBEq,Nat.reduceAdd,Nat.reduceSub,Nat.reduceMul,Nat.reduceLT,Nat.reduceEqDiff,reduceCtorEq,Nat.reduceLeDiff])<;>(first | rfl | (simp only [b7,List.foldr_cons,List.foldr_nil,Env.ins,Int.reduceLE,Int.reduceLT,Int.reduceToNat,Int.reduceAdd,Int.reduceSub,↓reduceIte,Nat.reduceBEq,Nat.reduceAdd,Nat.reduceSub,Nat.reduceMul,Nat.reduceLT,Nat.reduceEqDiff,reduceCtorEq,Nat.reduceLeDiff];try rfl))) ?_
 rintro i ⟨av,ao⟩
 by_cases h:i<l.length
 ·have aB:decide ((i:Int)<(l.length:Int))=true:=decide_eq_true (by omega)
  have aI:(l.map JQ)[i]?=some (.agg [.int .u8 l[i].1,.int .u8 l[i].2]):=by rw [List.getElem?_map,List.getElem?_eq_getElem h];rfl
  have wS:IntKind.i64.wrap ((i:Int)+1)=((i+1:Nat):Int):=by rw [wrap64]<;>omega
  have uQ:(0:Int)≤i:=by omega
  have w4:(i:Int)<l.length:=by omega
  have aF:fN c (l.take (i+1))=(fN c (l.take i)||(decide (l[i].1≤c.toNat)&&decide (c.toNat≤l[i].2))):=by
   simp only [fN,List.take_add_one,List.getElem?_eq_getElem h,Option.toList_some,List.any_append,List.any_cons,List.any_nil,Bool.or_false]
  have kA:∀b,fN c (l.take (i+1))=b→b=true→fN c l=true:=fun b ah eb=>by
   subst eb
   have:=ah
   simp only [fN,List.any_eq_true] at this ⊢
   obtain ⟨x,ai,alF⟩:=this
   exact ⟨x,List.mem_of_mem_take ai,alF⟩
  by_cases R:l[i].1≤c.toNat
  ·have f1:decide ((c.toNat:Int)≥(l[i].1:Int))=true:=decide_eq_true (by omega)
   by_cases aa:c.toNat≤l[i].2
   ·have f2:decide ((c.toNat:Int)≤(l[i].2:Int))=true:=decide_eq_true (by omega)
    simp only [go_sem,aV,aW,aB,aI,wS,uQ,w4,f1,f2,List.length_map,xk,Int.reduceLE,Int.reduceLT,Int.reduceToNat,Int.reduceAdd,Int.reduceSub,↓reduceIte,Nat.reduceBEq,Nat.reduceAdd,Nat.reduceSub,Nat.reduceMul,Nat.reduceLT,Nat.reduceEqDiff,reduceCtorEq,Nat.reduceLeDiff]
    rw [kA _ aF (by simp [R,aa])]
   ·have f2:decide ((c.toNat:Int)≤(l[i].2:Int))=false:=decide_eq_false (by omega)
    simp only [go_sem,aV,aW,aB,aI,wS,uQ,w4,f1,f2,List.length_map,Int.reduceLE,Int.reduceLT,Int.reduceToNat,Int.reduceAdd,Int.reduceSub,↓reduceIte,Nat.reduceBEq,Nat.reduceAdd,Nat.reduceSub,Nat.reduceMul,Nat.reduceLT,Nat.reduceEqDiff,reduceCtorEq,Nat.reduceLeDiff]
    exact ⟨i+1,⟨by omega,by rw [aF,ao];simp [aa]⟩,by omega,by (first | rfl | (simp only [b7,List.foldr_cons,List.foldr_nil,Env.ins,Int.reduceLE,Int.reduceLT,Int.reduceToNat,Int.reduceAdd,Int.reduceSub,↓reduceIte,Nat.reduceBEq,Nat.reduceAdd,Nat.reduceSub,Nat.reduceMul,Nat.reduceLT,Nat.reduceEqDiff,reduceCtorEq,Nat.reduceLeDiff];try rfl))⟩
  ·have f1:decide ((c.toNat:Int)≥(l[i].1:Int))=false:=decide_eq_false (by omega)
   simp only [go_sem,aV,aW,aB,aI,wS,uQ,w4,f1,List.length_map,Int.reduceLE,Int.reduceLT,Int.reduceToNat,Int.reduceAdd,Int.reduceSub,↓reduceIte,Nat.reduceBEq,Nat.reduceAdd,Nat.reduceSub,Nat.reduceMul,Nat.reduceLT,Nat.reduceEqDiff,reduceCtorEq,Nat.reduceLeDiff]
   exact ⟨i+1,⟨by omega,by rw [aF,ao];simp [R]⟩,by omega,by (first | rfl | (simp only [b7,List.foldr_cons,List.foldr_nil,Env.ins,Int.reduceLE,Int.reduceLT,Int.reduceToNat,Int.reduceAdd,Int.reduceSub,↓reduceIte,Nat.reduceBEq,Nat.reduceAdd,Nat.reduceSub,Nat.reduceMul,Nat.reduceLT,Nat.reduceEqDiff,reduceCtorEq,Nat.reduceLeDiff];try rfl))⟩
 ·have aB:decide ((i:Int)<(l.length:Int))=false:=decide_eq_false (by omega)
  unfold Qs
  simp only [go_sem,aV,aW,aB,xk,Int.reduceLE,Int.reduceLT,Int.reduceToNat,Int.reduceAdd,Int.reduceSub,↓reduceIte,Nat.reduceBEq,Nat.reduceAdd,Nat.reduceSub,Nat.reduceMul,Nat.reduceLT,Nat.reduceEqDiff,reduceCtorEq,Nat.reduceLeDiff]
  rw [List.take_of_length_le (by omega)] at ao
  rw [ao]
theorem alG (c:UInt8) (a b:Nat):jl 163 [.int .u8 c.toNat,.list none 2 [.agg [.int .u8 a,.int .u8 b]]]=some (.bool (fN c [(a,b)])):=by
 simp [jl]
theorem alH (c:UInt8) (a b bO bE hG ib:Nat):jl 163 [.int .u8 c.toNat,.list none 2 [.agg [.int .u8 a,.int .u8 b],.agg [.int .u8 bO,.int .u8 bE],.agg [.int .u8 hG,.int .u8 ib]]]=some (.bool (fN c [(a,b),(bO,bE),(hG,ib)])):=by
 simp [jl]
theorem alI (s:cK) (a b bO bE hG ib:Nat):a4 Tryz.prog bq 125 [.str s,.agg [.int .u8 a,.int .u8 b,.int .u8 bO,.int .u8 bE,.int .u8 hG,.int .u8 ib]] (.bool (oy s (a,b) (bO,bE) (hG,ib))):=by
 refine a4.intro (D:=jl) aln rfl rfl ?_
 unfold Qg
 by_cases a0:s.length=0
 ·have aB:decide ((s.length:Int)<1)=true:=decide_eq_true (by omega)
  simp only [go_sem,aV,aW,aB,uJ,Int.reduceLE,Int.reduceLT,Int.reduceToNat,Int.reduceAdd,Int.reduceSub,↓reduceIte,Nat.reduceBEq,Nat.reduceAdd,Nat.reduceSub,Nat.reduceMul,Nat.reduceLT,Nat.reduceEqDiff,reduceCtorEq,Nat.reduceLeDiff]
  rw [List.eq_nil_of_length_eq_zero a0];simp only [oy]
 obtain ⟨x,r,ai⟩:∃x r,s=x::r:=by cases s with | nil=>simp at a0 | cons x r=>exact ⟨x,r,rfl⟩
 have bB:s[0]?=some x:=by rw [ai];rfl
 have jh:oy s (a,b) (bO,bE) (hG,ib)=(decide (s.length≤16)&&fN x [(a,b)]&&s.all fun y=>fN y [(a,b),(bO,bE),(hG,ib)]):=by rw [ai];simp only [oy]
 clear ai
 have aB:decide ((s.length:Int)<1)=false:=decide_eq_false (by omega)
 by_cases R:s.length≤16
 ·have aI:decide ((s.length:Int)>16)=false:=decide_eq_false (by omega)
  have an:=alG x a b
  have b3:a4 Tryz.prog bq 163 [.int .u8 x.toNat,.list none 2 [.agg [.int .u8 a,.int .u8 b]]] (.bool (fN x [(a,b)])):=SG x [(a,b)] (by simp)
  rw [decide_eq_true R,Bool.true_and] at jh
  cases aa:fN x [(a,b)] with
  | false =>
   rw [aa] at an b3
   rw [aa,Bool.false_and] at jh
   simp only [go_sem,aV,aW,bB,aB,aI,an,b3,uJ,Int.reduceLE,Int.reduceLT,Int.reduceToNat,Int.reduceAdd,Int.reduceSub,↓reduceIte,Nat.reduceBEq,Nat.reduceAdd,Nat.reduceSub,Nat.reduceMul,Nat.reduceLT,Nat.reduceEqDiff,reduceCtorEq,Nat.reduceLeDiff]
   rw [jh]
  | true =>
   rw [aa] at an b3
   rw [aa,Bool.true_and] at jh
   simp only [go_sem,aV,aW,bB,aB,aI,an,b3,Int.reduceLE,Int.reduceLT,Int.reduceToNat,Int.reduceAdd,Int.reduceSub,↓reduceIte,Nat.reduceBEq,Nat.reduceAdd,Nat.reduceSub,Nat.reduceMul,Nat.reduceLT,Nat.reduceEqDiff,reduceCtorEq,Nat.reduceLeDiff]
   refine e8 (fun i:Nat=>⟨N [(0,.v (.str s)),(3,.v (.cU [.int .u8 a,.int .u8 b,.int .u8 bO,.int .u8 bE,.int .u8 hG,.int .u8 ib])),(5,.v (.int .i64 i))],[]⟩)
    (fun i=>i≤s.length∧(s.take i).all (fun y=>fN y [(a,b),(bO,bE),(hG,ib)])=true) (fun i=>s.length - i) 0 ⟨by omega,by (first | rfl | (simp only [b7,List.foldr_cons,List.foldr_nil,Env.ins,Int.reduceLE,Int.reduceLT,Int.reduceToNat,Int.reduceAdd,Int.reduceSub,↓reduceIte,Nat.reduceBEq,Nat.reduceAdd,Nat.reduceSub,Nat.reduceMul,Nat.reduceLT,Nat.reduceEqDiff,reduceCtorEq,Nat.reduceLeDiff];try rfl))⟩ (by (try simp only [go_sem,aV,aW,Int.reduceLE,Int.reduceLT,Int.reduceToNat,Int.reduceAdd,Int.reduceSub,↓reduceIte,Nat.reduceBEq,Nat.reduceAdd,Nat.reduceSub,Nat.reduceMul,Nat.reduceLT,Nat.reduceEqDiff,reduceCtorEq,Nat.reduceLeDiff])<;>(first | rfl | (simp only [b7,List.foldr_cons,List.foldr_nil,Env.ins,Int.reduceLE,Int.reduceLT,Int.reduceToNat,Int.reduceAdd,Int.reduceSub,↓reduceIte,Nat.reduceBEq,Nat.reduceAdd,Nat.reduceSub,Nat.reduceMul,Nat.reduceLT,Nat.reduceEqDiff,reduceCtorEq,Nat.reduceLeDiff];try rfl))) ?_
   rintro i ⟨av,ao⟩
   by_cases h:i<s.length
   ·have f1:decide ((i:Int)<(s.length:Int))=true:=decide_eq_true (by omega)
    have f2:s[i]?=some s[i]:=List.getElem?_eq_getElem h
    have f5:IntKind.i64.wrap ((i:Int)+1)=((i+1:Nat):Int):=by rw [wrap64]<;>omega
    have f6:(0:Int)≤i:=by omega
    have aO:=alH s[i] a b bO bE hG ib
    have eY:a4 Tryz.prog bq 163 [.int .u8 s[i].toNat,.list none 2 [.agg [.int .u8 a,.int .u8 b],.agg [.int .u8 bO,.int .u8 bE],.agg [.int .u8 hG,.int .u8 ib]]] (.bool (fN s[i] [(a,b),(bO,bE),(hG,ib)])):=SG s[i] [(a,b),(bO,bE),(hG,ib)] (by simp)
    cases al:fN s[i] [(a,b),(bO,bE),(hG,ib)] with
    | false =>
     rw [al] at aO eY
     simp only [go_sem,aV,aW,f1,f2,f5,f6,aO,eY,uJ,Int.reduceLE,Int.reduceLT,Int.reduceToNat,Int.reduceAdd,Int.reduceSub,↓reduceIte,Nat.reduceBEq,Nat.reduceAdd,Nat.reduceSub,Nat.reduceMul,Nat.reduceLT,Nat.reduceEqDiff,reduceCtorEq,Nat.reduceLeDiff]
     rw [jh,uO f2 al]
    | true =>
     rw [al] at aO eY
     simp only [go_sem,aV,aW,f1,f2,f5,f6,aO,eY,Int.reduceLE,Int.reduceLT,Int.reduceToNat,Int.reduceAdd,Int.reduceSub,↓reduceIte,Nat.reduceBEq,Nat.reduceAdd,Nat.reduceSub,Nat.reduceMul,Nat.reduceLT,Nat.reduceEqDiff,reduceCtorEq,Nat.reduceLeDiff]
     exact ⟨i+1,⟨by omega,by rw [nE f2,ao,al];rfl⟩,by omega,by (first | rfl | (simp only [b7,List.foldr_cons,List.foldr_nil,Env.ins,Int.reduceLE,Int.reduceLT,Int.reduceToNat,Int.reduceAdd,Int.reduceSub,↓reduceIte,Nat.reduceBEq,Nat.reduceAdd,Nat.reduceSub,Nat.reduceMul,Nat.reduceLT,Nat.reduceEqDiff,reduceCtorEq,Nat.reduceLeDiff];try rfl))⟩
   ·have f1:decide ((i:Int)<(s.length:Int))=false:=decide_eq_false (by omega)
    unfold Qf
    simp only [go_sem,aV,aW,f1,uJ,Int.reduceLE,Int.reduceLT,Int.reduceToNat,Int.reduceAdd,Int.reduceSub,↓reduceIte,Nat.reduceBEq,Nat.reduceAdd,Nat.reduceSub,Nat.reduceMul,Nat.reduceLT,Nat.reduceEqDiff,reduceCtorEq,Nat.reduceLeDiff]
    rw [List.take_of_length_le (by omega)] at ao
    rw [jh,ao]
 ·have aI:decide ((s.length:Int)>16)=true:=decide_eq_true (by omega)
  simp only [go_sem,aV,aW,aB,aI,uJ,Int.reduceLE,Int.reduceLT,Int.reduceToNat,Int.reduceAdd,Int.reduceSub,↓reduceIte,Nat.reduceBEq,Nat.reduceAdd,Nat.reduceSub,Nat.reduceMul,Nat.reduceLT,Nat.reduceEqDiff,reduceCtorEq,Nat.reduceLeDiff]
  rw [jh,decide_eq_false R,Bool.false_and,Bool.false_and]
theorem alJ (s:cK) (a b bO bE hG ib:Nat):jl 125 [.str s,.agg [.int .u8 a,.int .u8 b,.int .u8 bO,.int .u8 bE,.int .u8 hG,.int .u8 ib]]=some (.bool (oy s (a,b) (bO,bE) (hG,ib))):=by
 simp [jl]
theorem alK (s:cK):a4 Tryz.prog bq 126 [.str s] (.bool (iP s)):=by
 refine a4.intro (D:=jl) JJ rfl rfl ?_
 have q:jl 125 [.str s,.agg [.int .u8 65,.int .u8 90,.int .u8 97,.int .u8 122,.int .u8 48,.int .u8 57]]=_:=alJ s 65 90 97 122 48 57
 have w:a4 Tryz.prog bq 125 [.str s,.agg [.int .u8 65,.int .u8 90,.int .u8 97,.int .u8 122,.int .u8 48,.int .u8 57]] _:=alI s 65 90 97 122 48 57
 unfold Ai
 simp only [go_sem,aV,aW,q,w,Aj,iP,Int.reduceLE,Int.reduceLT,Int.reduceToNat,Int.reduceAdd,Int.reduceSub,↓reduceIte,Nat.reduceBEq,Nat.reduceAdd,Nat.reduceSub,Nat.reduceMul,Nat.reduceLT,Nat.reduceEqDiff,reduceCtorEq,Nat.reduceLeDiff]
theorem alL (s:cK):jl 161 [.str s]=some (g8 s):=by simp [jl]
theorem alM (s:cK):a4 Tryz.prog bq 161 [.str s] (g8 s):=by
 refine a4.intro (D:=jl) alu rfl rfl ?_
 unfold Qr
 by_cases a0:s.length=0
 ·have aB:decide ((s.length:Int)<1)=true:=decide_eq_true (by omega)
  simp only [go_sem,aV,aW,aB,qR,Int.reduceLE,Int.reduceLT,Int.reduceToNat,Int.reduceAdd,Int.reduceSub,↓reduceIte,Nat.reduceBEq,Nat.reduceAdd,Nat.reduceSub,Nat.reduceMul,Nat.reduceLT,Nat.reduceEqDiff,reduceCtorEq,Nat.reduceLeDiff]
  rw [List.eq_nil_of_length_eq_zero a0];rfl
 obtain ⟨x,r,ai⟩:∃x r,s=x::r:=by cases s with | nil=>simp at a0 | cons x r=>exact ⟨x,r,rfl⟩
 have bB:s[0]?=some x:=by rw [ai];rfl
 have aB:decide ((s.length:Int)<1)=false:=decide_eq_false (by omega)
 have a1:gV s=if s.length≤4∧¬(x=48∧s.length>1)∧s.all du=true then some (fE s 0) else none:=by
  rw [ai]
  have:(r≠[])↔(x::r).length>1:=by cases r<;>simp
  simp only [gV,this]
 clear ai
 by_cases R:s.length≤4
 ·have aI:decide ((s.length:Int)>4)=false:=decide_eq_false (by omega)
  by_cases aa:x=48∧s.length>1
  ·have dS:((x.toNat:Int)==48)=true:=by rw [aa.1];rfl
   have h1:decide ((s.length:Int)>1)=true:=decide_eq_true (by omega)
   simp only [go_sem,aV,aW,bB,aB,aI,dS,h1,qR,Int.reduceLE,Int.reduceLT,Int.reduceToNat,Int.reduceAdd,Int.reduceSub,↓reduceIte,Nat.reduceBEq,Nat.reduceAdd,Nat.reduceSub,Nat.reduceMul,Nat.reduceLT,Nat.reduceEqDiff,reduceCtorEq,Nat.reduceLeDiff]
   rw [g8,a1,if_neg (by simp [aa])];rfl
  ·have start:∀b,(((x.toNat:Int)==48)=b)→decide ((s.length:Int)>1)=false∨b=false:=fun b ah=>by
    by_cases al:s.length>1
    ·right
     rw [←ah]
     by_cases aY:(x.toNat:Int)=48
     ·exact absurd ⟨UInt8.toNat_inj.1 (by show x.toNat=48;omega),al⟩ aa
     ·simpa using aY
    ·left;exact decide_eq_false (by omega)
   have JR:s.all du=true→g8 s=.bw [.int .i64 (fE s 0:Nat),.bool true]:=fun h=>JP (by rw [a1,if_pos ⟨R,aa,h⟩])
   have xm:s.all du=false→g8 s=.bw [.int .i64 0,.bool false]:=fun h=>JO (by rw [a1,if_neg (by rw [h];simp)])
   have loop:∀(iL:ae) Q,(({ iL with env:=iL.env.close [2,3,23,27,39] }:ae)=⟨N [(0,.v (.str s)),(4,.v (.int .i64 0)),(5,.v (.int .i64 0))],[]⟩)→(∀i:Int,s.all du=true→Q (.exit 0) ⟨N [(27,.v (.bool false)),(0,.v (.str s)),(4,.v (.int .i64 (fE s 0:Nat))),(5,.v (.int .i64 i))],[]⟩)→(∀s',s.all du=false→Env.get s'.env 2=some (.v (.int .i64 0))→Env.get s'.env 3=some (.v (.bool false))→Q .ret s') →
     hI Tryz.prog bq jl (.loop Qq) iL Q ⟨⟩:=by
    intro iL Q jh JS tP
    refine e8 (fun i:Nat=>⟨N [(0,.v (.str s)),(4,.v (.int .i64 (fE (s.take i) 0:Nat))),(5,.v (.int .i64 i))],[]⟩)
     (fun i=>i≤s.length∧(s.take i).all du=true) (fun i=>s.length - i) 0 ⟨by omega,rfl⟩ (jh.trans rfl) ?_
    rintro i ⟨av,ao⟩
    by_cases h:i<s.length
    ·have f1:decide ((i:Int)<(s.length:Int))=true:=decide_eq_true (by omega)
     have f2:s[i]?=some s[i]:=List.getElem?_eq_getElem h
     have f5:IntKind.i64.wrap ((i:Int)+1)=((i+1:Nat):Int):=by rw [wrap64]<;>omega
     have f6:(0:Int)≤i:=by omega
     have ax:=JN ao (by rw [List.length_take];omega)
     have bz:s[i].toNat<256:=UInt8.toNat_lt _
     by_cases bX:48≤s[i].toNat
     ·have bN:decide ((s[i].toNat:Int)<48)=false:=decide_eq_false (by omega)
      by_cases bQ:s[i].toNat≤57
      ·have cb:decide ((s[i].toNat:Int)>57)=false:=decide_eq_false (by omega)
       have ds:IntKind.u8.wrap ((s[i].toNat:Int) - 48)=((s[i].toNat - 48:Nat):Int):=by simp only [IntKind.wrap,IntKind.signed,IntKind.bits];simp;omega
       have dz:IntKind.i64.wrap ((s[i].toNat - 48:Nat):Int)=((s[i].toNat - 48:Nat):Int):=by rw [wrap64]<;>omega
       have ez:IntKind.i64.wrap (10*((fE (s.take i) 0:Nat):Int))=((10*fE (s.take i) 0:Nat):Int):=by rw [wrap64]<;>omega
       have jF:IntKind.i64.wrap (((10*fE (s.take i) 0:Nat):Int)+((s[i].toNat - 48:Nat):Int))=((fE (s.take (i+1)) 0:Nat):Int):=by
        rw [uN f2,JM,wrap64]<;>omega
       have aw:du s[i]=true:=by simp [du,bX,bQ]
       simp only [go_sem,aV,aW,f1,f2,f5,f6,bN,cb,ds,dz,ez,jF,Int.reduceLE,Int.reduceLT,Int.reduceToNat,Int.reduceAdd,Int.reduceSub,↓reduceIte,Nat.reduceBEq,Nat.reduceAdd,Nat.reduceSub,Nat.reduceMul,Nat.reduceLT,Nat.reduceEqDiff,reduceCtorEq,Nat.reduceLeDiff]
       exact ⟨i+1,⟨by omega,by rw [nE f2,ao,aw];rfl⟩,by omega,by (first | rfl | (simp only [b7,List.foldr_cons,List.foldr_nil,Env.ins,Int.reduceLE,Int.reduceLT,Int.reduceToNat,Int.reduceAdd,Int.reduceSub,↓reduceIte,Nat.reduceBEq,Nat.reduceAdd,Nat.reduceSub,Nat.reduceMul,Nat.reduceLT,Nat.reduceEqDiff,reduceCtorEq,Nat.reduceLeDiff];try rfl))⟩
      ·have cb:decide ((s[i].toNat:Int)>57)=true:=decide_eq_true (by omega)
       have aw:du s[i]=false:=by simp [du,bQ]
       simp only [go_sem,aV,aW,f1,f2,f5,f6,bN,cb,Int.reduceLE,Int.reduceLT,Int.reduceToNat,Int.reduceAdd,Int.reduceSub,↓reduceIte,Nat.reduceBEq,Nat.reduceAdd,Nat.reduceSub,Nat.reduceMul,Nat.reduceLT,Nat.reduceEqDiff,reduceCtorEq,Nat.reduceLeDiff]
       exact tP _ (uO f2 aw) (by simp only [go_sem,aV,aW,Int.reduceLE,Int.reduceLT,Int.reduceToNat,Int.reduceAdd,Int.reduceSub,↓reduceIte,Nat.reduceBEq,Nat.reduceAdd,Nat.reduceSub,Nat.reduceMul,Nat.reduceLT,Nat.reduceEqDiff,reduceCtorEq,Nat.reduceLeDiff]) (by simp only [go_sem,aV,aW,Int.reduceLE,Int.reduceLT,Int.reduceToNat,Int.reduceAdd,Int.reduceSub,↓reduceIte,Nat.reduceBEq,Nat.reduceAdd,Nat.reduceSub,Nat.reduceMul,Nat.reduceLT,Nat.reduceEqDiff,reduceCtorEq,Nat.reduceLeDiff])
     ·have bN:decide ((s[i].toNat:Int)<48)=true:=decide_eq_true (by omega)
      have aw:du s[i]=false:=by simp [du,bX]
      simp only [go_sem,aV,aW,f1,f2,f5,f6,bN,Int.reduceLE,Int.reduceLT,Int.reduceToNat,Int.reduceAdd,Int.reduceSub,↓reduceIte,Nat.reduceBEq,Nat.reduceAdd,Nat.reduceSub,Nat.reduceMul,Nat.reduceLT,Nat.reduceEqDiff,reduceCtorEq,Nat.reduceLeDiff]
      exact tP _ (uO f2 aw) (by simp only [go_sem,aV,aW,Int.reduceLE,Int.reduceLT,Int.reduceToNat,Int.reduceAdd,Int.reduceSub,↓reduceIte,Nat.reduceBEq,Nat.reduceAdd,Nat.reduceSub,Nat.reduceMul,Nat.reduceLT,Nat.reduceEqDiff,reduceCtorEq,Nat.reduceLeDiff]) (by simp only [go_sem,aV,aW,Int.reduceLE,Int.reduceLT,Int.reduceToNat,Int.reduceAdd,Int.reduceSub,↓reduceIte,Nat.reduceBEq,Nat.reduceAdd,Nat.reduceSub,Nat.reduceMul,Nat.reduceLT,Nat.reduceEqDiff,reduceCtorEq,Nat.reduceLeDiff])
    ·have f1:decide ((i:Int)<(s.length:Int))=false:=decide_eq_false (by omega)
     rw [List.take_of_length_le (by omega)] at ao
     simp only [go_sem,aV,aW,f1,Int.reduceLE,Int.reduceLT,Int.reduceToNat,Int.reduceAdd,Int.reduceSub,↓reduceIte,Nat.reduceBEq,Nat.reduceAdd,Nat.reduceSub,Nat.reduceMul,Nat.reduceLT,Nat.reduceEqDiff,reduceCtorEq,Nat.reduceLeDiff]
     rw [List.take_of_length_le (by omega)]
     exact JS _ ao
   have fin:∀i:Int,s.all du=true→hI Tryz.prog bq jl Iz ⟨N [(27,.v (.bool false)),(0,.v (.str s)),(4,.v (.int .i64 (fE s 0:Nat))),(5,.v (.int .i64 i))],[]⟩ (qB fun s'=>mw s'.env qR=some (g8 s)) ⟨⟩:=fun i h=>by
    have k:decide (((fE s 0:Nat):Int)≤9999)=true:=decide_eq_true (by have:=JN h R;omega)
    unfold Iz
    simp only [go_sem,aV,aW,k,qR,JR h,Int.reduceLE,Int.reduceLT,Int.reduceToNat,Int.reduceAdd,Int.reduceSub,↓reduceIte,Nat.reduceBEq,Nat.reduceAdd,Nat.reduceSub,Nat.reduceMul,Nat.reduceLT,Nat.reduceEqDiff,reduceCtorEq,Nat.reduceLeDiff]
   cases aY:((x.toNat:Int)==48) with
   | false =>
    simp only [go_sem,aV,aW,bB,aB,aI,aY,Int.reduceLE,Int.reduceLT,Int.reduceToNat,Int.reduceAdd,Int.reduceSub,↓reduceIte,Nat.reduceBEq,Nat.reduceAdd,Nat.reduceSub,Nat.reduceMul,Nat.reduceLT,Nat.reduceEqDiff,reduceCtorEq,Nat.reduceLeDiff]
    refine loop _ _ (by (try simp only [go_sem,aV,aW,Int.reduceLE,Int.reduceLT,Int.reduceToNat,Int.reduceAdd,Int.reduceSub,↓reduceIte,Nat.reduceBEq,Nat.reduceAdd,Nat.reduceSub,Nat.reduceMul,Nat.reduceLT,Nat.reduceEqDiff,reduceCtorEq,Nat.reduceLeDiff])<;>(first | rfl | (simp only [b7,List.foldr_cons,List.foldr_nil,Env.ins,Int.reduceLE,Int.reduceLT,Int.reduceToNat,Int.reduceAdd,Int.reduceSub,↓reduceIte,Nat.reduceBEq,Nat.reduceAdd,Nat.reduceSub,Nat.reduceMul,Nat.reduceLT,Nat.reduceEqDiff,reduceCtorEq,Nat.reduceLeDiff];try rfl))) (fun i h=>fin i h) (fun s' h bX bQ=>?_)
    simp only [go_sem,aV,aW,bX,bQ,qR,xm h,Int.reduceLE,Int.reduceLT,Int.reduceToNat,Int.reduceAdd,Int.reduceSub,↓reduceIte,Nat.reduceBEq,Nat.reduceAdd,Nat.reduceSub,Nat.reduceMul,Nat.reduceLT,Nat.reduceEqDiff,reduceCtorEq,Nat.reduceLeDiff]
   | true =>
    rcases start _ aY with bn | bn
    ·simp only [go_sem,aV,aW,bB,aB,aI,aY,bn,Int.reduceLE,Int.reduceLT,Int.reduceToNat,Int.reduceAdd,Int.reduceSub,↓reduceIte,Nat.reduceBEq,Nat.reduceAdd,Nat.reduceSub,Nat.reduceMul,Nat.reduceLT,Nat.reduceEqDiff,reduceCtorEq,Nat.reduceLeDiff]
     refine loop _ _ (by (try simp only [go_sem,aV,aW,Int.reduceLE,Int.reduceLT,Int.reduceToNat,Int.reduceAdd,Int.reduceSub,↓reduceIte,Nat.reduceBEq,Nat.reduceAdd,Nat.reduceSub,Nat.reduceMul,Nat.reduceLT,Nat.reduceEqDiff,reduceCtorEq,Nat.reduceLeDiff])<;>(first | rfl | (simp only [b7,List.foldr_cons,List.foldr_nil,Env.ins,Int.reduceLE,Int.reduceLT,Int.reduceToNat,Int.reduceAdd,Int.reduceSub,↓reduceIte,Nat.reduceBEq,Nat.reduceAdd,Nat.reduceSub,Nat.reduceMul,Nat.reduceLT,Nat.reduceEqDiff,reduceCtorEq,Nat.reduceLeDiff];try rfl))) (fun i h=>fin i h) (fun s' h bX bQ=>?_)
     simp only [go_sem,aV,aW,bX,bQ,qR,xm h,Int.reduceLE,Int.reduceLT,Int.reduceToNat,Int.reduceAdd,Int.reduceSub,↓reduceIte,Nat.reduceBEq,Nat.reduceAdd,Nat.reduceSub,Nat.reduceMul,Nat.reduceLT,Nat.reduceEqDiff,reduceCtorEq,Nat.reduceLeDiff]
    ·cases bn
 ·have aI:decide ((s.length:Int)>4)=true:=decide_eq_true (by omega)
  simp only [go_sem,aV,aW,bB,aB,aI,qR,Int.reduceLE,Int.reduceLT,Int.reduceToNat,Int.reduceAdd,Int.reduceSub,↓reduceIte,Nat.reduceBEq,Nat.reduceAdd,Nat.reduceSub,Nat.reduceMul,Nat.reduceLT,Nat.reduceEqDiff,reduceCtorEq,Nat.reduceLeDiff]
  rw [g8,a1,if_neg (by omega)];rfl
theorem alN (s:cK):jl 126 [.str s]=some (.bool (iP s)):=by simp [jl]
end AM
