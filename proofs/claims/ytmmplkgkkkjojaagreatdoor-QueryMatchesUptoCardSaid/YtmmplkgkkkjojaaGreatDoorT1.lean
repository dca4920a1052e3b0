/- What functions of the given program do, as calls of the machine. Conditions: names and lists are bounded where that is said. -/
import Derived.Test.YtmmplkgkkkjojaaGreatDoorOk
import Derived.Test.YtmmplkgkkkjojaaGreatDoorAm5
set_option linter.unusedSimpArgs false
set_option maxRecDepth 100000
set_option maxHeartbeats 4000000
set_option linter.unusedVariables false
namespace AM
open List renaming getElem?_eq_getElem -> aKQ,all_cons -> aKR,take_of_length_le -> aKS,eq_nil_of_length_eq_zero -> aKU,any_cons -> aKW,any_nil -> aKX,all_nil -> aKZ,length_map -> aK0,getElem_mem -> aK2
open Bool renaming true_and -> aKT,or_false -> aKY,false_and -> aK1
open UInt8 renaming ofNat -> aKV
open Go Go.Proofs
open Tryz renaming prog -> ν
attribute [go_sem] Int.reduceLE Int.reduceLT Int.reduceToNat Int.reduceAdd Int.reduceSub Nat.reduceBEq Nat.reduceAdd Nat.reduceSub Nat.reduceMul Nat.reduceLT Nat.reduceEqDiff reduceCtorEq Nat.reduceLeDiff
attribute [go_sem ↓] reduceIte
variable {p:Prop}
theorem bl(h:p:=by first|rfl|(simp(disch:=first|assumption|omega) only[b7,List.foldr_cons,List.foldr_nil,Env.ins,cp,cq,cr,ct,cu,cv,cw,cx,I.b0,List.length_map,Int.natCast_add,Int.natCast_one,Int.natCast_zero,List.take_zero,bL,List.map_append,List.map_cons,List.map_nil,cy,cz,go_sem];try rfl)):p:=h
theorem hC(h:p:=by first|rfl|(simp only[b7,List.foldr_cons,List.foldr_nil,Env.ins,go_sem];try rfl)):p:=h
theorem aAj(h:p:=by first|(simp only[List.length_set,List.length_append,List.length_cons,List.length_nil,List.length_replicate];done)|(simp only[List.length_set,List.length_append,List.length_cons,List.length_nil,List.length_replicate];omega)):p:=h
theorem aX(h:p:=by first|assumption|omega):p:=h
theorem ai(h:p:=by first|assumption|omega|exact aAj):p:=h
theorem cX(h:p:=by simp only[List.all_cons,List.all_nil,Enc.arg,Bool.and_self]):p:=h
theorem c7(h:p:=by first|rfl|exact Enc.res _):p:=h
variable {q:Prop}
theorem ag  (a:q)(b:p=q:=by simp(disch:=first|exact ai|fail) only[go_sem];rfl):p:=b▸a
theorem ew  (a:p:=by(try simp(disch:=first|exact ai|fail) only[go_sem])<;>(first|rfl|(simp(disch:=first|exact aX|fail) only[b7,List.foldr_cons,List.foldr_nil,Env.ins,cp,cq,cr,ct,cu,cv,cw,cx,I.b0,List.length_map,Int.natCast_add,Int.natCast_one,Int.natCast_zero,List.take_zero,bL,List.map_append,List.map_cons,List.map_nil,cy,cz,go_sem];try rfl))):p:=a
variable {a:Prop}
theorem bU(f:a)(b:q)(c:a->p=q:=by intro f;simp(disch:=first|exact ai|fail) only[go_sem,f];rfl):p:=c f▸b
theorem qn(f:a)(b:a->p:=by intro f;first|rfl|(simp(disch:=first|exact aX|fail) only[b7,List.foldr_cons,List.foldr_nil,Env.ins,cp,cq,cr,ct,cu,cv,cw,cx,I.b0,List.length_map,Int.natCast_add,Int.natCast_one,Int.natCast_zero,List.take_zero,bL,List.map_append,List.map_cons,List.map_nil,cy,cz,go_sem,f];try rfl)):p:=b f
theorem rm(f:a)(b:a->p:=by intro f;(try simp(disch:=first|exact ai|fail) only[go_sem])<;>(exact qn @f)):p:=b f
variable {b:Prop}
theorem gS(f:a)(g:b)(c:q)(d:a->b->p=q:=by intro f g;simp(disch:=first|exact ai|fail) only[go_sem,f,g];rfl):p:=d f g▸c
theorem og(f:a)(g:b)(c:a->b->p:=by intro f g;first|rfl|(simp(disch:=first|exact aX|fail) only[b7,List.foldr_cons,List.foldr_nil,Env.ins,cp,cq,cr,ct,cu,cv,cw,cx,I.b0,List.length_map,Int.natCast_add,Int.natCast_one,Int.natCast_zero,List.take_zero,bL,List.map_append,List.map_cons,List.map_nil,cy,cz,go_sem,f,g];try rfl)):p:=c f g
theorem Ir(f:a)(g:b)(c:a->b->p:=by intro f g;(try simp(disch:=first|exact ai|fail) only[go_sem])<;>(exact og @f @g)):p:=c f g
variable {c:Prop}
theorem iv(f:a)(g:b)(h:c)(d:q)(e:a->b->c->p=q:=by intro f g h;simp(disch:=first|exact ai|fail) only[go_sem,f,g,h];rfl):p:=e f g h▸d
theorem B4(f:a)(g:b)(h:c)(d:a->b->c->p:=by intro f g h;first|rfl|(simp(disch:=first|exact aX|fail) only[b7,List.foldr_cons,List.foldr_nil,Env.ins,cp,cq,cr,ct,cu,cv,cw,cx,I.b0,List.length_map,Int.natCast_add,Int.natCast_one,Int.natCast_zero,List.take_zero,bL,List.map_append,List.map_cons,List.map_nil,cy,cz,go_sem,f,g,h];try rfl)):p:=d f g h
variable {d:Prop}
theorem mb(f:a)(g:b)(h:c)(k:d)(e:q)(i:a->b->c->d->p=q:=by intro f g h k;simp(disch:=first|exact ai|fail) only[go_sem,f,g,h,k];rfl):p:=i f g h k▸e
theorem zN(f:a)(g:b)(h:c)(k:d)(e:a->b->c->d->p:=by intro f g h k;first|rfl|(simp(disch:=first|exact aX|fail) only[b7,List.foldr_cons,List.foldr_nil,Env.ins,cp,cq,cr,ct,cu,cv,cw,cx,I.b0,List.length_map,Int.natCast_add,Int.natCast_one,Int.natCast_zero,List.take_zero,bL,List.map_append,List.map_cons,List.map_nil,cy,cz,go_sem,f,g,h,k];try rfl)):p:=e f g h k
variable {e:Prop}
theorem rp(f:a)(g:b)(h:c)(k:d)(m:e)(i:q)(j:a->b->c->d->e->p=q:=by intro f g h k m;simp(disch:=first|exact ai|fail) only[go_sem,f,g,h,k,m];rfl):p:=j f g h k m▸i
variable {dL:Prop}
theorem oX(f:a)(g:b)(h:c)(k:d)(m:e)(n:dL)(i:q)(j:a->b->c->d->e->dL->p=q:=by intro f g h k m n;simp(disch:=first|exact ai|fail) only[go_sem,f,g,h,k,m,n];rfl):p:=j f g h k m n▸i
variable {a2:Prop}
theorem EG(f:a)(g:b)(h:c)(k:d)(m:e)(n:dL)(u:a2)(i:q)(j:a->b->c->d->e->dL->a2->p=q:=by intro f g h k m n u;simp(disch:=first|exact ai|fail) only[go_sem,f,g,h,k,m,n,u];rfl):p:=j f g h k m n u▸i
theorem Is{a3:Prop}(f:a)(g:b)(h:c)(k:d)(m:e)(n:dL)(u:a2)(v:a3)(i:q)(j:a->b->c->d->e->dL->a2->a3->p=q:=by intro f g h k m n u v;simp(disch:=first|exact ai|fail) only[go_sem,f,g,h,k,m,n,u,v];rfl):p:=j f g h k m n u v▸i
attribute [go_sem] qN Yk Yq PI Yy TY Y3 Zc tG uW aaj aal abE ade CJ O6 O8 O9 Ph Pj Py PC PE PG PL P8 Tv TS TW YM TZ Y4 Y7 Za T0 T1 T2 T3 T4 T5 Zd Zi T6 T7 T8 Ua Uk Ul Um VX ZC ZI VY VZ Wc Wd Wm Z9 Wp Wq aaf Wr aak Ws Wt Wu Wv Ww Wx WD Yd aaQ Ye Yf Yg aa0 Yh Yl abl abG abI yv Yr Aj Ys Yt Pv Yu acv acy YB YD acI YF YG YH YI YQ adN YX YY aeB aeE aeH YZ Ze Zk Zx ZZ Z2 Z7 Z8 aac aam aaA
def PR(p:Nat×Nat):AV:=.agg [.int .u8 p.1,.int .u8 p.2]
def h3(f:Nat)(xs:List AV):Option AV :=
 if f=127 then(match xs with|[.int .u8 c,.list none 2 [.agg [.int .u8 a,.int .u8 b]]]=>some (.bool (hs (aKV c.toNat) [(a.toNat,b.toNat)]))|[.int .u8 c,.list none 2 [.agg [.int .u8 a,.int .u8 b],.agg [.int .u8 cN,.int .u8 b5],.agg [.int .u8 kU,.int .u8 lG]]]=>some (.bool (hs (aKV c.toNat) [(a.toNat,b.toNat),(cN.toNat,b5.toNat),(kU.toNat,lG.toNat)]))|_=>none)
 else if f=89 then(match xs with|[.str s,.agg [.int .u8 a,.int .u8 b,.int .u8 cN,.int .u8 b5,.int .u8 kU,.int .u8 lG]]=>some (.bool (nE s (a.toNat,b.toNat) (cN.toNat,b5.toNat) (kU.toNat,lG.toNat)))|_=>none)
 else if f=47 then(match xs with|[.str s]=>some (.bool (dM s))|_=>none)
 else if f=107 then(match xs with|[.str s]=>some (.bool (eg s))|_=>none)
 else if f=150 then(match xs with|[.str s]=>some (ix s)|_=>none)
 else if f=126 then(match xs with|[.str s]=>some (.bool (fw s).isSome)|_=>none)
 else if f=88 then(match xs with|[x,.int .i64 n,.bool v]=>(pN x).map λt=>.bool (cD n.toNat t v)|_=>none)
 else if f=46 then(match xs with|[x]=>(pN x).map λt=>.bool (cD 4 t true)|_=>none)
 else if f=56 then(match xs with|[x]=>(pN x).map λt=>.bool (cD 4 t false)|_=>none)
 else none
theorem afz(c:UInt8)(l:List (Nat×Nat))(y:l.length<100):aA ν aD 127 [.int .u8 c.toNat,.list none 2 (l.map PR)] (.bool (hs c l)):=by
 refine aA.intro (D:=h3) PM rfl rfl ?_;unfold JO;simp only[go_sem,bd,bb,aK0];refine bQ (λi:Nat=>⟨N [(0,.v (.int .u8 c.toNat)),(7,.v (.list none 2 (l.map PR))),(8,.v (.int .i64 l.length)),(9,.v (.int .i64 i))],[]⟩)
  (λi=>i<=l.length/\hs c (l.take i)=false) (λi=>l.length-i) 0 ⟨am,hR⟩ d8 ?_
 rintro i ⟨al,ar⟩;by_cases h:i<l.length
 ·have f:decide ((i:Int)<(l.length:Int))=true:=decide_eq_true am;have j:(l.map PR)[i]?=some (.agg [.int .u8 l[i].1,.int .u8 l[i].2]):=by rw[List.getElem?_map,aKQ h];rfl
  have k:IntKind.i64.wrap ((i:Int)+1)=((i+1:Nat):Int):=by rw[wrap64]<;>omega
  have m:(0:Int)<=i:=by omega
  have n:(i:Int)<l.length:=by omega
  have o:hs c (l.take (i+1))=(hs c (l.take i)||(decide (l[i].1<=c.toNat)&&decide (c.toNat<=l[i].2))):=by
   simp only[hs,List.take_add_one,aKQ h,Option.toList_some,List.any_append,aKW,aKX,aKY]
  have v:∀b,hs c (l.take (i+1))=b->b=true->hs c l=true:=λb ae w=>by
   subst w;have:=ae;simp only[hs,List.any_eq_true]at this ⊢;obtain⟨x,ah,r⟩:=this;exact⟨x,List.mem_of_mem_take ah,r⟩
  by_cases t:l[i].1<=c.toNat
  ·have g:decide ((c.toNat:Int)>=(l[i].1:Int))=true:=decide_eq_true am;by_cases u:c.toNat<=l[i].2
   ·have s:decide ((c.toNat:Int)<=(l[i].2:Int))=true:=decide_eq_true am;simp only[go_sem,bd,bb,f,j,k,m,n,g,s,aK0,Yk];rw[v _ o (by simp[t,u])]
   ·have s:decide ((c.toNat:Int)<=(l[i].2:Int))=false:=decide_eq_false am;simp only[go_sem,bd,bb,f,j,k,m,n,g,s,aK0];exact⟨i+1,⟨am,by rw[o,ar];simp[u]⟩,am,hR⟩
  ·have g:decide ((c.toNat:Int)>=(l[i].1:Int))=false:=decide_eq_false am;simp only[go_sem,bd,bb,f,j,k,m,n,g,aK0];exact⟨i+1,⟨am,by rw[o,ar];simp[t]⟩,am,hR⟩
 ·have f:decide ((i:Int)<(l.length:Int))=false:=decide_eq_false am;unfold acq;simp only[go_sem,bd,bb,f,Yk];rw[aKS am]at ar;rw[ar]
theorem aAl(c:UInt8)(a b:Nat):h3 127 [.int .u8 c.toNat,.list none 2 [.agg [.int .u8 a,.int .u8 b]]]=some (.bool (hs c [(a,b)])):=by
 simp[h3]
theorem aAm(c:UInt8)(a b f g h i:Nat):h3 127 [.int .u8 c.toNat,.list none 2 [.agg [.int .u8 a,.int .u8 b],.agg [.int .u8 f,.int .u8 g],.agg [.int .u8 h,.int .u8 i]]]=some (.bool (hs c [(a,b),(f,g),(h,i)])):=by
 simp[h3]
theorem afA(s:ak)(a b f g j k:Nat):aA ν aD 89 [.str s,.agg [.int .u8 a,.int .u8 b,.int .u8 f,.int .u8 g,.int .u8 j,.int .u8 k]] (.bool (nE s (a,b) (f,g) (j,k))):=by
 refine aA.intro (D:=h3) FL rfl rfl ?_;unfold CF;by_cases B:s.length=0
 ·have m:decide ((s.length:Int)<1)=true:=decide_eq_true am;simp only[go_sem,bd,bb,m,Yk];rw[aKU B];simp only[nE]
 obtain⟨x,r,ah⟩:∃x r,s=x::r:=by cases s with|nil=>simp at B|cons x r=>exact⟨x,r,rfl⟩
 have C:s[0]?=some x:=by rw[ah];rfl
 have l:nE s (a,b) (f,g) (j,k)=(decide (s.length<=16)&&hs x [(a,b)]&&s.all λy=>hs y [(a,b),(f,g),(j,k)]):=by rw[ah];simp only[nE]
 clear ah;have m:decide ((s.length:Int)<1)=false:=decide_eq_false am;by_cases E:s.length<=16
 ·have n:decide ((s.length:Int)>16)=false:=decide_eq_false am;have o:=aAl x a b;have ba:aA ν aD 127 [.int .u8 x.toNat,.list none 2 [.agg [.int .u8 a,.int .u8 b]]] (.bool (hs x [(a,b)])):=afz x [(a,b)] be;rw[decide_eq_true E,aKT]at l;cases t:hs x [(a,b)]with
  |false =>
   rw[t]at o ba;rw[t,aK1]at l;simp only[go_sem,bd,bb,C,m,n,o,ba,Yk];rw[l]
  |true =>
   rw[t]at o ba;rw[t,aKT]at l;simp only[go_sem,bd,bb,C,m,n,o,ba];refine bQ (λi:Nat=>⟨N [(0,.v (.str s)),(3,.v (.cL [.int .u8 a,.int .u8 b,.int .u8 f,.int .u8 g,.int .u8 j,.int .u8 k])),(5,.v (.int .i64 i))],[]⟩)
    (λi=>i<=s.length/\(s.take i).all (λy=>hs y [(a,b),(f,g),(j,k)])=true) (λi=>s.length-i) 0 ⟨am,hR⟩ d8 ?_
   rintro i ⟨al,ar⟩;by_cases h:i<s.length
   ·have u:decide ((i:Int)<(s.length:Int))=true:=decide_eq_true am;have v:s[i]?=some s[i]:=aKQ h;have F:IntKind.i64.wrap ((i:Int)+1)=((i+1:Nat):Int):=by rw[wrap64]<;>omega
    have G:(0:Int)<=i:=by omega
    have w:=aAm s[i] a b f g j k;have z:aA ν aD 127 [.int .u8 s[i].toNat,.list none 2 [.agg [.int .u8 a,.int .u8 b],.agg [.int .u8 f,.int .u8 g],.agg [.int .u8 j,.int .u8 k]]] (.bool (hs s[i] [(a,b),(f,g),(j,k)])):=afz s[i] [(a,b),(f,g),(j,k)] be;cases A:hs s[i] [(a,b),(f,g),(j,k)]with
    |false =>
     rw[A]at w z;simp only[go_sem,bd,bb,u,v,F,G,w,z,Yk];rw[l,An v A]
    |true =>
     rw[A]at w z;simp only[go_sem,bd,bb,u,v,F,G,w,z];exact⟨i+1,⟨am,by rw[sx v,ar,A];rfl⟩,am,hR⟩
   ·have u:decide ((i:Int)<(s.length:Int))=false:=decide_eq_false am;unfold abf;simp only[go_sem,bd,bb,u,Yk];rw[aKS am]at ar;rw[l,ar]
 ·have n:decide ((s.length:Int)>16)=true:=decide_eq_true am;simp only[go_sem,bd,bb,m,n,Yk];rw[l,decide_eq_false E,aK1,aK1]
theorem afB(s:ak)(a b f g h i:Nat):h3 89 [.str s,.agg [.int .u8 a,.int .u8 b,.int .u8 f,.int .u8 g,.int .u8 h,.int .u8 i]]=some (.bool (nE s (a,b) (f,g) (h,i))):=by
 simp[h3]
theorem PT(s:ak):aA ν aD 107 [.str s] (.bool (eg s)):=by
 refine aA.intro (D:=h3) ay1 rfl rfl ?_;have q:h3 89 [.str s,.agg [.int .u8 65,.int .u8 90,.int .u8 97,.int .u8 122,.int .u8 48,.int .u8 57]]=_:=afB s 65 90 97 122 48 57;have w:aA ν aD 89 [.str s,.agg [.int .u8 65,.int .u8 90,.int .u8 97,.int .u8 122,.int .u8 48,.int .u8 57]] _:=afA s 65 90 97 122 48 57;unfold abL;simp only[go_sem,bd,bb,q,w,TY,eg]
theorem afC(s:ak):aA ν aD 47 [.str s] (.bool (dM s)):=by
 refine aA.intro (D:=h3) ae7 rfl rfl ?_;have q:h3 89 [.str s,.agg [.int .u8 97,.int .u8 122,.int .u8 48,.int .u8 57,.int .u8 45,.int .u8 45]]=_:=afB s 97 122 48 57 45 45;have w:aA ν aD 89 [.str s,.agg [.int .u8 97,.int .u8 122,.int .u8 48,.int .u8 57,.int .u8 45,.int .u8 45]] _:=afA s 97 122 48 57 45 45;unfold Pe;unfold dM;generalize nE s (97,122) (48,57) (45,45)=b at q w;cases b
 ·simp only[go_sem,bd,bb,q,w,TY]
 ·cases f:s==[105,102]
  ·cases g:s==[97,110,100]<;>simp only[go_sem,bd,bb,q,w,f,g,TY]
  ·simp only[go_sem,bd,bb,q,w,f,TY]
theorem afD(s:ak):h3 150 [.str s]=some (ix s):=by simp[h3]
theorem PU(s:ak):aA ν aD 150 [.str s] (ix s):=by
 refine aA.intro (D:=h3) azA rfl rfl ?_;unfold ac8;by_cases F:s.length=0
 ·have j:decide ((s.length:Int)<1)=true:=decide_eq_true am;simp only[go_sem,bd,bb,j,PI];rw[aKU F];rfl
 obtain⟨x,r,ah⟩:∃x r,s=x::r:=by cases s with|nil=>simp at F|cons x r=>exact⟨x,r,rfl⟩
 have u:s[0]?=some x:=by rw[ah];rfl
 have j:decide ((s.length:Int)<1)=false:=decide_eq_false am;have v:fw s=if s.length<=4/\¬(x=48/\s.length>1)/\s.all eZ=true then some (ig s 0)else none:=by
  rw[ah];have:(r≠[])↔(x::r).length>1:=by cases r<;>simp
  simp only[fw,this]
 clear ah;by_cases G:s.length<=4
 ·have n:decide ((s.length:Int)>4)=false:=decide_eq_false am;by_cases w:x=48/\s.length>1
  ·have K:((x.toNat:Int)==48)=true:=by rw[w.1];rfl
   have L:decide ((s.length:Int)>1)=true:=decide_eq_true am;simp only[go_sem,bd,bb,u,j,n,K,L,PI];rw[ix,v,if_neg (by simp[w])];rfl
  ·have start:∀b,(((x.toNat:Int)==48)=b)->decide ((s.length:Int)>1)=false\/b=false:=λb ae=>by
    by_cases O:s.length>1
    ·right;rw[<-ae];by_cases o:(x.toNat:Int)=48
     ·exact absurd ⟨UInt8.toNat_inj.1 (by show x.toNat=48;omega),O⟩ w
     ·simpa using o
    ·left;exact decide_eq_false am
   have P:s.all eZ=true->ix s=.bg [.int .i64 (ig s 0:Nat),.bool true]:=λh=>CL (by rw[v,if_pos ⟨G,w,h⟩]);have H:s.all eZ=false->ix s=.bg [.int .i64 0,.bool false]:=λh=>CK (by rw[v,if_neg (by rw[h];simp)]);have loop:∀(y:au)Q,(({ y with env:=y.env.close [2,3,23,27,39] }:au)=⟨N [(0,.v (.str s)),(4,.v (.int .i64 0)),(5,.v (.int .i64 0))],[]⟩)->(∀i:Int,s.all eZ=true->Q (.exit 0) ⟨N [(27,.v (.bool false)),(0,.v (.str s)),(4,.v (.int .i64 (ig s 0:Nat))),(5,.v (.int .i64 i))],[]⟩)->(∀f,s.all eZ=false->Env.get f.env 2=some (.v (.int .i64 0))->Env.get f.env 3=some (.v (.bool false))->Q .ret f) ->
     jG ν aD h3 (.loop YE) y Q ⟨⟩:=by
    intro y Q R S J;refine bQ (λi:Nat=>⟨N [(0,.v (.str s)),(4,.v (.int .i64 (ig (s.take i) 0:Nat))),(5,.v (.int .i64 i))],[]⟩)
     (λi=>i<=s.length/\(s.take i).all eZ=true) (λi=>s.length-i) 0 ⟨am,rfl⟩ (R.trans rfl) ?_
    rintro i ⟨al,ar⟩;by_cases h:i<s.length
    ·have t:decide ((i:Int)<(s.length:Int))=true:=decide_eq_true am;have g:s[i]?=some s[i]:=aKQ h;have A:IntKind.i64.wrap ((i:Int)+1)=((i+1:Nat):Int):=by rw[wrap64]<;>omega
     have B:(0:Int)<=i:=by omega
     have Y:=PQ ar (by rw[List.length_take];omega);have Z:s[i].toNat<256:=UInt8.toNat_lt _;by_cases l:48<=s[i].toNat
     ·have z:decide ((s[i].toNat:Int)<48)=false:=decide_eq_false am;by_cases m:s[i].toNat<=57
      ·have C:decide ((s[i].toNat:Int)>57)=false:=decide_eq_false am;have T:IntKind.u8.wrap ((s[i].toNat:Int)-48)=((s[i].toNat-48:Nat):Int):=by simp only[IntKind.wrap,IntKind.signed,IntKind.bits];simp;omega
       have V:IntKind.i64.wrap ((s[i].toNat-48:Nat):Int)=((s[i].toNat-48:Nat):Int):=by rw[wrap64]<;>omega
       have W:IntKind.i64.wrap (10*((ig (s.take i) 0:Nat):Int))=((10*ig (s.take i) 0:Nat):Int):=by rw[wrap64]<;>omega
       have X:IntKind.i64.wrap (((10*ig (s.take i) 0:Nat):Int)+((s[i].toNat-48:Nat):Int))=((ig (s.take (i+1)) 0:Nat):Int):=by
        rw[JS g,PO,wrap64]<;>omega
       have hd:eZ s[i]=true:=by simp[eZ,l,m]
       simp only[go_sem,bd,bb,t,g,A,B,z,C,T,V,W,X];exact⟨i+1,⟨am,by rw[sx g,ar,hd];rfl⟩,am,hR⟩
      ·have C:decide ((s[i].toNat:Int)>57)=true:=decide_eq_true am;have hd:eZ s[i]=false:=by simp[eZ,m]
       simp only[go_sem,bd,bb,t,g,A,B,z,C];exact J _ (An g hd) jp jp
     ·have z:decide ((s[i].toNat:Int)<48)=true:=decide_eq_true am;have hd:eZ s[i]=false:=by simp[eZ,l]
      simp only[go_sem,bd,bb,t,g,A,B,z];exact J _ (An g hd) jp jp
    ·have t:decide ((i:Int)<(s.length:Int))=false:=decide_eq_false am;rw[aKS am]at ar;simp only[go_sem,bd,bb,t];rw[aKS am];exact S _ ar
   have fin:∀i:Int,s.all eZ=true->jG ν aD h3 Jk ⟨N [(27,.v (.bool false)),(0,.v (.str s)),(4,.v (.int .i64 (ig s 0:Nat))),(5,.v (.int .i64 i))],[]⟩ (yg λf=>tv f.env PI=some (ix s)) ⟨⟩:=λi h=>by
    have k:decide (((ig s 0:Nat):Int)<=9999)=true:=decide_eq_true (by have:=PQ h G;omega);unfold Jk;simp only[go_sem,bd,bb,k,PI,P h]
   cases o:((x.toNat:Int)==48)with
   |false =>
    simp only[go_sem,bd,bb,u,j,n,o];refine loop _ _ d8 (λi h=>fin i h) (λf h l m=>?_);simp only[go_sem,bd,bb,l,m,PI,H h]
   |true =>
    rcases start _ o with E|E
    ·simp only[go_sem,bd,bb,u,j,n,o,E];refine loop _ _ d8 (λi h=>fin i h) (λf h l m=>?_);simp only[go_sem,bd,bb,l,m,PI,H h]
    ·cases E
 ·have n:decide ((s.length:Int)>4)=true:=decide_eq_true am;simp only[go_sem,bd,bb,u,j,n,PI];rw[ix,v,if_neg am];rfl
theorem aAn(s:ak):aA ν aD 126 [.str s] (.bool (fw s).isSome):=by
 refine aA.intro (D:=h3) azh rfl rfl ?_;have q:=afD s;have w:=PU s;unfold aco;unfold ix at q w;simp only[go_sem,bd,bb,q,w,TY]
theorem aAo(s:ak):h3 47 [.str s]=some (.bool (dM s)):=by simp[h3]
theorem afE(s:ak):h3 107 [.str s]=some (.bool (eg s)):=by simp[h3]
theorem aAp(s:ak):h3 126 [.str s]=some (.bool (fw s).isSome):=by simp[h3]
theorem PW(t:I)(n:Nat)(v:Bool):h3 88 [t.enc,.int .i64 n,.bool v]=some (.bool (cD n t v)):=by simp[h3,yp]
theorem PX:∀(n:Nat)(t:I)(v:Bool),n<=1000->aA ν aD 88 [t.enc,.int .i64 n,.bool v] (.bool (cD n t v))
 |0,.mk f cK,v,_=>by
  refine aA.intro (D:=h3) yy (by rw[aKR,I.arg];rfl) rfl ?_;simp only[I.enc];unfold wP;have g:decide (((0:Nat):Int)<1)=true:=by decide
  simp only[go_sem,bd,bb,g,qN,cD]
 |n+1,.mk f cK,v,T=>by
  refine aA.assume (B:=(I.mk f cK).eS) (λγ vs h=>by cases h with|cons _ _ _ _ h _=>exact I.lj h) λae=>?_;simp only[I.eS]at ae;have V:=ae.2.1;have W:M=1099511627776:=rfl;refine aA.intro (D:=h3) yy (by rw[aKR,I.arg];rfl) rfl ?_;simp only[I.enc];unfold wP;have g:decide (((n+1:Nat):Int)<1)=false:=decide_eq_false am;have j:=aAo f;have H:=afC f;have s:=aAp f;have w:=aAn f;have y:=afE f;have z:=PT f;by_cases J:cK.length<=4
  ·have m:decide ((cK.length:Int)>4)=false:=decide_eq_false am;by_cases A:cK.length=0
   ·have C:((cK.length:Int)==0)=true:=by rw[A];rfl
    have E:cD (n+1) (.mk f cK) v=(dM f||(fw f).isSome||(v&&eg f)):=by simp[cD,I.args,I.name,A]
    rw[E];generalize dM f=Q at *;generalize (fw f).isSome=en at *;generalize eg f=lD at *;simp only[go_sem,bd,bb,g,m,C,j,H,gJ];cases Q
    ·simp only[go_sem,bd,bb,s,w];cases en
     ·simp only[go_sem,bd,bb];cases v
      ·simp only[go_sem,bd,bb,qN]
      ·simp only[go_sem,bd,bb,y,z,qN]
     ·simp only[go_sem,bd,bb,qN]
    ·simp only[go_sem,bd,bb,qN]
   ·have C:((cK.length:Int)==0)=false:=by rw[beq_eq_false_iff_ne];omega
    have E:cD (n+1) (.mk f cK) v=(cK.all (λu=>cD n u v)&&dM f):=by simp[cD,I.args,I.name,J,A]
    rw[E];simp only[go_sem,bd,bb,g,m,C,gJ];refine bQ (λi:Nat=>⟨N [(1,.v (.int .i64 (n+1:Nat))),(2,.v (.bool v)),(3,.v (.cL [.str f,.list none 2 (dH cK)])),(38,.v (.list none 2 (dH cK))),(39,.v (.int .i64 cK.length)),(40,.v (.int .i64 i))],[]⟩)
     (λi=>i<=cK.length/\(cK.take i).all (λu=>cD n u v)=true) (λi=>cK.length-i) 0 ⟨am,hR⟩ d8 ?_
    rintro i ⟨al,ar⟩;by_cases h:i<cK.length
    ·have o:decide ((i:Int)<(cK.length:Int))=true:=decide_eq_true am;have F:cK[i]?=some cK[i]:=aKQ h;have G:(dH cK)[i]?=some cK[i].enc:=by rw[uU,F];rfl
     have K:IntKind.i64.wrap ((i:Int)+1)=((i+1:Nat):Int):=by rw[wrap64]<;>omega
     have L:(0:Int)<=i:=by omega
     have O:(i:Int)<cK.length:=by omega
     have P:IntKind.i64.wrap (((n+1:Nat):Int)-1)=(n:Int):=by rw[wrap64]<;>omega
     have k:=PW cK[i] n v;have l:=PX n cK[i] v am;generalize ah:cK[i]=x at *;obtain⟨R,S⟩:=x;simp only[I.enc]at G k l;cases r:cD n (.mk R S) v with
     |false =>
      rw[r]at k l;simp only[go_sem,bd,bb,o,G,K,L,O,P,k,l,gJ,qN];rw[An F r,aK1]
     |true =>
      rw[r]at k l;simp only[go_sem,bd,bb,o,G,K,L,O,P,k,l,gJ];exact⟨i+1,⟨am,by rw[sx F,ar,r];rfl⟩,am,hR⟩
    ·have o:decide ((i:Int)<(cK.length:Int))=false:=decide_eq_false am;rw[aKS am]at ar;unfold Yi;simp only[go_sem,bd,bb,o,j,H,qN];rw[ar,aKT]
  ·have m:decide ((cK.length:Int)>4)=true:=decide_eq_true am;simp only[go_sem,bd,bb,g,m,gJ,qN];simp[cD,I.args,J]
theorem aAu(t:I):aA ν aD 46 [t.enc] (.bool (cD 4 t true)):=by
 refine aA.intro (D:=h3) ayt (by rw[aKR,I.arg];rfl) rfl ?_;have q:h3 88 [t.enc,.int .i64 4,.bool true]=_:=PW t 4 true;have w:aA ν aD 88 [t.enc,.int .i64 4,.bool true] _:=PX 4 t true f8;obtain⟨f,cK⟩:=t;simp only[I.enc]at q w ⊢;unfold ZH;simp only[go_sem,bd,bb,q,w,TY]
theorem aAv(t:I):aA ν aD 56 [t.enc] (.bool (cD 4 t false)):=by
 refine aA.intro (D:=h3) ayy (by rw[aKR,I.arg];rfl) rfl ?_;have q:h3 88 [t.enc,.int .i64 4,.bool false]=_:=PW t 4 false;have w:aA ν aD 88 [t.enc,.int .i64 4,.bool false] _:=PX 4 t false f8;obtain⟨f,cK⟩:=t;simp only[I.enc]at q w ⊢;unfold ZV;simp only[go_sem,bd,bb,q,w,TY]
def kF(f:Nat)(xs:List AV):Option AV :=
 if f=168 then(match xs with|[x]=>(pN x).map λt=>yz (h2 t)|_=>none)
 else if f=122 then(match xs with|[.int .i64 a,.int .i64 b]=>some (.int .i64 (gg a.toNat b.toNat))|_=>none)
 else if f=169 then(match xs with|[.str a,.str b]=>some (.int .i64 (du a b))|_=>none)
 else if f=205 then(match xs with|[.str a,.str b]=>some (.int .i64 (du a b))|_=>none)
 else if f=121 then(match xs with|[x,y]=>(match pN x,pN y with|some t,some u=>some (.int .i64 (b6 t u))|_,_=>none)|_=>none)
 else if f=85 then(match xs with|[x,y]=>(match Ae x,Ae y with|some t,some u=>some (.int .i64 (fh t u))|_,_=>none)|_=>none)
 else h3 f xs
theorem aAw(s:ak):kF 150 [.str s]=some (ix s):=by simp[kF,afD]
theorem aAx(s:ak):kF 107 [.str s]=some (.bool (eg s)):=by simp[kF,afE]
theorem afG(t:I):kF 168 [t.enc]=some (yz (h2 t)):=by simp[kF,yp]
theorem JU(a b:Nat):kF 122 [.int .i64 a,.int .i64 b]=some (.int .i64 (gg a b)):=by simp[kF]
theorem aAy(a b:ak):kF 169 [.str a,.str b]=some (.int .i64 (du a b)):=by simp[kF]
theorem aAz(a b:ak):kF 205 [.str a,.str b]=some (.int .i64 (du a b)):=by simp[kF]
theorem aAA(t u:I):kF 121 [t.enc,u.enc]=some (.int .i64 (b6 t u)):=by simp[kF,yp]
theorem aAB(t u:List I):kF 85 [gT t,gT u]=some (.int .i64 (fh t u)):=by simp[kF,OT]
theorem JV(a b:Nat):aA ν aD 122 [.int .i64 a,.int .i64 b] (.int .i64 (gg a b)):=by
 refine aA.intro (D:=kF) azd rfl rfl ?_;unfold acj;by_cases g:a<b
 ·have f:decide ((a:Int)<b)=true:=decide_eq_true am;simp only[go_sem,bd,bb,f,Yk,gg,g]
 ·have f:decide ((a:Int)<b)=false:=decide_eq_false am;by_cases i:b<a
  ·have h:decide ((a:Int)>b)=true:=decide_eq_true am;simp only[go_sem,bd,bb,f,h,Yk,gg,g,i]
  ·have h:decide ((a:Int)>b)=false:=decide_eq_false am;simp only[go_sem,bd,bb,f,h,Yk,gg,g,i]
theorem aAC(a b:ak):aA ν aD 205 [.str a,.str b] (.int .i64 (du a b)):=by
 refine aA.intro (D:=kF) ap8 rfl rfl ?_;unfold Zj;simp only[go_sem,bd,bb,Yk]
theorem afH(a b:ak):aA ν aD 169 [.str a,.str b] (.int .i64 (du a b)):=by
 refine aA.intro (D:=kF) azM rfl rfl ?_;have q:=aAz a b;have w:=aAC a b;unfold adE;simp only[go_sem,bd,bb,q,w,Yk]
theorem afI(t:I):aA ν aD 168 [t.enc] (yz (h2 t)):=by
 refine aA.intro (D:=kF) azL (by rw[aKR,I.arg];rfl) rfl ?_;obtain⟨f,cK⟩:=t;simp only[I.enc];unfold adC;by_cases i:cK.length>0
 ·have g:decide ((cK.length:Int)>0)=true:=decide_eq_true am;have hk:h2 (.mk f cK)=(3,0,cK.length,f):=by simp[h2,I.args,I.name,i]
  simp only[go_sem,bd,bb,g,gJ,hk,yz,CJ]
 ·have g:decide ((cK.length:Int)>0)=false:=decide_eq_false am;have q:=aAw f;have w:=PU f;cases h:fw f with
  |some n =>
   have hk:h2 (.mk f cK)=(0,n,0,[]):=by simp[h2,I.args,I.name,i,h]
   rw[CL h]at q w;simp only[go_sem,bd,bb,g,gJ,hk,q,w,yz,CJ]
  |none =>
   rw[CK h]at q w;have j:=aAx f;have k:=PT f;cases l:eg f with
   |true =>
    have hk:h2 (.mk f cK)=(2,0,0,f):=by simp[h2,I.args,I.name,i,h,l]
    rw[l]at j k;simp only[go_sem,bd,bb,g,gJ,hk,q,w,j,k,yz,CJ]
   |false =>
    have hk:h2 (.mk f cK)=(1,0,0,f):=by simp[h2,I.args,I.name,i,h,l]
    rw[l]at j k;simp only[go_sem,bd,bb,g,gJ,hk,q,w,j,k,yz,CJ]
theorem aAD(l m:List I)(h:∀t∈l,∀u,aA ν aD 121 [t.enc,u.enc] (.int .i64 (b6 t u))):aA ν aD 85 [gT l,gT m] (.int .i64 (fh l m)):=by
 refine aA.assume (B:=l.length<=M/\m.length<=M) (λγ vs h=>by cases h with|cons _ _ _ _ h F=>cases F with|cons _ _ _ _ n _=>exact⟨(Ad h).1,(Ad n).1⟩) λae=>?_;have L:M=1099511627776:=rfl;refine aA.intro (D:=kF) ayR rfl rfl ?_;unfold aa6;simp only[gT];simp only[go_sem,bd,bb];refine bQ (λi:Nat=>⟨N [(0,.v (.list none 2 (dH l))),(1,.v (.list none 2 (dH m))),(5,.v (.int .i64 i))],[]⟩)
  (λi=>i<=l.length/\i<=m.length/\fh (l.drop i) (m.drop i)=fh l m) (λi=>l.length-i) 0 ⟨am,am,rfl⟩ d8 ?_
 rintro i ⟨al,G,ar⟩;have fin:l.length<=i\/m.length<=i->kF 122 [.int .i64 l.length,.int .i64 m.length]=some (.int .i64 (fh l m))/\aA ν aD 122 [.int .i64 l.length,.int .i64 m.length] (.int .i64 (fh l m)):=λO=>by
  have q:=JU l.length m.length;have w:=JV l.length m.length;rw[<-afy l m i al G,<-afw (l.drop i) (m.drop i) (by simp only[List.length_drop];omega),ar]at q w;exact⟨q,w⟩
 by_cases H:i<l.length
 ·have f:decide ((i:Int)<(l.length:Int))=true:=decide_eq_true am;by_cases n:i<m.length
  ·have g:decide ((i:Int)<(m.length:Int))=true:=decide_eq_true am;have s:l[i]?=some l[i]:=aKQ H;have v:m[i]?=some m[i]:=aKQ n;have o:(dH l)[i]?=some l[i].enc:=by rw[uU,s];rfl
   have r:(dH m)[i]?=some m[i].enc:=by rw[uU,v];rfl
   have z:IntKind.i64.wrap ((i:Int)+1)=((i+1:Nat):Int):=by rw[wrap64]<;>omega
   have A:(0:Int)<=i:=by omega
   have C:(i:Int)<l.length:=by omega
   have E:(i:Int)<m.length:=by omega
   have q:=aAA l[i] m[i];have w:=h l[i] (aK2 _) m[i];have ax:=afx s v;rw[ar]at ax;generalize l[i]=x at *;generalize m[i]=y at *;obtain⟨J,dL⟩:=x;obtain⟨K,a2⟩:=y;simp only[I.enc]at o r q w;generalize b6 (.mk J dL) (.mk K a2)=c at *;by_cases j:c=0
   ·have k:(c != 0)=false:=by simp[j]
    rw[if_pos j]at ax;simp only[go_sem,bd,bb,f,g,o,r,z,A,C,E,q,w,k,gJ];exact⟨i+1,⟨am,am,ax.symm⟩,am,hR⟩
   ·have k:(c != 0)=true:=by simp[j]
    rw[if_neg j]at ax;simp only[go_sem,bd,bb,f,g,o,r,z,A,C,E,q,w,k,gJ,Yk,ax]
  ·have g:decide ((i:Int)<(m.length:Int))=false:=decide_eq_false am;obtain⟨q,w⟩:=fin (.inr am);unfold aa5;simp only[go_sem,bd,bb,f,g,gJ,q,w,Yk]
 ·have f:decide ((i:Int)<(l.length:Int))=false:=decide_eq_false am;obtain⟨q,w⟩:=fin (.inl am);unfold aa5;simp only[go_sem,bd,bb,f,gJ,q,w,Yk]
theorem aAE(t u:I)(h:aA ν aD 85 [gT t.args,gT u.args] (.int .i64 (fh t.args u.args))):aA ν aD 121 [t.enc,u.enc] (.int .i64 (b6 t u)):=by
 refine aA.intro (D:=kF) azc (by simp only[aKR,aKZ,I.arg];rfl) rfl ?_;have r:=afG t;have ba:=afI t;have s:=afG u;have v:=afI u;have J:=aAB t.args u.args;have K:=afv t u;rw[K];clear K;generalize h2 t=x at *;generalize h2 u=y at *;obtain⟨g,i,j,w⟩:=x;obtain⟨k,l,o,z⟩:=y;have L:=JU g k;have O:=JV g k;have P:=JU i l;have Q:=JV i l;have R:=JU j o;have v3:=JV j o;have S:=aAy w z;have v4:=afH w z;obtain⟨n,a⟩:=t;obtain⟨m,b⟩:=u;simp only[I.enc,I.args,gT,yz]at r ba s v J h ⊢;unfold aci;have f:vA [0,0,0,1] [.int .i64 (g:Int),.int .i64 (i:Int),.int .i64 (j:Int),.str w] [.int .i64 (k:Int),.int .i64 (l:Int),.int .i64 (o:Int),.str z]=some (decide ((g,i,j,w)=(k,l,o,z))):=by
  simp only[vA,nW,q7,if_true,Option.some.injEq,Prod.mk.injEq];rw[Bool.eq_iff_iff];simp only[Bool.and_eq_true,beq_iff_eq,decide_eq_true_eq,Int.natCast_inj,and_true]
 by_cases B:(g,i,j,w)=(k,l,o,z)
 ·rw[decide_eq_true B]at f;rw[if_pos B];simp only[go_sem,bd,bb,r,ba,s,v,J,h,f,Yk]
 ·rw[decide_eq_false B]at f;rw[if_neg B];by_cases E:g=k
  ·have A:((g:Int) != k)=false:=by simp[E]
   rw[if_neg (by simp[E])];by_cases F:i=l
   ·have C:((i:Int) != l)=false:=by simp[F]
    rw[if_neg (by simp[F])];by_cases G:j=o
    ·have H:((j:Int) != o)=false:=by simp[G]
     rw[if_neg (by simp[G])];simp only[go_sem,bd,bb,r,ba,s,v,f,A,C,H,S,v4,Yk]
    ·have H:((j:Int) != o)=true:=by simp;omega
     rw[if_pos G];simp only[go_sem,bd,bb,r,ba,s,v,f,A,C,H,R,v3,Yk]
   ·have C:((i:Int) != l)=true:=by simp;omega
    rw[if_pos F];simp only[go_sem,bd,bb,r,ba,s,v,f,A,C,P,Q,Yk]
  ·have A:((g:Int) != k)=true:=by simp;omega
   rw[if_pos E];simp only[go_sem,bd,bb,r,ba,s,v,f,A,L,O,Yk]
mutual
theorem PY:∀(t u:I),aA ν aD 121 [t.enc,u.enc] (.int .i64 (b6 t u))
 |.mk n a,u=>aAE (.mk n a) u (aAD a u.args λt f u=>afJ a t f u)
theorem afJ:∀(l:List I),∀t∈l,∀u,aA ν aD 121 [t.enc,u.enc] (.int .i64 (b6 t u))
 |[],_,h,_=>by cases h|s::r,t,h,u=>by
  rcases List.mem_cons.1 h with e|h
  ·rw[e];exact PY s u
  ·exact afJ r t h u
end
theorem aqk(l m:List I):aA ν aD 85 [gT l,gT m] (.int .i64 (fh l m)):=aAD l m λt _ u=>PY t u
def uY(f:Nat)(xs:List AV):Option AV :=
 if f=54 then(match xs with|[x,y]=>(match pN x,pN y with|some t,some u=>some (.bool (hi t u))|_,_=>none)|_=>none)
 else if f=16 then(match xs with|[x,y]=>(match Ae x,Ae y with|some t,some u=>some (.bool (gD t u))|_,_=>none)|_=>none)
 else if f=167 then(match xs with|[x]=>(pN x).map I.enc|_=>none)
 else kF f xs
theorem aAF(t u:I):uY 54 [t.enc,u.enc]=some (.bool (hi t u)):=by simp[uY,yp]
theorem aAG(t u:List I):uY 16 [gT t,gT u]=some (.bool (gD t u)):=by simp[uY,OT]
theorem aAH(t:I):uY 167 [t.enc]=some t.enc:=by simp[uY,yp]
theorem afK(l m:List I)(h:∀t∈l,∀u,aA ν aD 54 [t.enc,u.enc] (.bool (hi t u))):aA ν aD 16 [gT l,gT m] (.bool (gD l m)):=by
 refine aA.assume (B:=l.length<=M/\m.length<=M) (λγ vs h=>by cases h with|cons _ _ _ _ h E=>cases E with|cons _ _ _ _ g _=>exact⟨(Ad h).1,(Ad g).1⟩) λae=>?_;have J:M=1099511627776:=rfl;refine aA.intro (D:=uY) PJ rfl rfl ?_;unfold JI;simp only[gT];by_cases o:l.length=m.length
 ·have j:((l.length:Int) != m.length)=false:=by simp[o]
  simp only[go_sem,bd,bb,gJ,j];refine bQ (λi:Nat=>⟨N [(0,.v (.list none 2 (dH l))),(1,.v (.list none 2 (dH m))),(12,.v (.int .i64 l.length)),(13,.v (.int .i64 i))],[]⟩)
   (λi=>i<=l.length/\gD (l.drop i) (m.drop i)=gD l m) (λi=>l.length-i) 0 ⟨am,rfl⟩ d8 ?_
  rintro i ⟨al,ar⟩;by_cases F:i<l.length
  ·have g:i<m.length:=by omega
   have f:decide ((i:Int)<(l.length:Int))=true:=decide_eq_true am;have r:l[i]?=some l[i]:=aKQ F;have s:m[i]?=some m[i]:=aKQ g;have k:(dH l)[i]?=some l[i].enc:=by rw[uU,r];rfl
   have n:(dH m)[i]?=some m[i].enc:=by rw[uU,s];rfl
   have v:IntKind.i64.wrap ((i:Int)+1)=((i+1:Nat):Int):=by rw[wrap64]<;>omega
   have z:(0:Int)<=i:=by omega
   have A:(i:Int)<l.length:=by omega
   have C:(i:Int)<m.length:=by omega
   have q:=aAF l[i] m[i];have w:=h l[i] (aK2 _) m[i];have ax:=aAi r s;rw[ar]at ax;generalize l[i]=x at *;generalize m[i]=y at *;obtain⟨G,dL⟩:=x;obtain⟨H,a2⟩:=y;simp only[I.enc]at k n q w;generalize hi (.mk G dL) (.mk H a2)=c at *;cases c
   ·simp only[go_sem,bd,bb,f,k,n,v,z,A,C,q,w,gJ,Yk,ax]
   ·simp only[go_sem,bd,bb,f,k,n,v,z,A,C,q,w,gJ];exact⟨i+1,⟨am,by rw[ax];rfl⟩,am,hR⟩
  ·have f:decide ((i:Int)<(l.length:Int))=false:=decide_eq_false am;have:gD l m=true:=by rw[<-ar,List.drop_eq_nil_of_le am,List.drop_eq_nil_of_le am];rfl
   unfold SQ;simp only[go_sem,bd,bb,f,this,Yk]
 ·have j:((l.length:Int) != m.length)=true:=by simp;omega
  simp only[go_sem,bd,bb,gJ,j,aAh o,Yk]
theorem aAI(t u:I)(h:aA ν aD 16 [gT t.args,gT u.args] (.bool (gD t.args u.args))):aA ν aD 54 [t.enc,u.enc] (.bool (hi t u)):=by
 refine aA.intro (D:=uY) ayw (by simp only[aKR,aKZ,I.arg];rfl) rfl ?_;have q:=aAG t.args u.args;obtain⟨n,a⟩:=t;obtain⟨m,b⟩:=u;simp only[I.enc,I.args,gT]at q h ⊢;unfold ZQ;cases f:n==m<;>simp only[go_sem,bd,bb,f,q,h,hi,Yk]
mutual
theorem PZ:∀(t u:I),aA ν aD 54 [t.enc,u.enc] (.bool (hi t u))
 |.mk n a,u=>aAI (.mk n a) u (afK a u.args λt f u=>afL a t f u)
theorem afL:∀(l:List I),∀t∈l,∀u,aA ν aD 54 [t.enc,u.enc] (.bool (hi t u))
 |[],_,h,_=>by cases h|s::r,t,h,u=>by
  rcases List.mem_cons.1 h with e|h
  ·rw[e];exact PZ s u
  ·exact afL r t h u
end
theorem aAJ(l m:List I):aA ν aD 16 [gT l,gT m] (.bool (gD l m)):=afK l m λt _ u=>PZ t u
theorem aAK{l:List I}{i:Nat}{t:I}(h:l[i]?=some t):dH (l.take (i+1))=dH (l.take i)++[t.enc]:=by
 rw[JS h,oj,oj,List.map_append];rfl
theorem aAL(t:I)(h:∀u∈t.args,aA ν aD 167 [u.enc] u.enc):aA ν aD 167 [t.enc] t.enc:=by
 refine aA.assume (B:=t.eS) (λγ vs h=>by cases h with|cons _ _ _ _ h _=>exact I.lj h) λae=>?_;obtain⟨v,cK⟩:=t;simp only[I.eS]at ae;simp only[I.args]at h;have E:=ae.2.1;have F:M=1099511627776:=rfl;refine aA.gK (D:=uY) azK (by simp only[aKR,aKZ,I.arg];rfl) (I.res _) (I.iI _) ?_;simp only[I.enc];unfold adA;simp only[go_sem,bd,bb,gJ,uW];refine bQ (λi:Nat=>⟨N [(2,.b [.str [],.aS 2]),(3,.v (.ptr 0 0)),(10,.v (.list none 2 (dH cK))),(11,.v (.int .i64 cK.length)),(12,.v (.int .i64 i))],[.cells [.str v,if i=0 then .aS 2 else .list (some 25) 2 (dH (cK.take i))]]⟩)
  (λi=>i<=cK.length) (λi=>cK.length-i) 0 am d8 ?_
 intro i al;by_cases y:i<cK.length
 ·have j:decide ((i:Int)<(cK.length:Int))=true:=decide_eq_true am;have m:cK[i]?=some cK[i]:=aKQ y;have l:(dH cK)[i]?=some cK[i].enc:=by rw[uU,m];rfl
  have n:IntKind.i64.wrap ((i:Int)+1)=((i+1:Nat):Int):=by rw[wrap64]<;>omega
  have o:(0:Int)<=i:=by omega
  have r:(i:Int)<cK.length:=by omega
  have q:=aAH cK[i];have w:=h cK[i] (aK2 _);have ax:=aAK m;generalize cK[i]=x at *;obtain⟨z,dL⟩:=x;simp only[I.enc]at l q w ax;have s:(if i+1=0 then(AV.aS 2)else .list (some 25) 2 (dH (cK.take (i+1))))=.list (some 25) 2 (dH (cK.take (i+1))):=if_neg am;by_cases g:i=0
  ·have f:(if i=0 then(AV.aS 2)else .list (some 25) 2 (dH (cK.take i)))=.aS 2:=if_pos g;have A:dH (cK.take (i+1))=[.agg [.str z,.list none 2 (dH dL)]]:=by rw[ax,g,List.take_zero];simp only[dH,List.nil_append]
   have k:1<=M:=by omega
   simp only[go_sem,bd,bb,j,l,n,o,r,q,w,gJ,f,k];exact⟨i+1,am,am,by(simp only[b7,List.foldr_cons,List.foldr_nil,Env.ins,s,A,go_sem])⟩
  ·have f:(if i=0 then(AV.aS 2)else .list (some 25) 2 (dH (cK.take i)))=.list (some 25) 2 (dH (cK.take i)):=if_neg g;have k:(cK.take i).length+1<=M:=by rw[List.length_take];omega
   simp only[go_sem,bd,bb,j,l,n,o,r,q,w,gJ,f,k];exact⟨i+1,am,am,by(simp only[b7,List.foldr_cons,List.foldr_nil,Env.ins,s,ax,go_sem])⟩
 ·have j:decide ((i:Int)<(cK.length:Int))=false:=decide_eq_false am;have C:i=cK.length:=by omega
  unfold YT;by_cases g:i=0
  ·have f:(if i=0 then(AV.aS 2)else .list (some 25) 2 (dH (cK.take i)))=.aS 2:=if_pos g;simp only[go_sem,bd,bb,j,f,uW];refine⟨_,rfl,bx.agg (.cons (bx.refl _) (.cons ?_ .nil))⟩;have:cK=[]:=aKU am;rw[this];simp only[dH];exact bx.aS 2
  ·have f:(if i=0 then(AV.aS 2)else .list (some 25) 2 (dH (cK.take i)))=.list (some 25) 2 (dH (cK.take i)):=if_neg g;simp only[go_sem,bd,bb,j,f,uW];refine⟨_,rfl,bx.agg (.cons (bx.refl _) (.cons ?_ .nil))⟩;rw[C,List.take_length];exact bx.refl _
mutual
theorem afM:∀(t:I),aA ν aD 167 [t.enc] t.enc
 |.mk n a=>aAL (.mk n a) λu f=>afN a u f
theorem afN:∀(l:List I),∀t∈l,aA ν aD 167 [t.enc] t.enc
 |[],_,h=>by cases h|s::r,t,h=>by
  rcases List.mem_cons.1 h with e|h
  ·rw[e];exact afM s
  ·exact afN r t h
end
def nG(c:UInt8):Bool:=decide (97<=c.toNat)&&decide (c.toNat<=122)
def qB(c:UInt8):Bool:=decide (65<=c.toNat)&&decide (c.toNat<=90)
def gA(f:Nat)(xs:List AV):Option AV :=
 if f=177 then(match xs with|[.int .u8 c]=>some (.bool (nG (aKV c.toNat)))|_=>none)
 else if f=176 then(match xs with|[.int .u8 c]=>some (.bool (qB (aKV c.toNat)))|_=>none)
 else if f=178 then(match xs with|[.int .u8 c]=>some (.bool (eZ (aKV c.toNat)))|_=>none)
 else if f=181 then(match xs with|[.str s]=>some (.bool (dM s))|_=>none)
 else if f=138 then(match xs with|[.str s]=>some (ix s)|_=>none)
 else if f=137 then(match xs with|[.str s]=>some (.bool (fw s).isSome)|_=>none)
 else if f=96 then(match xs with|[.str s]=>some (.int .i64 (lk s))|_=>none)
 else if f=131 then(match xs with|[.str s]=>some (.bool (eg s))|_=>none)
 else if f=95 then(match xs with|[x]=>(pN x).map λt=>.int .i64 (jm t)|_=>none)
 else if f=94 then(match xs with|[.int .i64 a,.int .i64 b]=>some (.int .i64 (gg a.toNat b.toNat))|_=>none)
 else if f=97 then(match xs with|[.str a,.str b]=>some (.int .i64 (du a b))|_=>none)
 else if f=55 then(match xs with|[x,y]=>(match pN x,pN y with|some t,some u=>some (.int .i64 (b6 t u))|_,_=>none)|_=>none)
 else if f=98 then(match xs with|[x,y]=>(match Ae x,Ae y with|some t,some u=>some (.int .i64 (fh t u))|_,_=>none)|_=>none)
 else uY f xs
theorem P1(c:UInt8):aA ν aD 177 [.int .u8 c.toNat] (.bool (nG c)):=by
 refine aA.intro (D:=gA) azS rfl rfl ?_;unfold adX;by_cases g:97<=c.toNat
 ·have f:decide ((c.toNat:Int)>=97)=true:=decide_eq_true am;by_cases i:c.toNat<=122
  ·have h:decide ((c.toNat:Int)<=122)=true:=decide_eq_true am;simp only[go_sem,bd,bb,f,h,g,i,nG,TY]
  ·have h:decide ((c.toNat:Int)<=122)=false:=decide_eq_false am;simp only[go_sem,bd,bb,f,h,g,i,nG,TY]
 ·have f:decide ((c.toNat:Int)>=97)=false:=decide_eq_false am;simp only[go_sem,bd,bb,f,g,nG,TY]
theorem afP(c:UInt8):aA ν aD 176 [.int .u8 c.toNat] (.bool (qB c)):=by
 refine aA.intro (D:=gA) azR rfl rfl ?_;unfold adU;by_cases g:65<=c.toNat
 ·have f:decide ((c.toNat:Int)>=65)=true:=decide_eq_true am;by_cases i:c.toNat<=90
  ·have h:decide ((c.toNat:Int)<=90)=true:=decide_eq_true am;simp only[go_sem,bd,bb,f,h,g,i,qB,TY]
  ·have h:decide ((c.toNat:Int)<=90)=false:=decide_eq_false am;simp only[go_sem,bd,bb,f,h,g,i,qB,TY]
 ·have f:decide ((c.toNat:Int)>=65)=false:=decide_eq_false am;simp only[go_sem,bd,bb,f,g,qB,TY]
theorem P2(c:UInt8):aA ν aD 178 [.int .u8 c.toNat] (.bool (eZ c)):=by
 refine aA.intro (D:=gA) azT rfl rfl ?_;unfold ad0;by_cases g:48<=c.toNat
 ·have f:decide ((c.toNat:Int)>=48)=true:=decide_eq_true am;by_cases i:c.toNat<=57
  ·have h:decide ((c.toNat:Int)<=57)=true:=decide_eq_true am;simp only[go_sem,bd,bb,f,h,g,i,eZ,TY]
  ·have h:decide ((c.toNat:Int)<=57)=false:=decide_eq_false am;simp only[go_sem,bd,bb,f,h,g,i,eZ,TY]
 ·have f:decide ((c.toNat:Int)>=48)=false:=decide_eq_false am;simp only[go_sem,bd,bb,f,g,eZ,TY]
theorem P3(c:UInt8):gA 177 [.int .u8 c.toNat]=some (.bool (nG c)):=by simp[gA]
theorem afQ(c:UInt8):gA 176 [.int .u8 c.toNat]=some (.bool (qB c)):=by simp[gA]
theorem P4(c:UInt8):gA 178 [.int .u8 c.toNat]=some (.bool (eZ c)):=by simp[gA]
theorem JW(a b:Nat):aA ν aD 94 [.int .i64 a,.int .i64 b] (.int .i64 (gg a b)):=by
 refine aA.intro (D:=gA) FM rfl rfl ?_;unfold CG;by_cases g:a<b
 ·have f:decide ((a:Int)<b)=true:=decide_eq_true am;simp only[go_sem,bd,bb,f,Yk,gg,g]
 ·have f:decide ((a:Int)<b)=false:=decide_eq_false am;by_cases i:b<a
  ·have h:decide ((a:Int)>b)=true:=decide_eq_true am;simp only[go_sem,bd,bb,f,h,Yk,gg,g,i]
  ·have h:decide ((a:Int)>b)=false:=decide_eq_false am;simp only[go_sem,bd,bb,f,h,Yk,gg,g,i]
def yA(c:UInt8):Bool:=nG c||eZ c||decide (c.toNat=45)
theorem aAN(c:UInt8):hs c [(97,122),(48,57),(45,45)]=yA c:=by
 simp only[hs,yA,nG,eZ,aKW,aKX,aKY,<-Bool.or_assoc];congr 1
 rw[Bool.eq_iff_iff];simp;omega
variable {s:ak}{x:UInt8}
theorem aAO(h:s[0]?=some x):dM s=(decide (s.length<=16)&&nG x&&s.all yA&&!(s==[105,102])&&!(s==[97,110,100])&&!(s==[110,111,116])):=by
 have f:hs x [(97,122)]=nG x:=by simp only[hs,nG,aKW,aKX,aKY]
 have g:(λy=>hs y [(97,122),(48,57),(45,45)])=yA:=funext aAN;cases s with
 |nil=>simp at h|cons y r =>
  simp only[List.getElem?_cons_zero,Option.some.injEq]at h;subst h;simp only[dM,nE,f,g]
theorem aAP(s:ak):aA ν aD 181 [.str s] (.bool (dM s)):=by
 refine aA.intro (D:=gA) azV rfl rfl ?_;unfold ad7;by_cases G:s.length=0
 ·have k:decide ((s.length:Int)<1)=true:=decide_eq_true am;simp only[go_sem,bd,bb,k,TY];rw[aKU G];rfl
 obtain⟨x,l⟩:∃x,s[0]?=some x:=⟨s[0],aKQ am⟩;rw[aAO l];have k:decide ((s.length:Int)<1)=false:=decide_eq_false am;by_cases C:s.length<=16
 ·have m:decide ((s.length:Int)>16)=false:=decide_eq_false am;have o:=P3 x;have ba:=P1 x;rw[decide_eq_true C,aKT];generalize nG x=H at *;cases H
  ·simp only[go_sem,bd,bb,l,k,m,o,ba,TY]
  rw[aKT];cases r:s==[105,102]
  ·cases z:s==[97,110,100]
   ·cases E:s==[110,111,116]
    ·simp only[Bool.not_false,Bool.and_true];simp only[go_sem,bd,bb,l,k,m,o,ba,r,z,E];refine bQ (λi:Nat=>⟨N [(0,.v (.str s)),(31,.v (.int .i64 s.length)),(32,.v (.int .i64 i))],[]⟩)
      (λi=>i<=s.length/\(s.take i).all yA=true) (λi=>s.length-i) 0 ⟨am,rfl⟩ d8 ?_
     rintro i ⟨al,ar⟩;by_cases h:i<s.length
     ·have n:decide ((i:Int)<(s.length:Int))=true:=decide_eq_true am;have f:s[i]?=some s[i]:=aKQ h;have t:IntKind.i64.wrap ((i:Int)+1)=((i+1:Nat):Int):=by rw[wrap64]<;>omega
      have u:(0:Int)<=i:=by omega
      have v:=P3 s[i];have w:=P1 s[i];have A:=P4 s[i];have B:=P2 s[i];have y:yA s[i]=(nG s[i]||eZ s[i]||decide (s[i].toNat=45)):=rfl;have F:((s[i].toNat:Int) != 45) = !(decide (s[i].toNat=45)):=by
       by_cases g:s[i].toNat=45
       ·simp[g]
       ·rw[decide_eq_false g];simp;omega
      generalize nG s[i]=en at *;generalize eZ s[i]=lD at *;generalize decide (s[i].toNat=45)=J at *;have done:yA s[i]=true->∃j,(j<=s.length/\(s.take j).all yA=true)/\s.length-j<s.length-i/\i+1=j:=λae=>⟨i+1,⟨am,by rw[sx f,ar,ae];rfl⟩,am,rfl⟩;cases en
      ·cases lD
       ·cases J
        ·simp only[go_sem,bd,bb,n,f,t,u,v,w,A,B,F,TY];rw[An f y]
        ·simp only[go_sem,bd,bb,n,f,t,u,v,w,A,B,F];exact⟨i+1,⟨am,by rw[sx f,ar,y];rfl⟩,am,hR⟩
       ·simp only[go_sem,bd,bb,n,f,t,u,v,w,A,B];exact⟨i+1,⟨am,by rw[sx f,ar,y];rfl⟩,am,hR⟩
      ·simp only[go_sem,bd,bb,n,f,t,u,v,w];exact⟨i+1,⟨am,by rw[sx f,ar,y];rfl⟩,am,hR⟩
     ·have n:decide ((i:Int)<(s.length:Int))=false:=decide_eq_false am;rw[aKS am]at ar;unfold YU;simp only[go_sem,bd,bb,n,ar,TY]
    ·simp only[go_sem,bd,bb,l,k,m,o,ba,r,z,E,TY]
   ·simp only[go_sem,bd,bb,l,k,m,o,ba,r,z,TY]
  ·simp only[go_sem,bd,bb,l,k,m,o,ba,r,TY]
 ·have m:decide ((s.length:Int)>16)=true:=decide_eq_true am;simp only[go_sem,bd,bb,l,k,m,C,TY]
def CO(c:UInt8):Bool:=qB c||nG c||eZ c
theorem aAQ(c:UInt8):hs c [(65,90),(97,122),(48,57)]=CO c:=by
 simp only[hs,CO,qB,nG,eZ,aKW,aKX,aKY,<-Bool.or_assoc]
theorem aAR(h:s[0]?=some x):eg s=(decide (s.length<=16)&&qB x&&s.all CO):=by
 have f:hs x [(65,90)]=qB x:=by simp only[hs,qB,aKW,aKX,aKY]
 have g:(λy=>hs y [(65,90),(97,122),(48,57)])=CO:=funext aAQ;cases s with
 |nil=>simp at h|cons y r =>
  simp only[List.getElem?_cons_zero,Option.some.injEq]at h;subst h;simp only[eg,nE,f,g]
theorem afR(s:ak):aA ν aD 131 [.str s] (.bool (eg s)):=by
 refine aA.intro (D:=gA) azl rfl rfl ?_;unfold acA;by_cases C:s.length=0
 ·have k:decide ((s.length:Int)<1)=true:=decide_eq_true am;simp only[go_sem,bd,bb,k,TY];rw[aKU C];rfl
 obtain⟨x,w⟩:∃x,s[0]?=some x:=⟨s[0],aKQ am⟩;rw[aAR w];have k:decide ((s.length:Int)<1)=false:=decide_eq_false am;by_cases A:s.length<=16
 ·have y:decide ((s.length:Int)>16)=false:=decide_eq_false am;have B:=afQ x;have ba:=afP x;rw[decide_eq_true A,aKT];generalize qB x=E at *;cases E
  ·simp only[go_sem,bd,bb,w,k,y,B,ba,TY]
  rw[aKT];simp only[go_sem,bd,bb,w,k,y,B,ba];refine bQ (λi:Nat=>⟨N [(0,.v (.str s)),(19,.v (.int .i64 s.length)),(20,.v (.int .i64 i))],[]⟩)
   (λi=>i<=s.length/\(s.take i).all CO=true) (λi=>s.length-i) 0 ⟨am,rfl⟩ d8 ?_
  rintro i ⟨al,ar⟩;by_cases h:i<s.length
  ·have g:decide ((i:Int)<(s.length:Int))=true:=decide_eq_true am;have f:s[i]?=some s[i]:=aKQ h;have l:IntKind.i64.wrap ((i:Int)+1)=((i+1:Nat):Int):=by rw[wrap64]<;>omega
   have m:(0:Int)<=i:=by omega
   have n:=P3 s[i];have o:=P1 s[i];have r:=P4 s[i];have t:=P2 s[i];have u:=afQ s[i];have v:=afP s[i];have j:CO s[i]=(qB s[i]||nG s[i]||eZ s[i]):=rfl;generalize nG s[i]=en at *;generalize eZ s[i]=lD at *;generalize qB s[i]=z at *;cases ae:(z||en||lD)with
   |false =>
    simp only[Bool.or_eq_false_iff]at ae;obtain⟨⟨rfl,rfl⟩,rfl⟩:=ae;simp only[go_sem,bd,bb,g,f,l,m,n,o,r,t,u,v,TY];rw[An f j]
   |true =>
    rw[ae]at j;cases en
    ·cases z
     ·cases lD
      ·cases ae
      ·simp only[go_sem,bd,bb,g,f,l,m,n,o,r,t,u,v];exact⟨i+1,⟨am,by rw[sx f,ar,j];rfl⟩,am,hR⟩
     ·simp only[go_sem,bd,bb,g,f,l,m,n,o,r,t,u,v];exact⟨i+1,⟨am,by rw[sx f,ar,j];rfl⟩,am,hR⟩
    ·cases z
     ·simp only[go_sem,bd,bb,g,f,l,m,n,o,r,t,u,v];exact⟨i+1,⟨am,by rw[sx f,ar,j];rfl⟩,am,hR⟩
     ·simp only[go_sem,bd,bb,g,f,l,m,n,o,r,t,u,v];exact⟨i+1,⟨am,by rw[sx f,ar,j];rfl⟩,am,hR⟩
  ·have g:decide ((i:Int)<(s.length:Int))=false:=decide_eq_false am;rw[aKS am]at ar;unfold YA;simp only[go_sem,bd,bb,g,ar,TY]
 ·have y:decide ((s.length:Int)>16)=true:=decide_eq_true am;simp only[go_sem,bd,bb,w,k,y,A,TY]
theorem P5(s:ak):aA ν aD 138 [.str s] (ix s):=by
 refine aA.intro (D:=gA) azr rfl rfl ?_;unfold acP;by_cases B:s.length=0
 ·have g:decide ((s.length:Int)<1)=true:=decide_eq_true am;simp only[go_sem,bd,bb,g,PI];rw[aKU B];rfl
 obtain⟨x,r,ah⟩:∃x r,s=x::r:=by cases s with|nil=>simp at B|cons x r=>exact⟨x,r,rfl⟩
 have m:s[0]?=some x:=by rw[ah];rfl
 have g:decide ((s.length:Int)<1)=false:=decide_eq_false am;have n:fw s=if s.length<=4/\¬(x=48/\s.length>1)/\s.all eZ=true then some (ig s 0)else none:=by
  rw[ah];have:(r≠[])↔(x::r).length>1:=by cases r<;>simp
  simp only[fw,this]
 clear ah;by_cases G:s.length<=4
 ·have j:decide ((s.length:Int)>4)=false:=decide_eq_false am;by_cases o:x=48/\s.length>1
  ·have z:((x.toNat:Int)==48)=true:=by rw[o.1];rfl
   have k:decide ((s.length:Int)>1)=true:=decide_eq_true am;simp only[go_sem,bd,bb,m,g,j,z,k,PI];rw[ix,n,if_neg (by simp[o])];rfl
  ·have H:s.all eZ=true->ix s=.bg [.int .i64 (ig s 0:Nat),.bool true]:=λh=>CL (by rw[n,if_pos ⟨G,o,h⟩]);have C:s.all eZ=false->ix s=.bg [.int .i64 0,.bool false]:=λh=>CK (by rw[n,if_neg (by rw[h];simp)]);have loop:∀(t:au)Q,(({ t with env:=t.env.close [2,3,5,23,27,33] }:au)=⟨N [(0,.v (.str s)),(4,.v (.int .i64 0)),(25,.v (.int .i64 s.length)),(26,.v (.int .i64 0))],[]⟩) ->
     (∀i:Int,s.all eZ=true->Q (.exit 0) ⟨N [(27,.v (.bool false)),(0,.v (.str s)),(4,.v (.int .i64 (ig s 0:Nat))),(25,.v (.int .i64 s.length)),(26,.v (.int .i64 i))],[]⟩)->(∀f,s.all eZ=false->Env.get f.env 2=some (.v (.int .i64 0))->Env.get f.env 3=some (.v (.bool false))->Q .ret f) ->
     jG ν aD gA (.loop axr) t Q ⟨⟩:=by
    intro t Q J K L;refine bQ (λi:Nat=>⟨N [(0,.v (.str s)),(4,.v (.int .i64 (ig (s.take i) 0:Nat))),(25,.v (.int .i64 s.length)),(26,.v (.int .i64 i))],[]⟩)
     (λi=>i<=s.length/\(s.take i).all eZ=true) (λi=>s.length-i) 0 ⟨am,rfl⟩ (J.trans rfl) ?_
    rintro i ⟨al,ar⟩;by_cases h:i<s.length
    ·have u:decide ((i:Int)<(s.length:Int))=true:=decide_eq_true am;have l:s[i]?=some s[i]:=aKQ h;have E:IntKind.i64.wrap ((i:Int)+1)=((i+1:Nat):Int):=by rw[wrap64]<;>omega
     have F:(0:Int)<=i:=by omega
     have V:=PQ ar (by rw[List.length_take];omega);have W:s[i].toNat<256:=UInt8.toNat_lt _;have v:=P4 s[i];have w:=P2 s[i];cases hd:eZ s[i]with
     |true =>
      rw[hd]at v w;have y:48<=s[i].toNat/\s[i].toNat<=57:=by simpa[eZ]using hd
      have O:IntKind.u8.wrap ((s[i].toNat:Int)-48)=((s[i].toNat-48:Nat):Int):=by simp only[IntKind.wrap,IntKind.signed,IntKind.bits];simp;omega
      have P:IntKind.i64.wrap ((s[i].toNat-48:Nat):Int)=((s[i].toNat-48:Nat):Int):=by rw[wrap64]<;>omega
      have R:IntKind.i64.wrap (10*((ig (s.take i) 0:Nat):Int))=((10*ig (s.take i) 0:Nat):Int):=by rw[wrap64]<;>omega
      have S:IntKind.i64.wrap (((10*ig (s.take i) 0:Nat):Int)+((s[i].toNat-48:Nat):Int))=((ig (s.take (i+1)) 0:Nat):Int):=by
       rw[JS l,PO,wrap64]<;>omega
      simp only[go_sem,bd,bb,u,l,E,F,v,w,O,P,R,S];exact⟨i+1,⟨am,by rw[sx l,ar,hd];rfl⟩,am,hR⟩
     |false =>
      rw[hd]at v w;simp only[go_sem,bd,bb,u,l,E,F,v,w];exact L _ (An l hd) jp jp
    ·have u:decide ((i:Int)<(s.length:Int))=false:=decide_eq_false am;rw[aKS am]at ar;simp only[go_sem,bd,bb,u];rw[aKS am];exact K _ ar
   have fin:∀i:Int,s.all eZ=true->jG ν aD gA Jj ⟨N [(27,.v (.bool false)),(0,.v (.str s)),(4,.v (.int .i64 (ig s 0:Nat))),(25,.v (.int .i64 s.length)),(26,.v (.int .i64 i))],[]⟩ (yg λf=>tv f.env PI=some (ix s)) ⟨⟩:=λi h=>by
    unfold Jj;simp only[go_sem,bd,bb,PI,H h]
   by_cases T:s.length>1
   ·have k:decide ((s.length:Int)>1)=true:=decide_eq_true am;have z:((x.toNat:Int)==48)=false:=by
     rw[beq_eq_false_iff_ne];intro X;exact o ⟨UInt8.toNat_inj.1 (by show x.toNat=48;omega),T⟩
    simp only[go_sem,bd,bb,m,g,j,z,k];refine loop _ _ d8 (λi h=>fin i h) (λf h y A=>?_);simp only[go_sem,bd,bb,y,A,PI,C h]
   ·have k:decide ((s.length:Int)>1)=false:=decide_eq_false am;simp only[go_sem,bd,bb,m,g,j,k];refine loop _ _ d8 (λi h=>fin i h) (λf h y A=>?_);simp only[go_sem,bd,bb,y,A,PI,C h]
 ·have j:decide ((s.length:Int)>4)=true:=decide_eq_true am;simp only[go_sem,bd,bb,m,g,j,PI];rw[ix,n,if_neg am];rfl
theorem afS(s:ak):gA 138 [.str s]=some (ix s):=by simp[gA]
theorem aAS(s:ak):gA 137 [.str s]=some (.bool (fw s).isSome):=by simp[gA]
theorem afT(s:ak):gA 96 [.str s]=some (.int .i64 (lk s)):=by simp[gA]
theorem aAT(s:ak):gA 131 [.str s]=some (.bool (eg s)):=by simp[gA]
theorem afU(t:I):gA 95 [t.enc]=some (.int .i64 (jm t)):=by simp[gA,yp]
theorem JX(a b:Nat):gA 94 [.int .i64 a,.int .i64 b]=some (.int .i64 (gg a b)):=by simp[gA]
theorem aAU(a b:ak):gA 97 [.str a,.str b]=some (.int .i64 (du a b)):=by simp[gA]
theorem P6(t u:I):gA 55 [t.enc,u.enc]=some (.int .i64 (b6 t u)):=by simp[gA,yp]
theorem aAV(t u:List I):gA 98 [gT t,gT u]=some (.int .i64 (fh t u)):=by simp[gA,OT]
theorem afV(s:ak):aA ν aD 137 [.str s] (.bool (fw s).isSome):=by
 refine aA.intro (D:=gA) azq rfl rfl ?_;have q:=afS s;have w:=P5 s;unfold acL;unfold ix at q w;simp only[go_sem,bd,bb,q,w,TY]
theorem afW(s:ak):aA ν aD 96 [.str s] (.int .i64 (lk s)):=by
 refine aA.intro (D:=gA) ap4 rfl rfl ?_;have q:=afS s;have w:=P5 s;unfold Yn;unfold ix at q w;simp only[go_sem,bd,bb,q,w,TY,lk]
theorem afX(t:I):aA ν aD 95 [t.enc] (.int .i64 (jm t)):=by
 refine aA.intro (D:=gA) ayW (by simp only[aKR,aKZ,I.arg];rfl) rfl ?_;obtain⟨f,cK⟩:=t;simp only[I.enc,jm,I.args,I.name];have h:=aAS f;have ba:=afV f;have k:=aAT f;have l:=afR f;unfold abq;by_cases i:cK.length>0
 ·have g:decide ((cK.length:Int)>0)=true:=decide_eq_true am;simp only[go_sem,bd,bb,g,gJ,i,TY]
 ·have g:decide ((cK.length:Int)>0)=false:=decide_eq_false am;obtain⟨m,j⟩:∃b,(fw f).isSome=b:=⟨_,rfl⟩;obtain⟨n,en⟩:∃b,eg f=b:=⟨_,rfl⟩;rw[j]at h ba;rw[en]at k l;cases m
  ·cases n<;>simp only[go_sem,bd,bb,g,gJ,i,j,en,h,ba,k,l,TY]
  ·simp only[go_sem,bd,bb,g,gJ,i,j,h,ba,TY]
theorem aAW(a b:ak):aA ν aD 97 [.str a,.str b] (.int .i64 (du a b)):=by
 refine aA.intro (D:=gA) ap5 rfl rfl ?_;have h:=CN a b;have m:Op.bytesLess b a=true\/Op.bytesLess b a=false:=by cases Op.bytesLess b a<;>simp
 have l:Op.bytesLess a b=false->(!(Op.bytesLess a b||a==b))=Op.bytesLess b a:=λk=>by
  have n:=CN b a;have f:du a b=0↔a=b:=mY;rw[h,k]at f;simp only[Bool.false_eq_true,if_false]at f;rw[k,Bool.false_or];cases ae:Op.bytesLess b a with
  |true=>rw[ae]at f;simp at f;simp[f]|false=>rw[ae]at f;simp at f;simp[f]
 unfold Yo;rw[h];cases g:Op.bytesLess a b with
 |true=>simp only[go_sem,bd,bb,g,Yk]|false =>
  have i:=l g;rw[g,Bool.false_or]at i;cases ae:Op.bytesLess b a with
  |true =>
   rw[ae]at i;have j:(a==b)=false:=by simpa using i
   simp only[go_sem,bd,bb,g,j,ae,Yk]
  |false =>
   rw[ae]at i;have j:(a==b)=true:=by simpa using i
   simp only[go_sem,bd,bb,g,j,ae,Yk]
theorem aAX(l m:List I)(h:∀t∈l,∀u,aA ν aD 55 [t.enc,u.enc] (.int .i64 (b6 t u))):aA ν aD 98 [gT l,gT m] (.int .i64 (fh l m)):=by
 refine aA.assume (B:=l.length<=M/\m.length<=M) (λγ vs h=>by cases h with|cons _ _ _ _ h G=>cases G with|cons _ _ _ _ n _=>exact⟨(Ad h).1,(Ad n).1⟩) λae=>?_;have O:M=1099511627776:=rfl;refine aA.intro (D:=gA) ayX rfl rfl ?_;unfold abu;simp only[gT];simp only[go_sem,bd,bb];refine bQ (λi:Nat=>⟨N [(0,.v (.list none 2 (dH l))),(1,.v (.list none 2 (dH m))),(5,.v (.int .i64 i))],[]⟩)
  (λi=>i<=l.length/\i<=m.length/\fh (l.drop i) (m.drop i)=fh l m) (λi=>l.length-i) 0 ⟨am,am,rfl⟩ d8 ?_
 rintro i ⟨al,H,ar⟩;have fin:l.length<=i\/m.length<=i->gA 94 [.int .i64 l.length,.int .i64 m.length]=some (.int .i64 (fh l m))/\aA ν aD 94 [.int .i64 l.length,.int .i64 m.length] (.int .i64 (fh l m)):=λP=>by
  have q:=JX l.length m.length;have w:=JW l.length m.length;rw[<-afy l m i al H,<-afw (l.drop i) (m.drop i) (by simp only[List.length_drop];omega),ar]at q w;exact⟨q,w⟩
 by_cases J:i<l.length
 ·have f:decide ((i:Int)<(l.length:Int))=true:=decide_eq_true am;by_cases n:i<m.length
  ·have g:decide ((i:Int)<(m.length:Int))=true:=decide_eq_true am;have v:l[i]?=some l[i]:=aKQ J;have z:m[i]?=some m[i]:=aKQ n;have o:(dH l)[i]?=some l[i].enc:=by rw[uU,v];rfl
   have r:(dH m)[i]?=some m[i].enc:=by rw[uU,z];rfl
   have A:IntKind.i64.wrap ((i:Int)+1)=((i+1:Nat):Int):=by rw[wrap64]<;>omega
   have C:(0:Int)<=i:=by omega
   have E:(i:Int)<l.length:=by omega
   have F:(i:Int)<m.length:=by omega
   have q:=P6 l[i] m[i];have w:=h l[i] (aK2 _) m[i];have ax:=afx v z;rw[ar]at ax;generalize l[i]=x at *;generalize m[i]=y at *;obtain⟨K,dL⟩:=x;obtain⟨L,a2⟩:=y;simp only[I.enc]at o r q w;generalize b6 (.mk K dL) (.mk L a2)=c at *;by_cases j:c=0
   ·have k:(c != 0)=false:=by simp[j]
    rw[if_pos j]at ax;simp only[go_sem,bd,bb,f,g,o,r,A,C,E,F,q,w,k,gJ];exact⟨i+1,⟨am,am,ax.symm⟩,am,hR⟩
   ·have k:(c != 0)=true:=by simp[j]
    rw[if_neg j]at ax;simp only[go_sem,bd,bb,f,g,o,r,A,C,E,F,q,w,k,gJ,Yk,ax]
  ·have g:decide ((i:Int)<(m.length:Int))=false:=decide_eq_false am;obtain⟨q,w⟩:=fin (.inr am);unfold abt;simp only[go_sem,bd,bb,f,g,gJ,q,w,Yk]
 ·have f:decide ((i:Int)<(l.length:Int))=false:=decide_eq_false am;obtain⟨q,w⟩:=fin (.inl am);unfold abt;simp only[go_sem,bd,bb,f,gJ,q,w,Yk]
theorem aAY(t u:I)(h:aA ν aD 98 [gT t.args,gT u.args] (.int .i64 (fh t.args u.args))):aA ν aD 55 [t.enc,u.enc] (.int .i64 (b6 t u)):=by
 refine aA.intro (D:=gA) ayx (by simp only[aKR,aKZ,I.arg];rfl) rfl ?_;have i:=afU t;have ba:=afX t;have j:=afU u;have k:=afX u;have O:=aAV t.args u.args;have l:=CM t u;obtain⟨n,a⟩:=t;obtain⟨m,b⟩:=u;simp only[I.enc,I.args,I.name,gT]at i ba j k O h l ⊢;generalize b6 (.mk n a) (.mk m b)=R at *;generalize jm (.mk n a)=x at *;generalize jm (.mk m b)=y at *;have o:=JX x y;have r:=JW x y;have P:=afT n;have Q:=afW n;have S:=afT m;have v3:=afW m;have T:=JX (lk n) (lk m);have v4:=JW (lk n) (lk m);have V:=JX a.length b.length;have W:=JW a.length b.length;have F:=aAU n m;have G:=aAW n m;unfold ZS;by_cases v:x=y
 ·have H:gg x y=0:=by rw[v];simp[gg]
  rw[H]at o r;have A:((0:Int) != 0)=false:=rfl;by_cases w:x=0
  ·have z:((x:Int)==0)=true:=by rw[w];rfl
   have f:R=gg (lk n) (lk m):=by rw[l,tM,if_neg (λg=>g v),if_pos w]
   rw[f];simp only[go_sem,bd,bb,i,ba,j,k,o,r,A,z,P,Q,S,v3,T,v4,Yk]
  ·have z:((x:Int)==0)=false:=by rw[beq_eq_false_iff_ne];omega
   by_cases B:a.length=b.length
   ·have C:((a.length:Int) != b.length)=false:=by simp[B]
    have J:∃c,du n m=c:=⟨_,rfl⟩;obtain⟨c,K⟩:=J;rw[K]at F G;by_cases E:c=0
    ·have f:R=fh a b:=by rw[l,K,tM,if_neg (λg=>g v),if_neg w,if_neg (λg=>g B),if_neg (λg=>g E)]
     rw[f];have L:(c != 0)=false:=by simp[E]
     simp only[go_sem,bd,bb,i,ba,j,k,o,r,A,z,C,F,G,L,O,h,gJ,Yk]
    ·have f:R=c:=by rw[l,K,tM,if_neg (λg=>g v),if_neg w,if_neg (λg=>g B),if_pos E]
     rw[f];have L:(c != 0)=true:=by simp[E]
     simp only[go_sem,bd,bb,i,ba,j,k,o,r,A,z,C,F,G,L,gJ,Yk]
   ·have f:R=gg a.length b.length:=by rw[l,tM,if_neg (λg=>g v),if_neg w,if_pos B]
    rw[f];have C:((a.length:Int) != b.length)=true:=by simp;omega
    simp only[go_sem,bd,bb,i,ba,j,k,o,r,A,z,C,V,W,gJ,Yk]
 ·have f:R=gg x y:=by rw[l,tM,if_pos v]
  rw[f];have H:(gg x y != 0)=true:=by
   simp only[gg];by_cases g:x<y
   ·simp[g]
   ·have:y<x:=by omega
    simp[g,this]
  simp only[go_sem,bd,bb,i,ba,j,k,o,r,H,Yk]
mutual
theorem JY:∀(t u:I),aA ν aD 55 [t.enc,u.enc] (.int .i64 (b6 t u))
 |.mk n a,u=>aAY (.mk n a) u (aAX a u.args λt f u=>afY a t f u)
theorem afY:∀(l:List I),∀t∈l,∀u,aA ν aD 55 [t.enc,u.enc] (.int .i64 (b6 t u))
 |[],_,h,_=>by cases h|s::r,t,h,u=>by
  rcases List.mem_cons.1 h with e|h
  ·rw[e];exact JY s u
  ·exact afY r t h u
end
end AM
