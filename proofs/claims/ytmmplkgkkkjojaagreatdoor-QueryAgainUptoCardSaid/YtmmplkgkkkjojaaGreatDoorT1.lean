/- What functions of the given program do, as calls of the machine. Conditions: names and lists are bounded where that is said. -/
import Derived.Test.YtmmplkgkkkjojaaGreatDoorOk
import Derived.Test.YtmmplkgkkkjojaaGreatDoorAm5
set_option linter.unusedSimpArgs false
set_option maxRecDepth 100000
set_option maxHeartbeats 4000000
set_option linter.unusedVariables false
namespace AM
open List renaming getElem?_eq_getElem -> aKB,all_cons -> aKC,take_of_length_le -> aKD,length_map -> aKE,eq_nil_of_length_eq_zero -> aKG
open Bool renaming false_and -> aKF
open Go Go.Proofs
open Tryz renaming prog -> ν
attribute [go_sem] Int.reduceLE Int.reduceLT Int.reduceToNat Int.reduceAdd Int.reduceSub Nat.reduceBEq Nat.reduceAdd Nat.reduceSub Nat.reduceMul Nat.reduceLT Nat.reduceEqDiff reduceCtorEq Nat.reduceLeDiff
attribute [go_sem ↓] reduceIte
variable {p:Prop}
theorem bl(h:p:=by first|rfl|(simp(disch:=first|assumption|omega) only[b7,List.foldr_cons,List.foldr_nil,Env.ins,cp,cq,cr,ct,cu,cv,cw,cx,I.b0,List.length_map,Int.natCast_add,Int.natCast_one,Int.natCast_zero,List.take_zero,bL,List.map_append,List.map_cons,List.map_nil,cy,cz,go_sem];try rfl)):p:=h
theorem hC(h:p:=by first|rfl|(simp only[b7,List.foldr_cons,List.foldr_nil,Env.ins,go_sem];try rfl)):p:=h
theorem aAj(h:p:=by first|(simp only[List.length_set,List.length_append,List.length_cons,List.length_nil,List.length_replicate];done)|(simp only[List.length_set,List.length_append,List.length_cons,List.length_nil,List.length_replicate];omega)):p:=h
theorem aX(h:p:=by first|assumption|omega):p:=h
theorem ai(h:p:=by first|assumption|omega|exact aAj):p:=h
theorem cX(h:p:=by simp only[List.all_cons,List.all_nil,Enc.arg,Bool.and_self]):p:=h
theorem c7(h:p:=by first|rfl|exact Enc.res _):p:=h
variable {q:Prop}
theorem ag  (a:q)(b:p=q:=by simp(disch:=first|exact ai|fail) only[go_sem];rfl):p:=b▸a
theorem ew  (a:p:=by(try simp(disch:=first|exact ai|fail) only[go_sem])<;>(first|rfl|(simp(disch:=first|exact aX|fail) only[b7,List.foldr_cons,List.foldr_nil,Env.ins,cp,cq,cr,ct,cu,cv,cw,cx,I.b0,List.length_map,Int.natCast_add,Int.natCast_one,Int.natCast_zero,List.take_zero,bL,List.map_append,List.map_cons,List.map_nil,cy,cz,go_sem];try rfl))):p:=a
variable {a:Prop}
theorem bU(f:a)(b:q)(c:a->p=q:=by intro f;simp(disch:=first|exact ai|fail) only[go_sem,f];rfl):p:=c f▸b
theorem qn(f:a)(b:a->p:=by intro f;first|rfl|(simp(disch:=first|exact aX|fail) only[b7,List.foldr_cons,List.foldr_nil,Env.ins,cp,cq,cr,ct,cu,cv,cw,cx,I.b0,List.length_map,Int.natCast_add,Int.natCast_one,Int.natCast_zero,List.take_zero,bL,List.map_append,List.map_cons,List.map_nil,cy,cz,go_sem,f];try rfl)):p:=b f
theorem rm(f:a)(b:a->p:=by intro f;(try simp(disch:=first|exact ai|fail) only[go_sem])<;>(exact qn @f)):p:=b f
variable {b:Prop}
theorem gS(f:a)(g:b)(c:q)(d:a->b->p=q:=by intro f g;simp(disch:=first|exact ai|fail) only[go_sem,f,g];rfl):p:=d f g▸c
theorem og(f:a)(g:b)(c:a->b->p:=by intro f g;first|rfl|(simp(disch:=first|exact aX|fail) only[b7,List.foldr_cons,List.foldr_nil,Env.ins,cp,cq,cr,ct,cu,cv,cw,cx,I.b0,List.length_map,Int.natCast_add,Int.natCast_one,Int.natCast_zero,List.take_zero,bL,List.map_append,List.map_cons,List.map_nil,cy,cz,go_sem,f,g];try rfl)):p:=c f g
theorem Ir(f:a)(g:b)(c:a->b->p:=by intro f g;(try simp(disch:=first|exact ai|fail) only[go_sem])<;>(exact og @f @g)):p:=c f g
variable {c:Prop}
theorem iv(f:a)(g:b)(h:c)(d:q)(e:a->b->c->p=q:=by intro f g h;simp(disch:=first|exact ai|fail) only[go_sem,f,g,h];rfl):p:=e f g h▸d
theorem B4(f:a)(g:b)(h:c)(d:a->b->c->p:=by intro f g h;first|rfl|(simp(disch:=first|exact aX|fail) only[b7,List.foldr_cons,List.foldr_nil,Env.ins,cp,cq,cr,ct,cu,cv,cw,cx,I.b0,List.length_map,Int.natCast_add,Int.natCast_one,Int.natCast_zero,List.take_zero,bL,List.map_append,List.map_cons,List.map_nil,cy,cz,go_sem,f,g,h];try rfl)):p:=d f g h
variable {d:Prop}
theorem mb(f:a)(g:b)(h:c)(k:d)(e:q)(i:a->b->c->d->p=q:=by intro f g h k;simp(disch:=first|exact ai|fail) only[go_sem,f,g,h,k];rfl):p:=i f g h k▸e
theorem zN(f:a)(g:b)(h:c)(k:d)(e:a->b->c->d->p:=by intro f g h k;first|rfl|(simp(disch:=first|exact aX|fail) only[b7,List.foldr_cons,List.foldr_nil,Env.ins,cp,cq,cr,ct,cu,cv,cw,cx,I.b0,List.length_map,Int.natCast_add,Int.natCast_one,Int.natCast_zero,List.take_zero,bL,List.map_append,List.map_cons,List.map_nil,cy,cz,go_sem,f,g,h,k];try rfl)):p:=e f g h k
variable {e:Prop}
theorem rp(f:a)(g:b)(h:c)(k:d)(m:e)(i:q)(j:a->b->c->d->e->p=q:=by intro f g h k m;simp(disch:=first|exact ai|fail) only[go_sem,f,g,h,k,m];rfl):p:=j f g h k m▸i
variable {dL:Prop}
theorem oX(f:a)(g:b)(h:c)(k:d)(m:e)(n:dL)(i:q)(j:a->b->c->d->e->dL->p=q:=by intro f g h k m n;simp(disch:=first|exact ai|fail) only[go_sem,f,g,h,k,m,n];rfl):p:=j f g h k m n▸i
variable {a2:Prop}
theorem EG(f:a)(g:b)(h:c)(k:d)(m:e)(n:dL)(u:a2)(i:q)(j:a->b->c->d->e->dL->a2->p=q:=by intro f g h k m n u;simp(disch:=first|exact ai|fail) only[go_sem,f,g,h,k,m,n,u];rfl):p:=j f g h k m n u▸i
theorem Is{a3:Prop}(f:a)(g:b)(h:c)(k:d)(m:e)(n:dL)(u:a2)(v:a3)(i:q)(j:a->b->c->d->e->dL->a2->a3->p=q:=by intro f g h k m n u v;simp(disch:=first|exact ai|fail) only[go_sem,f,g,h,k,m,n,u,v];rfl):p:=j f g h k m n u v▸i
attribute [go_sem] Um Yk Yq Yr Yy YJ YL Zc tG uW aaj aal abE ade CJ Uk VX VY Wg Wi Wu Ww Wx Ye Yf Yg Yh Yl Yn YA CB YM YD YT YE YF YG YV YP Y4 Y7 Za YQ YW Ze Zf Zj Zk Zd Zi Zn Zu Zx Zy Zz ZG ZO ZP ZC ZI ZS ZT ZU ZX Z0 Z5 Z9 Z3 Z6 aaf Z7 aak aac aam aap aaq aaA aaB aaF aaG aaQ aaH aaI aaJ aa0 aaK abG abI yv aaM Aj aaN aaO Pv aaT acv acy aa1 aa8 abb abi abl adN abp abq aeB aeE aeH abr abt abw abz abV abY ab3 ab4 ab5 aca acC
def PR(p:Nat×Nat):AV:=.agg [.int .u8 p.1,.int .u8 p.2]
def h3(f:Nat)(xs:List AV):Option AV :=
 if f=127 then(match xs with|[.int .u8 c,.list none 2 [.agg [.int .u8 a,.int .u8 b]]]=>some (.bool (hs (UInt8.ofNat c.toNat) [(a.toNat,b.toNat)]))|[.int .u8 c,.list none 2 [.agg [.int .u8 a,.int .u8 b],.agg [.int .u8 cN,.int .u8 b5],.agg [.int .u8 kU,.int .u8 lG]]]=>some (.bool (hs (UInt8.ofNat c.toNat) [(a.toNat,b.toNat),(cN.toNat,b5.toNat),(kU.toNat,lG.toNat)]))|_=>none)
 else if f=89 then(match xs with|[.str s,.agg [.int .u8 a,.int .u8 b,.int .u8 cN,.int .u8 b5,.int .u8 kU,.int .u8 lG]]=>some (.bool (nE s (a.toNat,b.toNat) (cN.toNat,b5.toNat) (kU.toNat,lG.toNat)))|_=>none)
 else if f=47 then(match xs with|[.str s]=>some (.bool (dM s))|_=>none)
 else if f=107 then(match xs with|[.str s]=>some (.bool (eg s))|_=>none)
 else if f=150 then(match xs with|[.str s]=>some (ix s)|_=>none)
 else if f=126 then(match xs with|[.str s]=>some (.bool (fw s).isSome)|_=>none)
 else if f=88 then(match xs with|[x,.int .i64 n,.bool v]=>(pN x).map λt=>.bool (cD n.toNat t v)|_=>none)
 else if f=46 then(match xs with|[x]=>(pN x).map λt=>.bool (cD 4 t true)|_=>none)
 else if f=56 then(match xs with|[x]=>(pN x).map λt=>.bool (cD 4 t false)|_=>none)
 else none
theorem afz(c:UInt8)(l:List (Nat×Nat))(y:l.length<100):aA ν aD 127 [.int .u8 c.toNat,.list none 2 (l.map PR)] (.bool (hs c l)):=by
 refine aA.intro (D:=h3) PM rfl rfl ?_;unfold JO;simp only[go_sem,bd,bb,aKE];refine bQ (λi:Nat=>⟨N [(0,.v (.int .u8 c.toNat)),(7,.v (.list none 2 (l.map PR))),(8,.v (.int .i64 l.length)),(9,.v (.int .i64 i))],[]⟩)
  (λi=>i<=l.length/\hs c (l.take i)=false) (λi=>l.length-i) 0 ⟨am,ly⟩ el ?_
 rintro i ⟨al,ar⟩;by_cases h:i<l.length
 ·have f:decide ((i:Int)<(l.length:Int))=true:=decide_eq_true am;have j:(l.map PR)[i]?=some (.agg [.int .u8 l[i].1,.int .u8 l[i].2]):=by rw[List.getElem?_map,aKB h];rfl
  have k:IntKind.i64.wrap ((i:Int)+1)=((i+1:Nat):Int):=by rw[wrap64]<;>omega
  have m:(0:Int)<=i:=by omega
  have n:(i:Int)<l.length:=by omega
  have o:hs c (l.take (i+1))=(hs c (l.take i)||(decide (l[i].1<=c.toNat)&&decide (c.toNat<=l[i].2))):=by
   simp only[hs,List.take_add_one,aKB h,Option.toList_some,List.any_append,List.any_cons,List.any_nil,Bool.or_false]
  have v:∀b,hs c (l.take (i+1))=b->b=true->hs c l=true:=λb ae w=>by
   subst w;have:=ae;simp only[hs,List.any_eq_true]at this ⊢;obtain⟨x,ah,r⟩:=this;exact⟨x,List.mem_of_mem_take ah,r⟩
  by_cases t:l[i].1<=c.toNat
  ·have g:decide ((c.toNat:Int)>=(l[i].1:Int))=true:=decide_eq_true am;by_cases u:c.toNat<=l[i].2
   ·have s:decide ((c.toNat:Int)<=(l[i].2:Int))=true:=decide_eq_true am;simp only[go_sem,bd,bb,f,j,k,m,n,g,s,aKE,Yk];rw[v _ o (by simp[t,u])]
   ·have s:decide ((c.toNat:Int)<=(l[i].2:Int))=false:=decide_eq_false am;simp only[go_sem,bd,bb,f,j,k,m,n,g,s,aKE];exact⟨i+1,⟨am,by rw[o,ar];simp[u]⟩,am,ly⟩
  ·have g:decide ((c.toNat:Int)>=(l[i].1:Int))=false:=decide_eq_false am;simp only[go_sem,bd,bb,f,j,k,m,n,g,aKE];exact⟨i+1,⟨am,by rw[o,ar];simp[t]⟩,am,ly⟩
 ·have f:decide ((i:Int)<(l.length:Int))=false:=decide_eq_false am;unfold acq;simp only[go_sem,bd,bb,f,Yk];rw[aKD am]at ar;rw[ar]
theorem aAl(c:UInt8)(a b:Nat):h3 127 [.int .u8 c.toNat,.list none 2 [.agg [.int .u8 a,.int .u8 b]]]=some (.bool (hs c [(a,b)])):=by
 simp[h3]
theorem aAm(c:UInt8)(a b f g h i:Nat):h3 127 [.int .u8 c.toNat,.list none 2 [.agg [.int .u8 a,.int .u8 b],.agg [.int .u8 f,.int .u8 g],.agg [.int .u8 h,.int .u8 i]]]=some (.bool (hs c [(a,b),(f,g),(h,i)])):=by
 simp[h3]
theorem afA(s:ak)(a b f g j k:Nat):aA ν aD 89 [.str s,.agg [.int .u8 a,.int .u8 b,.int .u8 f,.int .u8 g,.int .u8 j,.int .u8 k]] (.bool (nE s (a,b) (f,g) (j,k))):=by
 refine aA.intro (D:=h3) FL rfl rfl ?_;unfold CF;by_cases B:s.length=0
 ·have m:decide ((s.length:Int)<1)=true:=decide_eq_true am;simp only[go_sem,bd,bb,m,Yk];rw[aKG B];simp only[nE]
 obtain⟨x,r,ah⟩:∃x r,s=x::r:=by cases s with|nil=>simp at B|cons x r=>exact⟨x,r,rfl⟩
 have C:s[0]?=some x:=by rw[ah];rfl
 have l:nE s (a,b) (f,g) (j,k)=(decide (s.length<=16)&&hs x [(a,b)]&&s.all λy=>hs y [(a,b),(f,g),(j,k)]):=by rw[ah];simp only[nE]
 clear ah;have m:decide ((s.length:Int)<1)=false:=decide_eq_false am;by_cases E:s.length<=16
 ·have n:decide ((s.length:Int)>16)=false:=decide_eq_false am;have o:=aAl x a b;have ba:aA ν aD 127 [.int .u8 x.toNat,.list none 2 [.agg [.int .u8 a,.int .u8 b]]] (.bool (hs x [(a,b)])):=afz x [(a,b)] be;rw[decide_eq_true E,Bool.true_and]at l;cases t:hs x [(a,b)]with
  |false =>
   rw[t]at o ba;rw[t,aKF]at l;simp only[go_sem,bd,bb,C,m,n,o,ba,Yk];rw[l]
  |true =>
   rw[t]at o ba;rw[t,Bool.true_and]at l;simp only[go_sem,bd,bb,C,m,n,o,ba];refine bQ (λi:Nat=>⟨N [(0,.v (.str s)),(3,.v (.cL [.int .u8 a,.int .u8 b,.int .u8 f,.int .u8 g,.int .u8 j,.int .u8 k])),(5,.v (.int .i64 i))],[]⟩)
    (λi=>i<=s.length/\(s.take i).all (λy=>hs y [(a,b),(f,g),(j,k)])=true) (λi=>s.length-i) 0 ⟨am,ly⟩ el ?_
   rintro i ⟨al,ar⟩;by_cases h:i<s.length
   ·have u:decide ((i:Int)<(s.length:Int))=true:=decide_eq_true am;have v:s[i]?=some s[i]:=aKB h;have F:IntKind.i64.wrap ((i:Int)+1)=((i+1:Nat):Int):=by rw[wrap64]<;>omega
    have G:(0:Int)<=i:=by omega
    have w:=aAm s[i] a b f g j k;have z:aA ν aD 127 [.int .u8 s[i].toNat,.list none 2 [.agg [.int .u8 a,.int .u8 b],.agg [.int .u8 f,.int .u8 g],.agg [.int .u8 j,.int .u8 k]]] (.bool (hs s[i] [(a,b),(f,g),(j,k)])):=afz s[i] [(a,b),(f,g),(j,k)] be;cases A:hs s[i] [(a,b),(f,g),(j,k)]with
    |false =>
     rw[A]at w z;simp only[go_sem,bd,bb,u,v,F,G,w,z,Yk];rw[l,An v A]
    |true =>
     rw[A]at w z;simp only[go_sem,bd,bb,u,v,F,G,w,z];exact⟨i+1,⟨am,by rw[sx v,ar,A];rfl⟩,am,ly⟩
   ·have u:decide ((i:Int)<(s.length:Int))=false:=decide_eq_false am;unfold abf;simp only[go_sem,bd,bb,u,Yk];rw[aKD am]at ar;rw[l,ar]
 ·have n:decide ((s.length:Int)>16)=true:=decide_eq_true am;simp only[go_sem,bd,bb,m,n,Yk];rw[l,decide_eq_false E,aKF,aKF]
theorem afB(s:ak)(a b f g h i:Nat):h3 89 [.str s,.agg [.int .u8 a,.int .u8 b,.int .u8 f,.int .u8 g,.int .u8 h,.int .u8 i]]=some (.bool (nE s (a,b) (f,g) (h,i))):=by
 simp[h3]
theorem PT(s:ak):aA ν aD 107 [.str s] (.bool (eg s)):=by
 refine aA.intro (D:=h3) ay1 rfl rfl ?_;have q:h3 89 [.str s,.agg [.int .u8 65,.int .u8 90,.int .u8 97,.int .u8 122,.int .u8 48,.int .u8 57]]=_:=afB s 65 90 97 122 48 57;have w:aA ν aD 89 [.str s,.agg [.int .u8 65,.int .u8 90,.int .u8 97,.int .u8 122,.int .u8 48,.int .u8 57]] _:=afA s 65 90 97 122 48 57;unfold abL;simp only[go_sem,bd,bb,q,w,YL,eg]
theorem afC(s:ak):aA ν aD 47 [.str s] (.bool (dM s)):=by
 refine aA.intro (D:=h3) ae7 rfl rfl ?_;have q:h3 89 [.str s,.agg [.int .u8 97,.int .u8 122,.int .u8 48,.int .u8 57,.int .u8 45,.int .u8 45]]=_:=afB s 97 122 48 57 45 45;have w:aA ν aD 89 [.str s,.agg [.int .u8 97,.int .u8 122,.int .u8 48,.int .u8 57,.int .u8 45,.int .u8 45]] _:=afA s 97 122 48 57 45 45;unfold Pe;unfold dM;generalize nE s (97,122) (48,57) (45,45)=b at q w;cases b
 ·simp only[go_sem,bd,bb,q,w,YL]
 ·cases f:s==[105,102]
  ·cases g:s==[97,110,100]<;>simp only[go_sem,bd,bb,q,w,f,g,YL]
  ·simp only[go_sem,bd,bb,q,w,f,YL]
theorem afD(s:ak):h3 150 [.str s]=some (ix s):=by simp[h3]
theorem PU(s:ak):aA ν aD 150 [.str s] (ix s):=by
 refine aA.intro (D:=h3) azA rfl rfl ?_;unfold ac8;by_cases F:s.length=0
 ·have j:decide ((s.length:Int)<1)=true:=decide_eq_true am;simp only[go_sem,bd,bb,j,Yr];rw[aKG F];rfl
 obtain⟨x,r,ah⟩:∃x r,s=x::r:=by cases s with|nil=>simp at F|cons x r=>exact⟨x,r,rfl⟩
 have u:s[0]?=some x:=by rw[ah];rfl
 have j:decide ((s.length:Int)<1)=false:=decide_eq_false am;have v:fw s=if s.length<=4/\¬(x=48/\s.length>1)/\s.all eZ=true then some (ig s 0)else none:=by
  rw[ah];have:(r≠[])↔(x::r).length>1:=by cases r<;>simp
  simp only[fw,this]
 clear ah;by_cases G:s.length<=4
 ·have n:decide ((s.length:Int)>4)=false:=decide_eq_false am;by_cases w:x=48/\s.length>1
  ·have K:((x.toNat:Int)==48)=true:=by rw[w.1];rfl
   have L:decide ((s.length:Int)>1)=true:=decide_eq_true am;simp only[go_sem,bd,bb,u,j,n,K,L,Yr];rw[ix,v,if_neg (by simp[w])];rfl
  ·have start:∀b,(((x.toNat:Int)==48)=b)->decide ((s.length:Int)>1)=false\/b=false:=λb ae=>by
    by_cases O:s.length>1
    ·right;rw[<-ae];by_cases o:(x.toNat:Int)=48
     ·exact absurd ⟨UInt8.toNat_inj.1 (by show x.toNat=48;omega),O⟩ w
     ·simpa using o
    ·left;exact decide_eq_false am
   have P:s.all eZ=true->ix s=.bg [.int .i64 (ig s 0:Nat),.bool true]:=λh=>CL (by rw[v,if_pos ⟨G,w,h⟩]);have H:s.all eZ=false->ix s=.bg [.int .i64 0,.bool false]:=λh=>CK (by rw[v,if_neg (by rw[h];simp)]);have loop:∀(y:au)Q,(({ y with env:=y.env.close [2,3,23,27,39] }:au)=⟨N [(0,.v (.str s)),(4,.v (.int .i64 0)),(5,.v (.int .i64 0))],[]⟩)->(∀i:Int,s.all eZ=true->Q (.exit 0) ⟨N [(27,.v (.bool false)),(0,.v (.str s)),(4,.v (.int .i64 (ig s 0:Nat))),(5,.v (.int .i64 i))],[]⟩)->(∀f,s.all eZ=false->Env.get f.env 2=some (.v (.int .i64 0))->Env.get f.env 3=some (.v (.bool false))->Q .ret f) ->
     jG ν aD h3 (.loop aaX) y Q ⟨⟩:=by
    intro y Q R S J;refine bQ (λi:Nat=>⟨N [(0,.v (.str s)),(4,.v (.int .i64 (ig (s.take i) 0:Nat))),(5,.v (.int .i64 i))],[]⟩)
     (λi=>i<=s.length/\(s.take i).all eZ=true) (λi=>s.length-i) 0 ⟨am,rfl⟩ (R.trans rfl) ?_
    rintro i ⟨al,ar⟩;by_cases h:i<s.length
    ·have t:decide ((i:Int)<(s.length:Int))=true:=decide_eq_true am;have g:s[i]?=some s[i]:=aKB h;have A:IntKind.i64.wrap ((i:Int)+1)=((i+1:Nat):Int):=by rw[wrap64]<;>omega
     have B:(0:Int)<=i:=by omega
     have Y:=PQ ar (by rw[List.length_take];omega);have Z:s[i].toNat<256:=UInt8.toNat_lt _;by_cases l:48<=s[i].toNat
     ·have z:decide ((s[i].toNat:Int)<48)=false:=decide_eq_false am;by_cases m:s[i].toNat<=57
      ·have C:decide ((s[i].toNat:Int)>57)=false:=decide_eq_false am;have T:IntKind.u8.wrap ((s[i].toNat:Int)-48)=((s[i].toNat-48:Nat):Int):=by simp only[IntKind.wrap,IntKind.signed,IntKind.bits];simp;omega
       have V:IntKind.i64.wrap ((s[i].toNat-48:Nat):Int)=((s[i].toNat-48:Nat):Int):=by rw[wrap64]<;>omega
       have W:IntKind.i64.wrap (10*((ig (s.take i) 0:Nat):Int))=((10*ig (s.take i) 0:Nat):Int):=by rw[wrap64]<;>omega
       have X:IntKind.i64.wrap (((10*ig (s.take i) 0:Nat):Int)+((s[i].toNat-48:Nat):Int))=((ig (s.take (i+1)) 0:Nat):Int):=by
        rw[JS g,PO,wrap64]<;>omega
       have hd:eZ s[i]=true:=by simp[eZ,l,m]
       simp only[go_sem,bd,bb,t,g,A,B,z,C,T,V,W,X];exact⟨i+1,⟨am,by rw[sx g,ar,hd];rfl⟩,am,ly⟩
      ·have C:decide ((s[i].toNat:Int)>57)=true:=decide_eq_true am;have hd:eZ s[i]=false:=by simp[eZ,m]
       simp only[go_sem,bd,bb,t,g,A,B,z,C];exact J _ (An g hd) n8 n8
     ·have z:decide ((s[i].toNat:Int)<48)=true:=decide_eq_true am;have hd:eZ s[i]=false:=by simp[eZ,l]
      simp only[go_sem,bd,bb,t,g,A,B,z];exact J _ (An g hd) n8 n8
    ·have t:decide ((i:Int)<(s.length:Int))=false:=decide_eq_false am;rw[aKD am]at ar;simp only[go_sem,bd,bb,t];rw[aKD am];exact S _ ar
   have fin:∀i:Int,s.all eZ=true->jG ν aD h3 Lw ⟨N [(27,.v (.bool false)),(0,.v (.str s)),(4,.v (.int .i64 (ig s 0:Nat))),(5,.v (.int .i64 i))],[]⟩ (yg λf=>tv f.env Yr=some (ix s)) ⟨⟩:=λi h=>by
    have k:decide (((ig s 0:Nat):Int)<=9999)=true:=decide_eq_true (by have:=PQ h G;omega);unfold Lw;simp only[go_sem,bd,bb,k,Yr,P h]
   cases o:((x.toNat:Int)==48)with
   |false =>
    simp only[go_sem,bd,bb,u,j,n,o];refine loop _ _ el (λi h=>fin i h) (λf h l m=>?_);simp only[go_sem,bd,bb,l,m,Yr,H h]
   |true =>
    rcases start _ o with E|E
    ·simp only[go_sem,bd,bb,u,j,n,o,E];refine loop _ _ el (λi h=>fin i h) (λf h l m=>?_);simp only[go_sem,bd,bb,l,m,Yr,H h]
    ·cases E
 ·have n:decide ((s.length:Int)>4)=true:=decide_eq_true am;simp only[go_sem,bd,bb,u,j,n,Yr];rw[ix,v,if_neg am];rfl
theorem aAn(s:ak):aA ν aD 126 [.str s] (.bool (fw s).isSome):=by
 refine aA.intro (D:=h3) azh rfl rfl ?_;have q:=afD s;have w:=PU s;unfold aco;unfold ix at q w;simp only[go_sem,bd,bb,q,w,YL]
theorem aAo(s:ak):h3 47 [.str s]=some (.bool (dM s)):=by simp[h3]
theorem afE(s:ak):h3 107 [.str s]=some (.bool (eg s)):=by simp[h3]
theorem aAp(s:ak):h3 126 [.str s]=some (.bool (fw s).isSome):=by simp[h3]
theorem PW(t:I)(n:Nat)(v:Bool):h3 88 [t.enc,.int .i64 n,.bool v]=some (.bool (cD n t v)):=by simp[h3,yp]
theorem PX:∀(n:Nat)(t:I)(v:Bool),n<=1000->aA ν aD 88 [t.enc,.int .i64 n,.bool v] (.bool (cD n t v))
 |0,.mk f cK,v,_=>by
  refine aA.intro (D:=h3) yy (by rw[aKC,I.arg];rfl) rfl ?_;simp only[I.enc];unfold wP;have g:decide (((0:Nat):Int)<1)=true:=by decide
  simp only[go_sem,bd,bb,g,Um,cD]
 |n+1,.mk f cK,v,T=>by
  refine aA.assume (B:=(I.mk f cK).eS) (λγ vs h=>by cases h with|cons _ _ _ _ h _=>exact I.lj h) λae=>?_;simp only[I.eS]at ae;have V:=ae.2.1;have W:M=1099511627776:=rfl;refine aA.intro (D:=h3) yy (by rw[aKC,I.arg];rfl) rfl ?_;simp only[I.enc];unfold wP;have g:decide (((n+1:Nat):Int)<1)=false:=decide_eq_false am;have j:=aAo f;have H:=afC f;have s:=aAp f;have w:=aAn f;have y:=afE f;have z:=PT f;by_cases J:cK.length<=4
  ·have m:decide ((cK.length:Int)>4)=false:=decide_eq_false am;by_cases A:cK.length=0
   ·have C:((cK.length:Int)==0)=true:=by rw[A];rfl
    have E:cD (n+1) (.mk f cK) v=(dM f||(fw f).isSome||(v&&eg f)):=by simp[cD,I.args,I.name,A]
    rw[E];generalize dM f=Q at *;generalize (fw f).isSome=en at *;generalize eg f=lD at *;simp only[go_sem,bd,bb,g,m,C,j,H,gJ];cases Q
    ·simp only[go_sem,bd,bb,s,w];cases en
     ·simp only[go_sem,bd,bb];cases v
      ·simp only[go_sem,bd,bb,Um]
      ·simp only[go_sem,bd,bb,y,z,Um]
     ·simp only[go_sem,bd,bb,Um]
    ·simp only[go_sem,bd,bb,Um]
   ·have C:((cK.length:Int)==0)=false:=by rw[beq_eq_false_iff_ne];omega
    have E:cD (n+1) (.mk f cK) v=(cK.all (λu=>cD n u v)&&dM f):=by simp[cD,I.args,I.name,J,A]
    rw[E];simp only[go_sem,bd,bb,g,m,C,gJ];refine bQ (λi:Nat=>⟨N [(1,.v (.int .i64 (n+1:Nat))),(2,.v (.bool v)),(3,.v (.cL [.str f,.list none 2 (dH cK)])),(38,.v (.list none 2 (dH cK))),(39,.v (.int .i64 cK.length)),(40,.v (.int .i64 i))],[]⟩)
     (λi=>i<=cK.length/\(cK.take i).all (λu=>cD n u v)=true) (λi=>cK.length-i) 0 ⟨am,ly⟩ el ?_
    rintro i ⟨al,ar⟩;by_cases h:i<cK.length
    ·have o:decide ((i:Int)<(cK.length:Int))=true:=decide_eq_true am;have F:cK[i]?=some cK[i]:=aKB h;have G:(dH cK)[i]?=some cK[i].enc:=by rw[uU,F];rfl
     have K:IntKind.i64.wrap ((i:Int)+1)=((i+1:Nat):Int):=by rw[wrap64]<;>omega
     have L:(0:Int)<=i:=by omega
     have O:(i:Int)<cK.length:=by omega
     have P:IntKind.i64.wrap (((n+1:Nat):Int)-1)=(n:Int):=by rw[wrap64]<;>omega
     have k:=PW cK[i] n v;have l:=PX n cK[i] v am;generalize ah:cK[i]=x at *;obtain⟨R,S⟩:=x;simp only[I.enc]at G k l;cases r:cD n (.mk R S) v with
     |false =>
      rw[r]at k l;simp only[go_sem,bd,bb,o,G,K,L,O,P,k,l,gJ,Um];rw[An F r,aKF]
     |true =>
      rw[r]at k l;simp only[go_sem,bd,bb,o,G,K,L,O,P,k,l,gJ];exact⟨i+1,⟨am,by rw[sx F,ar,r];rfl⟩,am,ly⟩
    ·have o:decide ((i:Int)<(cK.length:Int))=false:=decide_eq_false am;rw[aKD am]at ar;unfold aaL;simp only[go_sem,bd,bb,o,j,H,Um];rw[ar,Bool.true_and]
  ·have m:decide ((cK.length:Int)>4)=true:=decide_eq_true am;simp only[go_sem,bd,bb,g,m,gJ,Um];simp[cD,I.args,J]
theorem aAu(t:I):aA ν aD 46 [t.enc] (.bool (cD 4 t true)):=by
 refine aA.intro (D:=h3) ayt (by rw[aKC,I.arg];rfl) rfl ?_;have q:h3 88 [t.enc,.int .i64 4,.bool true]=_:=PW t 4 true;have w:aA ν aD 88 [t.enc,.int .i64 4,.bool true] _:=PX 4 t true dw;obtain⟨f,cK⟩:=t;simp only[I.enc]at q w ⊢;unfold ZH;simp only[go_sem,bd,bb,q,w,YL]
theorem aAv(t:I):aA ν aD 56 [t.enc] (.bool (cD 4 t false)):=by
 refine aA.intro (D:=h3) ayy (by rw[aKC,I.arg];rfl) rfl ?_;have q:h3 88 [t.enc,.int .i64 4,.bool false]=_:=PW t 4 false;have w:aA ν aD 88 [t.enc,.int .i64 4,.bool false] _:=PX 4 t false dw;obtain⟨f,cK⟩:=t;simp only[I.enc]at q w ⊢;unfold ZV;simp only[go_sem,bd,bb,q,w,YL]
def kF(f:Nat)(xs:List AV):Option AV :=
 if f=168 then(match xs with|[x]=>(pN x).map λt=>yz (h2 t)|_=>none)
 else if f=122 then(match xs with|[.int .i64 a,.int .i64 b]=>some (.int .i64 (gg a.toNat b.toNat))|_=>none)
 else if f=169 then(match xs with|[.str a,.str b]=>some (.int .i64 (du a b))|_=>none)
 else if f=205 then(match xs with|[.str a,.str b]=>some (.int .i64 (du a b))|_=>none)
 else if f=121 then(match xs with|[x,y]=>(match pN x,pN y with|some t,some u=>some (.int .i64 (b6 t u))|_,_=>none)|_=>none)
 else if f=85 then(match xs with|[x,y]=>(match Ae x,Ae y with|some t,some u=>some (.int .i64 (fh t u))|_,_=>none)|_=>none)
 else h3 f xs
theorem aAw(s:ak):kF 150 [.str s]=some (ix s):=by simp[kF,afD]
theorem aAx(s:ak):kF 107 [.str s]=some (.bool (eg s)):=by simp[kF,afE]
theorem afG(t:I):kF 168 [t.enc]=some (yz (h2 t)):=by simp[kF,yp]
theorem JU(a b:Nat):kF 122 [.int .i64 a,.int .i64 b]=some (.int .i64 (gg a b)):=by simp[kF]
theorem aAy(a b:ak):kF 169 [.str a,.str b]=some (.int .i64 (du a b)):=by simp[kF]
theorem aAz(a b:ak):kF 205 [.str a,.str b]=some (.int .i64 (du a b)):=by simp[kF]
theorem aAA(t u:I):kF 121 [t.enc,u.enc]=some (.int .i64 (b6 t u)):=by simp[kF,yp]
theorem aAB(t u:List I):kF 85 [gT t,gT u]=some (.int .i64 (fh t u)):=by simp[kF,OT]
theorem JV(a b:Nat):aA ν aD 122 [.int .i64 a,.int .i64 b] (.int .i64 (gg a b)):=by
 refine aA.intro (D:=kF) azd rfl rfl ?_;unfold acj;by_cases g:a<b
 ·have f:decide ((a:Int)<b)=true:=decide_eq_true am;simp only[go_sem,bd,bb,f,Yk,gg,g]
 ·have f:decide ((a:Int)<b)=false:=decide_eq_false am;by_cases i:b<a
  ·have h:decide ((a:Int)>b)=true:=decide_eq_true am;simp only[go_sem,bd,bb,f,h,Yk,gg,g,i]
  ·have h:decide ((a:Int)>b)=false:=decide_eq_false am;simp only[go_sem,bd,bb,f,h,Yk,gg,g,i]
theorem aAC(a b:ak):aA ν aD 205 [.str a,.str b] (.int .i64 (du a b)):=by
 refine aA.intro (D:=kF) aqj rfl rfl ?_;unfold abv;simp only[go_sem,bd,bb,Yk]
theorem afH(a b:ak):aA ν aD 169 [.str a,.str b] (.int .i64 (du a b)):=by
 refine aA.intro (D:=kF) azM rfl rfl ?_;have q:=aAz a b;have w:=aAC a b;unfold adE;simp only[go_sem,bd,bb,q,w,Yk]
theorem afI(t:I):aA ν aD 168 [t.enc] (yz (h2 t)):=by
 refine aA.intro (D:=kF) azL (by rw[aKC,I.arg];rfl) rfl ?_;obtain⟨f,cK⟩:=t;simp only[I.enc];unfold adC;by_cases i:cK.length>0
 ·have g:decide ((cK.length:Int)>0)=true:=decide_eq_true am;have hk:h2 (.mk f cK)=(3,0,cK.length,f):=by simp[h2,I.args,I.name,i]
  simp only[go_sem,bd,bb,g,gJ,hk,yz,CJ]
 ·have g:decide ((cK.length:Int)>0)=false:=decide_eq_false am;have q:=aAw f;have w:=PU f;cases h:fw f with
  |some n =>
   have hk:h2 (.mk f cK)=(0,n,0,[]):=by simp[h2,I.args,I.name,i,h]
   rw[CL h]at q w;simp only[go_sem,bd,bb,g,gJ,hk,q,w,yz,CJ]
  |none =>
   rw[CK h]at q w;have j:=aAx f;have k:=PT f;cases l:eg f with
   |true =>
    have hk:h2 (.mk f cK)=(2,0,0,f):=by simp[h2,I.args,I.name,i,h,l]
    rw[l]at j k;simp only[go_sem,bd,bb,g,gJ,hk,q,w,j,k,yz,CJ]
   |false =>
    have hk:h2 (.mk f cK)=(1,0,0,f):=by simp[h2,I.args,I.name,i,h,l]
    rw[l]at j k;simp only[go_sem,bd,bb,g,gJ,hk,q,w,j,k,yz,CJ]
theorem aAD(l m:List I)(h:∀t∈l,∀u,aA ν aD 121 [t.enc,u.enc] (.int .i64 (b6 t u))):aA ν aD 85 [gT l,gT m] (.int .i64 (fh l m)):=by
 refine aA.assume (B:=l.length<=M/\m.length<=M) (λγ vs h=>by cases h with|cons _ _ _ _ h F=>cases F with|cons _ _ _ _ n _=>exact⟨(Ad h).1,(Ad n).1⟩) λae=>?_;have L:M=1099511627776:=rfl;refine aA.intro (D:=kF) ayR rfl rfl ?_;unfold aa6;simp only[gT];simp only[go_sem,bd,bb];refine bQ (λi:Nat=>⟨N [(0,.v (.list none 2 (dH l))),(1,.v (.list none 2 (dH m))),(5,.v (.int .i64 i))],[]⟩)
  (λi=>i<=l.length/\i<=m.length/\fh (l.drop i) (m.drop i)=fh l m) (λi=>l.length-i) 0 ⟨am,am,rfl⟩ el ?_
 rintro i ⟨al,G,ar⟩;have fin:l.length<=i\/m.length<=i->kF 122 [.int .i64 l.length,.int .i64 m.length]=some (.int .i64 (fh l m))/\aA ν aD 122 [.int .i64 l.length,.int .i64 m.length] (.int .i64 (fh l m)):=λO=>by
  have q:=JU l.length m.length;have w:=JV l.length m.length;rw[<-afy l m i al G,<-afw (l.drop i) (m.drop i) (by simp only[List.length_drop];omega),ar]at q w;exact⟨q,w⟩
 by_cases H:i<l.length
 ·have f:decide ((i:Int)<(l.length:Int))=true:=decide_eq_true am;by_cases n:i<m.length
  ·have g:decide ((i:Int)<(m.length:Int))=true:=decide_eq_true am;have s:l[i]?=some l[i]:=aKB H;have v:m[i]?=some m[i]:=aKB n;have o:(dH l)[i]?=some l[i].enc:=by rw[uU,s];rfl
   have r:(dH m)[i]?=some m[i].enc:=by rw[uU,v];rfl
   have z:IntKind.i64.wrap ((i:Int)+1)=((i+1:Nat):Int):=by rw[wrap64]<;>omega
   have A:(0:Int)<=i:=by omega
   have C:(i:Int)<l.length:=by omega
   have E:(i:Int)<m.length:=by omega
   have q:=aAA l[i] m[i];have w:=h l[i] (List.getElem_mem _) m[i];have ax:=afx s v;rw[ar]at ax;generalize l[i]=x at *;generalize m[i]=y at *;obtain⟨J,dL⟩:=x;obtain⟨K,a2⟩:=y;simp only[I.enc]at o r q w;generalize b6 (.mk J dL) (.mk K a2)=c at *;by_cases j:c=0
   ·have k:(c != 0)=false:=by simp[j]
    rw[if_pos j]at ax;simp only[go_sem,bd,bb,f,g,o,r,z,A,C,E,q,w,k,gJ];exact⟨i+1,⟨am,am,ax.symm⟩,am,ly⟩
   ·have k:(c != 0)=true:=by simp[j]
    rw[if_neg j]at ax;simp only[go_sem,bd,bb,f,g,o,r,z,A,C,E,q,w,k,gJ,Yk,ax]
  ·have g:decide ((i:Int)<(m.length:Int))=false:=decide_eq_false am;obtain⟨q,w⟩:=fin (.inr am);unfold aa5;simp only[go_sem,bd,bb,f,g,gJ,q,w,Yk]
 ·have f:decide ((i:Int)<(l.length:Int))=false:=decide_eq_false am;obtain⟨q,w⟩:=fin (.inl am);unfold aa5;simp only[go_sem,bd,bb,f,gJ,q,w,Yk]
theorem aAE(t u:I)(h:aA ν aD 85 [gT t.args,gT u.args] (.int .i64 (fh t.args u.args))):aA ν aD 121 [t.enc,u.enc] (.int .i64 (b6 t u)):=by
 refine aA.intro (D:=kF) azc (by simp only[aKC,List.all_nil,I.arg];rfl) rfl ?_;have r:=afG t;have ba:=afI t;have s:=afG u;have v:=afI u;have J:=aAB t.args u.args;have K:=afv t u;rw[K];clear K;generalize h2 t=x at *;generalize h2 u=y at *;obtain⟨g,i,j,w⟩:=x;obtain⟨k,l,o,z⟩:=y;have L:=JU g k;have O:=JV g k;have P:=JU i l;have Q:=JV i l;have R:=JU j o;have v3:=JV j o;have S:=aAy w z;have v4:=afH w z;obtain⟨n,a⟩:=t;obtain⟨m,b⟩:=u;simp only[I.enc,I.args,gT,yz]at r ba s v J h ⊢;unfold aci;have f:vA [0,0,0,1] [.int .i64 (g:Int),.int .i64 (i:Int),.int .i64 (j:Int),.str w] [.int .i64 (k:Int),.int .i64 (l:Int),.int .i64 (o:Int),.str z]=some (decide ((g,i,j,w)=(k,l,o,z))):=by
  simp only[vA,nW,q7,if_true,Option.some.injEq,Prod.mk.injEq];rw[Bool.eq_iff_iff];simp only[Bool.and_eq_true,beq_iff_eq,decide_eq_true_eq,Int.natCast_inj,and_true]
 by_cases B:(g,i,j,w)=(k,l,o,z)
 ·rw[decide_eq_true B]at f;rw[if_pos B];simp only[go_sem,bd,bb,r,ba,s,v,J,h,f,Yk]
 ·rw[decide_eq_false B]at f;rw[if_neg B];by_cases E:g=k
  ·have A:((g:Int) != k)=false:=by simp[E]
   rw[if_neg (by simp[E])];by_cases F:i=l
   ·have C:((i:Int) != l)=false:=by simp[F]
    rw[if_neg (by simp[F])];by_cases G:j=o
    ·have H:((j:Int) != o)=false:=by simp[G]
     rw[if_neg (by simp[G])];simp only[go_sem,bd,bb,r,ba,s,v,f,A,C,H,S,v4,Yk]
    ·have H:((j:Int) != o)=true:=by simp;omega
     rw[if_pos G];simp only[go_sem,bd,bb,r,ba,s,v,f,A,C,H,R,v3,Yk]
   ·have C:((i:Int) != l)=true:=by simp;omega
    rw[if_pos F];simp only[go_sem,bd,bb,r,ba,s,v,f,A,C,P,Q,Yk]
  ·have A:((g:Int) != k)=true:=by simp;omega
   rw[if_pos E];simp only[go_sem,bd,bb,r,ba,s,v,f,A,L,O,Yk]
mutual
theorem PY:∀(t u:I),aA ν aD 121 [t.enc,u.enc] (.int .i64 (b6 t u))
 |.mk n a,u=>aAE (.mk n a) u (aAD a u.args λt f u=>afJ a t f u)
theorem afJ:∀(l:List I),∀t∈l,∀u,aA ν aD 121 [t.enc,u.enc] (.int .i64 (b6 t u))
 |[],_,h,_=>by cases h|s::r,t,h,u=>by
  rcases List.mem_cons.1 h with e|h
  ·rw[e];exact PY s u
  ·exact afJ r t h u
end
theorem aqw(l m:List I):aA ν aD 85 [gT l,gT m] (.int .i64 (fh l m)):=aAD l m λt _ u=>PY t u
def uY(f:Nat)(xs:List AV):Option AV :=
 if f=54 then(match xs with|[x,y]=>(match pN x,pN y with|some t,some u=>some (.bool (hi t u))|_,_=>none)|_=>none)
 else if f=16 then(match xs with|[x,y]=>(match Ae x,Ae y with|some t,some u=>some (.bool (gD t u))|_,_=>none)|_=>none)
 else if f=167 then(match xs with|[x]=>(pN x).map I.enc|_=>none)
 else kF f xs
theorem aAF(t u:I):uY 54 [t.enc,u.enc]=some (.bool (hi t u)):=by simp[uY,yp]
theorem aAG(t u:List I):uY 16 [gT t,gT u]=some (.bool (gD t u)):=by simp[uY,OT]
theorem aAH(t:I):uY 167 [t.enc]=some t.enc:=by simp[uY,yp]
theorem afK(l m:List I)(h:∀t∈l,∀u,aA ν aD 54 [t.enc,u.enc] (.bool (hi t u))):aA ν aD 16 [gT l,gT m] (.bool (gD l m)):=by
 refine aA.assume (B:=l.length<=M/\m.length<=M) (λγ vs h=>by cases h with|cons _ _ _ _ h E=>cases E with|cons _ _ _ _ g _=>exact⟨(Ad h).1,(Ad g).1⟩) λae=>?_;have J:M=1099511627776:=rfl;refine aA.intro (D:=uY) PJ rfl rfl ?_;unfold JI;simp only[gT];by_cases o:l.length=m.length
 ·have j:((l.length:Int) != m.length)=false:=by simp[o]
  simp only[go_sem,bd,bb,gJ,j];refine bQ (λi:Nat=>⟨N [(0,.v (.list none 2 (dH l))),(1,.v (.list none 2 (dH m))),(12,.v (.int .i64 l.length)),(13,.v (.int .i64 i))],[]⟩)
   (λi=>i<=l.length/\gD (l.drop i) (m.drop i)=gD l m) (λi=>l.length-i) 0 ⟨am,rfl⟩ el ?_
  rintro i ⟨al,ar⟩;by_cases F:i<l.length
  ·have g:i<m.length:=by omega
   have f:decide ((i:Int)<(l.length:Int))=true:=decide_eq_true am;have r:l[i]?=some l[i]:=aKB F;have s:m[i]?=some m[i]:=aKB g;have k:(dH l)[i]?=some l[i].enc:=by rw[uU,r];rfl
   have n:(dH m)[i]?=some m[i].enc:=by rw[uU,s];rfl
   have v:IntKind.i64.wrap ((i:Int)+1)=((i+1:Nat):Int):=by rw[wrap64]<;>omega
   have z:(0:Int)<=i:=by omega
   have A:(i:Int)<l.length:=by omega
   have C:(i:Int)<m.length:=by omega
   have q:=aAF l[i] m[i];have w:=h l[i] (List.getElem_mem _) m[i];have ax:=aAi r s;rw[ar]at ax;generalize l[i]=x at *;generalize m[i]=y at *;obtain⟨G,dL⟩:=x;obtain⟨H,a2⟩:=y;simp only[I.enc]at k n q w;generalize hi (.mk G dL) (.mk H a2)=c at *;cases c
   ·simp only[go_sem,bd,bb,f,k,n,v,z,A,C,q,w,gJ,Yk,ax]
   ·simp only[go_sem,bd,bb,f,k,n,v,z,A,C,q,w,gJ];exact⟨i+1,⟨am,by rw[ax];rfl⟩,am,ly⟩
  ·have f:decide ((i:Int)<(l.length:Int))=false:=decide_eq_false am;have:gD l m=true:=by rw[<-ar,List.drop_eq_nil_of_le am,List.drop_eq_nil_of_le am];rfl
   unfold YB;simp only[go_sem,bd,bb,f,this,Yk]
 ·have j:((l.length:Int) != m.length)=true:=by simp;omega
  simp only[go_sem,bd,bb,gJ,j,aAh o,Yk]
theorem aAI(t u:I)(h:aA ν aD 16 [gT t.args,gT u.args] (.bool (gD t.args u.args))):aA ν aD 54 [t.enc,u.enc] (.bool (hi t u)):=by
 refine aA.intro (D:=uY) ayw (by simp only[aKC,List.all_nil,I.arg];rfl) rfl ?_;have q:=aAG t.args u.args;obtain⟨n,a⟩:=t;obtain⟨m,b⟩:=u;simp only[I.enc,I.args,gT]at q h ⊢;unfold ZQ;cases f:n==m<;>simp only[go_sem,bd,bb,f,q,h,hi,Yk]
mutual
theorem PZ:∀(t u:I),aA ν aD 54 [t.enc,u.enc] (.bool (hi t u))
 |.mk n a,u=>aAI (.mk n a) u (afK a u.args λt f u=>afL a t f u)
theorem afL:∀(l:List I),∀t∈l,∀u,aA ν aD 54 [t.enc,u.enc] (.bool (hi t u))
 |[],_,h,_=>by cases h|s::r,t,h,u=>by
  rcases List.mem_cons.1 h with e|h
  ·rw[e];exact PZ s u
  ·exact afL r t h u
end
theorem aAJ(l m:List I):aA ν aD 16 [gT l,gT m] (.bool (gD l m)):=afK l m λt _ u=>PZ t u
theorem aAK{l:List I}{i:Nat}{t:I}(h:l[i]?=some t):dH (l.take (i+1))=dH (l.take i)++[t.enc]:=by
 rw[JS h,oj,oj,List.map_append];rfl
theorem aAL(t:I)(h:∀u∈t.args,aA ν aD 167 [u.enc] u.enc):aA ν aD 167 [t.enc] t.enc:=by
 refine aA.assume (B:=t.eS) (λγ vs h=>by cases h with|cons _ _ _ _ h _=>exact I.lj h) λae=>?_;obtain⟨v,cK⟩:=t;simp only[I.eS]at ae;simp only[I.args]at h;have E:=ae.2.1;have F:M=1099511627776:=rfl;refine aA.gK (D:=uY) azK (by simp only[aKC,List.all_nil,I.arg];rfl) (I.res _) (I.iI _) ?_;simp only[I.enc];unfold adA;simp only[go_sem,bd,bb,gJ,uW];refine bQ (λi:Nat=>⟨N [(2,.b [.str [],.aS 2]),(3,.v (.ptr 0 0)),(10,.v (.list none 2 (dH cK))),(11,.v (.int .i64 cK.length)),(12,.v (.int .i64 i))],[.cells [.str v,if i=0 then .aS 2 else .list (some 25) 2 (dH (cK.take i))]]⟩)
  (λi=>i<=cK.length) (λi=>cK.length-i) 0 am el ?_
 intro i al;by_cases y:i<cK.length
 ·have j:decide ((i:Int)<(cK.length:Int))=true:=decide_eq_true am;have m:cK[i]?=some cK[i]:=aKB y;have l:(dH cK)[i]?=some cK[i].enc:=by rw[uU,m];rfl
  have n:IntKind.i64.wrap ((i:Int)+1)=((i+1:Nat):Int):=by rw[wrap64]<;>omega
  have o:(0:Int)<=i:=by omega
  have r:(i:Int)<cK.length:=by omega
  have q:=aAH cK[i];have w:=h cK[i] (List.getElem_mem _);have ax:=aAK m;generalize cK[i]=x at *;obtain⟨z,dL⟩:=x;simp only[I.enc]at l q w ax;have s:(if i+1=0 then(AV.aS 2)else .list (some 25) 2 (dH (cK.take (i+1))))=.list (some 25) 2 (dH (cK.take (i+1))):=if_neg am;by_cases g:i=0
  ·have f:(if i=0 then(AV.aS 2)else .list (some 25) 2 (dH (cK.take i)))=.aS 2:=if_pos g;have A:dH (cK.take (i+1))=[.agg [.str z,.list none 2 (dH dL)]]:=by rw[ax,g,List.take_zero];simp only[dH,List.nil_append]
   have k:1<=M:=by omega
   simp only[go_sem,bd,bb,j,l,n,o,r,q,w,gJ,f,k];exact⟨i+1,am,am,by(simp only[b7,List.foldr_cons,List.foldr_nil,Env.ins,s,A,go_sem])⟩
  ·have f:(if i=0 then(AV.aS 2)else .list (some 25) 2 (dH (cK.take i)))=.list (some 25) 2 (dH (cK.take i)):=if_neg g;have k:(cK.take i).length+1<=M:=by rw[List.length_take];omega
   simp only[go_sem,bd,bb,j,l,n,o,r,q,w,gJ,f,k];exact⟨i+1,am,am,by(simp only[b7,List.foldr_cons,List.foldr_nil,Env.ins,s,ax,go_sem])⟩
 ·have j:decide ((i:Int)<(cK.length:Int))=false:=decide_eq_false am;have C:i=cK.length:=by omega
  unfold abm;by_cases g:i=0
  ·have f:(if i=0 then(AV.aS 2)else .list (some 25) 2 (dH (cK.take i)))=.aS 2:=if_pos g;simp only[go_sem,bd,bb,j,f,uW];refine⟨_,rfl,bx.agg (.cons (bx.refl _) (.cons ?_ .nil))⟩;have:cK=[]:=aKG am;rw[this];simp only[dH];exact bx.aS 2
  ·have f:(if i=0 then(AV.aS 2)else .list (some 25) 2 (dH (cK.take i)))=.list (some 25) 2 (dH (cK.take i)):=if_neg g;simp only[go_sem,bd,bb,j,f,uW];refine⟨_,rfl,bx.agg (.cons (bx.refl _) (.cons ?_ .nil))⟩;rw[C,List.take_length];exact bx.refl _
mutual
theorem afM:∀(t:I),aA ν aD 167 [t.enc] t.enc
 |.mk n a=>aAL (.mk n a) λu f=>afN a u f
theorem afN:∀(l:List I),∀t∈l,aA ν aD 167 [t.enc] t.enc
 |[],_,h=>by cases h|s::r,t,h=>by
  rcases List.mem_cons.1 h with e|h
  ·rw[e];exact afM s
  ·exact afN r t h
end
end AM
