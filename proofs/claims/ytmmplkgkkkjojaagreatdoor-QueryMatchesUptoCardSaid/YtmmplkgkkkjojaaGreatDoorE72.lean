/- What functions of the given program do, as calls of the machine. Conditions: names and lists are bounded where that is said. -/
import Derived.Test.YtmmplkgkkkjojaaGreatDoorE42
import Derived.Test.YtmmplkgkkkjojaaGreatDoorAm9
set_option linter.unusedSimpArgs false
set_option maxRecDepth 100000
set_option maxHeartbeats 4000000
set_option linter.unusedVariables false
namespace AM
open List renaming length_map -> aKQ,take_zero -> aKR,map_append -> aKS,map_nil -> aKT,map_cons -> aKV,foldr_cons -> aKW,foldr_nil -> aKX,length_set -> aK0,length_append -> aK1,length_nil -> aK2,length_cons -> aK3,length_filter_le -> aK6,take_length -> aK7,append_nil -> aLa,mem_filter -> aLb,length_take -> aLc,nodup_nil -> aLd,take_of_length_le -> aLe,length_singleton -> aLi,drop_eq_nil_of_le -> aLj
open Int renaming natCast_add -> aKU,natCast_one -> aKY,natCast_zero -> aKZ
open Nat renaming zero_le -> aK4,lt_or_ge -> aK5,le_refl -> aK8,eq_zero_or_pos -> aK9
open Bool renaming false_eq_true -> aLf
open Option renaming getD_none -> aLg,getD_some -> aLh
open Go Go.Proofs
open Tryz renaming prog -> ν
open Enc (enc)
theorem awM(E:List bR)(j:E.length<=M):bB ν aD 125 [enc E] [] λr H'=>r=.map 0/\∃n b,H'=[.map n (cI (fg 9) b)]/\q2 E b:=by
 have k:M=1099511627776:=rfl;refine bB.intro (D:=e6) azg ?_;unfold acn
 (repeat' first|simp(disch:=first|exact ai|fail) only[go_sem]|(refine ao ?_ ?_<;>intro))
 refine bQ (λp:Nat×Nat×List (ak×List ak)=>⟨N [(3,.v (.map 0)),(7,.v (enc E)),(8,.v (enc E.length)),(9,.v (enc p.1))],[.map p.2.1 (cI (fg 9) p.2.2)]⟩)
  (λp=>p.1<=E.length/\q2 (E.take p.1) p.2.2) (λp=>E.length-p.1) (0,0,[]) ⟨aK4 _,λx=>by simp[getM,bX]⟩ (by(try simp(disch:=first|exact ai|fail) only[go_sem])<;>(first|rfl|(simp(disch:=first|exact aX|fail) only[b7,aKW,aKX,Env.ins,cp,cq,cr,ct,cu,cv,cw,cx,I.b0,aKQ,aKU,aKY,aKZ,aKR,bL,aKS,aKV,aKT,cy,cz,go_sem,cI];try rfl))) ?_
 rintro⟨i,n,b⟩ ⟨f,c⟩;simp only at f c;rcases aK5 i E.length with h|h
 ·have ax:=c.snoc E[i]!;rw[<-bL h]at ax;have a:=c E[i]!.src;obtain⟨L,cf⟩:∃L,L=bX (E.take i) E[i]!.src:=⟨_,rfl⟩;have l:L.length<=i:=by
   rw[cf,bX,aKQ];have:=aK6 (λe:bR=>e.src==E[i]!.src) (E.take i);rw[aLc]at this;omega
  rw[<-cf]at ax a;by_cases d:L=[]
  ·rw[if_pos d]at a;rw[d,List.nil_append]at ax;have ah:[AV.str E[i]!.dst]=List.map AV.str [E[i]!.dst]:=rfl
   (repeat' first|simp(disch:=first|exact ai|fail) only[go_sem,a,awJ a,awL a ah]|(refine ao ?_ ?_<;>intro))
   exact⟨(i+1,n+1,fV b E[i]!.src [E[i]!.dst]),⟨ap,ax⟩,ap,co⟩
  ·rw[if_neg d]at a;have g:(getM b E[i]!.src).isSome=true:=by rw[a];rfl
   have ah:L.map AV.str++[AV.str E[i]!.dst]=(L++[E[i]!.dst]).map AV.str:=by rw[aKS];rfl
   (repeat' first|simp(disch:=first|exact ai|fail) only[go_sem,a,awI a,awK g ah]|(refine ao ?_ ?_<;>intro))
   exact⟨(i+1,n,fV b E[i]!.src (L++[E[i]!.dst])),⟨ap,ax⟩,ap,co⟩
 ·obtain rfl:i=E.length:=by omega
  rw[aK7]at c
  (repeat' first|simp(disch:=first|exact ai|fail) only[go_sem]|(refine ao ?_ ?_<;>intro))
  exact⟨_,rfl,rfl,n,b,rfl,c⟩
variable {H:List ay}
theorem awN(l:List ak)(b:l≠[])(d:l.length<=M):bB ν aD 170 [.list none 1 (l.map AV.str)] H λr H'=>∃id,r=.bI id 0 l.length 1/\H.length<id/\H'[id]?=some (.buf 9 (l.map AV.str))/\∀i,i<H.length->H'[i]?=H[i]?:=by
 have e:M=1099511627776:=rfl;refine bB.intro (D:=e6) azN ?_;unfold adG;have a:∀(ne:Bool)(o:Option Nat)(z:Nat),Ge ne (.list o z (l.map AV.str))=some (.bool ne):=λne o z=>by simp only[Ge,List.map_eq_nil_iff,if_neg b]
 have c:(H++[.buf 9 [],.dead])[H.length]?=some (.buf 9 [])/\0<=([]:List AV).length/\([]:List AV).take 0=([]:List ak).map AV.str/\0+l.length<=M:=⟨be,aK8 _,rfl,am⟩
 (repeat' first|simp(disch:=first|exact ai|fail) only[go_sem,a]|(refine ao ?_ ?_<;>intro))
 simp only[List.flatten_nil,Fy c,List.nil_append,Nat.zero_add]
 (repeat' first|simp(disch:=first|exact ai|fail) only[go_sem]|(refine ao ?_ ?_<;>intro))
 refine⟨_,rfl,_,rfl,?_,?_,λi al=>?_⟩
 ·simp
 ·simp
 ·rw[List.getElem?_append_left dw];exact List.getElem?_append_left al
theorem awO(H:List ay):bB ν aD 170 [.aS 1] H λr H'=>r=.aS 1/\H'=H:=by
 refine bB.intro (D:=e6) azN ?_;unfold adG
 (repeat' first|simp(disch:=first|exact ai|fail) only[go_sem]|(refine ao ?_ ?_<;>intro))
 exact⟨_,rfl,rfl⟩
def acT(E:List bR)(s:ak)(H:List ay):Prop:=∃m km,H[1]?=some (.map m (cI AV.bool km))/\(cd km).Nodup/\(∀x,x∈cd km↔x∈p7 E s)/\km.length<=200000
theorem awP(E:List bR)(s:ak){n:Nat}{e:List (ak×List ak)}(iH:E.length<=100000)(ah:q2 E e):bB ν aD 124 [.map 0,enc s] [.map n (cI (fg 9) e)] λr H'=>r=.map 1/\acT E s H':=by
 have cP:M=1099511627776:=rfl;refine bB.intro (D:=e6) azf ?_;unfold acm;have z:=ah s;have Ei:∀x,(bX E x).length<=E.length:=λx=>by
  rw[bX,aKQ];exact aK6 _ _
 have vS:∀met,jl E met<=E.length:=λmet=>aK6 _ _;by_cases A:bX E s=[]
 ·rw[if_pos A]at z
  (repeat' first|simp(disch:=first|exact ai|fail) only[go_sem,z]|(refine ao ?_ ?_<;>intro)|refine cA (awO _) ?_)
  refine bQ (λ_:Unit=>⟨N [(0,.v (.map 0)),(5,.v (.map 1)),(6,.v (.aS 1))],[.map n (cI (fg 9) e),.map 0 []]⟩) (λ_=>True) (λ_=>0) () trivial ci ?_;intro _ _
  (repeat' first|simp(disch:=first|exact ai|fail) only[go_sem]|(refine ao ?_ ?_<;>intro))
  refine⟨_,rfl,rfl,0,[],rfl,aLd,λx=>?_,be⟩;rw[p7,A,acS];simp[cd]
 ·rw[if_neg A]at z;have v:∃(r:AV)(H':List ay),∃id,r=.bI id 0 (bX E s).length 1/\([.map n (cI (fg 9) e),.map 0 []]:List ay).length<id/\H'[id]?=some (.buf 9 ((bX E s).map AV.str))/\∀i,i<([.map n (cI (fg 9) e),.map 0 []]:List ay).length->H'[i]?=([.map n (cI (fg 9) e),.map 0 []]:List ay)[i]? :=
   ⟨_,[.map n (cI (fg 9) e),.map 0 [],.dead,.buf 9 ((bX E s).map AV.str)],3,rfl,be,rfl,λi al=>by
    match i,al with
    |0,_=>rfl|1,_=>rfl⟩
  have aJh:=Ei s
  (repeat' first|simp(disch:=first|exact ai|fail) only[go_sem,z]|(refine ao ?_ ?_<;>intro)|(refine iJ ⟨awN (bX E s) A am,v⟩ ?_;(rintro r B ⟨mB,rfl,g1,g2,O⟩))|fail)
  have g4:B[0]?=some (.map n (cI (fg 9) e)):=O 0 be;have g5:B[1]?=some (.map 0 []):=O 1 be;simp only[aK3,aK2]at g1
  (repeat' first|simp(disch:=first|exact ai|fail) only[go_sem]|(refine ao ?_ ?_<;>intro))
  refine bQ (λp:List ay×Nat×List ak×List ak×Nat×List (ak×Bool)=>⟨N [(0,.v (.map 0)),(5,.v (.map 1)),(6,.v (.bI p.2.1 0 p.2.2.1.length 1))],p.1⟩)
   (λp=>p.1[0]?=some (.map n (cI (fg 9) e))/\p.1[1]?=some (.map p.2.2.2.2.1 (cI AV.bool p.2.2.2.2.2))/\1<p.2.1/\(∃cs,p.1[p.2.1]?=some (.buf 9 cs)/\p.2.2.1.length<=cs.length/\cs.take p.2.2.1.length=p.2.2.1.map AV.str) /\
    (cd p.2.2.2.2.2).Nodup/\(∀x,getM p.2.2.2.2.2 x=if p.2.2.2.1.contains x=true then some true else none)/\p.2.2.2.2.2.length+p.2.2.1.length+jl E p.2.2.2.1<=200000/\nH E (p.2.2.1.length+jl E p.2.2.2.1) p.2.2.1 p.2.2.2.1=p7 E s)
   (λp=>p.2.2.1.length+jl E p.2.2.2.1) (B,mB,bX E s,[],0,[]) ⟨g4,g5,ap,⟨_,g2,be,aLe be⟩,aLd,λx=>by simp[getM],by have:=vS [];simp only[aK2];omega,rfl⟩ ci ?_
  clear g1 g2 O g4 g5 v B mB;rintro⟨H,id,a,met,m,km⟩ ⟨u,g,Fz,⟨cs,o,iT,P⟩,C,w,hlen,hw⟩;simp only at u g Fz o iT P C w hlen hw;have kA:=dq u;have cV:=dq g;have cH:=dq o
  cases c:a.getLast? with
  |none =>
   have aB:a=[]:=List.getLast?_eq_none_iff.1 c;subst aB
   (repeat' first|simp(disch:=first|exact ai|fail) only[go_sem]|(refine ao ?_ ?_<;>intro))
   refine⟨_,rfl,rfl,m,km,g,C,λx=>?_,am⟩;have:=getM_none (l:=km) (s:=x);rw[acS]at hw;rw[<-hw,<-Decidable.not_iff_not,<-this,w x];by_cases h:met.contains x=true
   ·rw[if_pos h];simp only[reduceCtorEq,false_iff,Decidable.not_not];simpa using h
   ·rw[if_neg h];simp only[true_iff];simpa using h
  |some x =>
   have ar:0<a.length:=by
    cases a with
    |nil=>cases c|cons=>simp
   obtain⟨j,a8⟩:∃j,a.length=j+1:=⟨a.length-1,am⟩;have hd:a.dropLast.length=j:=by rw[List.length_dropLast];omega
   have Q:((a.length:Nat):Int)-1=(j:Int):=by omega
   have R:(j:Int)<(a.length:Int):=by omega
   have S:decide ((a.length:Int)>0)=true:=by simpa using ar
   have T:cs[j]?=some (.str x):=by
    have V:(cs.take a.length)[j]?=cs[j]?:=by rw[List.getElem?_take,if_pos am]
    rw[<-V,P,List.getElem?_map];rw[List.getLast?_eq_getElem?,a8]at c;rw[show j+1-1=j by omega]at c;rw[c];rfl
   have W:wV 1 j (some (.buf 9 cs))=some [.str x]:=by
    rw[CR,if_pos am];obtain⟨bJ,X⟩:=List.getElem?_eq_some_iff.1 T;rw[List.drop_eq_getElem_cons bJ,X];rfl
   have Y:cs.take j=a.dropLast.map AV.str:=by
    have V:(cs.take a.length).take j=cs.take j:=by rw[List.take_take,Nat.min_eq_left am]
    rw[<-V,P,List.dropLast_eq_take,List.map_take,a8,show j+1-1=j by omega]
   have ax:=awB (E:=E) (met:=met) c;rw[hw]at ax;have q:=w x;have F:=ah x;cases h:met.contains x with
   |true =>
    rw[h,if_pos rfl]at q ax
    (repeat' first|simp(disch:=first|exact ai|fail) only[go_sem,o,Q,R,S,W,q,g]|(refine ao ?_ ?_<;>intro))
    rw[if_neg be];exact⟨(H,id,a.dropLast,met,m,km),⟨u,g,Fz,⟨cs,o,ap,by simp only[hd];exact Y⟩,C,w,ap,ax.symm⟩,ap,by(first|rfl|(simp(disch:=first|exact aX|fail) only[b7,aKW,aKX,Env.ins,cp,cq,cr,ct,cu,cv,cw,cx,I.b0,aKQ,aKU,aKY,aKZ,aKR,bL,aKS,aKV,aKT,cy,cz,go_sem,hd,Nat.sub_zero];try rfl))⟩
   |false =>
    rw[h,if_neg be]at q ax;have oS:=acR (E:=E) h;have qk:(fV km x true).length=km.length+1:=by rw[ahy,q];rfl
    have X:lo m km x=m+1:=by rw[lo,q]
    have Z:∀y,getM (fV km x true) y=if(met++[x]).contains y=true then some true else none:=λy=>by
     rw[w5];by_cases a7:y=x
     ·subst a7;simp
     ·rw[if_neg a7,w y];have:(met++[x]).contains y=met.contains y:=by rw[Bool.eq_iff_iff];simp[a7]
      rw[this]
    have aJi:=Ei x;have awU:(1:Nat)≠id:=by omega
    obtain⟨b,k⟩:∃b,b=H.set 1 (.map (lo m km x) (cI AV.bool (fV km x true))):=⟨_,rfl⟩;have gQ:b[0]?=some (.map n (cI (fg 9) e)):=by rw[k,cj am];exact u
    have cF:b[1]?=some (.map (m+1) (cI AV.bool (fV km x true))):=by rw[k,<-X];exact dV cV
    have cO:b[id]?=some (.buf 9 cs):=by rw[k,cj awU];exact o
    have awW:b.length=H.length:=by rw[k,aK0]
    have Ak:j-0=j:=Nat.sub_zero j;have fin:∀L:List ak,L=bX E x->(b.set id .dead++[ay.buf 9 ((a.dropLast++L).map AV.str),.dead])[0]?=some (.map n (cI (fg 9) e))/\(b.set id .dead++[ay.buf 9 ((a.dropLast++L).map AV.str),.dead])[1]?=some (.map (m+1) (cI AV.bool (fV km x true)))/\1<b.length /\
      (∃cs,(b.set id .dead++[ay.buf 9 ((a.dropLast++L).map AV.str),.dead])[b.length]?=some (.buf 9 cs)/\(a.dropLast++L).length<=cs.length/\cs.take (a.dropLast++L).length=(a.dropLast++L).map AV.str) /\
      (cd (fV km x true)).Nodup/\(∀y,getM (fV km x true) y=if(met++[x]).contains y=true then some true else none)/\(fV km x true).length+(a.dropLast++L).length+jl E (met++[x])<=200000/\nH E ((a.dropLast++L).length+jl E (met++[x])) (a.dropLast++L) (met++[x])=p7 E s:=by
     rintro L rfl;refine⟨?_,?_,am,⟨_,e5 (by rw[aK0]),by rw[aKQ];exact aK8 _,aLe (by rw[aKQ];exact aK8 _)⟩,AE C _ _,Z,?_,ax.symm⟩
     ·rw[dE (by rw[aK0];omega),cj am];exact gQ
     ·rw[dE (by rw[aK0];omega),cj am];exact cF
     ·rw[qk,aK1,hd];omega
    by_cases G:bX E x=[]
    ·rw[if_pos G]at F;have f:b[id]?=some (.buf 9 cs)/\j<=cs.length/\cs.take j=a.dropLast.map AV.str/\j+([]:List ak).length<=M:=⟨cO,am,Y,by simp only[aK2];omega⟩;rw[k]at f;have J:=λ{e0:Env}{K:au->Prop}{t:aN K}{d:Nat}=>Fy (e0:=e0) (K:=K) (t:=t) (d:=d) f;simp only[aKT,aLa,aK2,Nat.add_zero]at J
     (repeat' first|simp(disch:=first|exact ai|fail) only[go_sem,o,Q,R,S,W,q,g]|(refine ao ?_ ?_<;>intro))
     rw[if_neg be]
     (repeat' first|simp(disch:=first|exact ai|fail) only[go_sem,g,u,F,Ak,J]|(refine ao ?_ ?_<;>intro))
     have fn:=fin [] G.symm;rw[aLa]at fn;exact⟨(b.set id .dead++[ay.buf 9 (a.dropLast.map AV.str),.dead],b.length,a.dropLast,met++[x],m+1,fV km x true),fn,by rw[G]at oS;simp only[aK2,hd]at oS ⊢;omega,by(first|rfl|(simp(disch:=first|exact aX|fail) only[b7,aKW,aKX,Env.ins,cp,cq,cr,ct,cu,cv,cw,cx,I.b0,aKQ,aKU,aKY,aKZ,aKR,bL,aKS,aKV,aKT,cy,cz,go_sem,k,hd,aK0];try rfl))⟩
    ·rw[if_neg G]at F;have f:b[id]?=some (.buf 9 cs)/\j<=cs.length/\cs.take j=a.dropLast.map AV.str/\j+(bX E x).length<=M:=⟨cO,am,Y,am⟩;rw[k]at f;have J:=λ{e0:Env}{K:au->Prop}{t:aN K}{d:Nat}=>Fy (e0:=e0) (K:=K) (t:=t) (d:=d) f
     (repeat' first|simp(disch:=first|exact ai|fail) only[go_sem,o,Q,R,S,W,q,g]|(refine ao ?_ ?_<;>intro))
     rw[if_neg be]
     (repeat' first|simp(disch:=first|exact ai|fail) only[go_sem,g,u,F,Ak,J]|(refine ao ?_ ?_<;>intro))
     have fn:=fin (bX E x) rfl;exact⟨(b.set id .dead++[ay.buf 9 ((a.dropLast++bX E x).map AV.str),.dead],b.length,a.dropLast++bX E x,met++[x],m+1,fV km x true),fn,by simp only[aK1,hd];omega,by(first|rfl|(simp(disch:=first|exact aX|fail) only[b7,aKW,aKX,Env.ins,cp,cq,cr,ct,cu,cv,cw,cx,I.b0,aKQ,aKU,aKY,aKZ,aKR,bL,aKS,aKV,aKT,cy,cz,go_sem,k,hd,aK0,aK1];try rfl))⟩
open Enc (enc)
def bz(l:List aU):List ak:=tH ((l.map λr=>r.head.name).filter λs=>!(s==eG))
noncomputable def JQ:List iZ:=[(87,hj λ(l:List bR)(s:ak)=>.list (some 9) 1 ((lE l s).map AV.str)),
 (40,eh λ(l:List aU)=>enc (bz l))]
noncomputable def gf:bj:=ij e6 (e1 JQ)
instance aJj{D:bj}[h:bt D gf]:bt D e6:=h.ke
def Kj:List Nat:=[87,40]++JD
theorem acV:fq gf Kj:=fq.or ab5 (kf JQ)
variable {f:Nat}{F:List AV->Option AV}
theorem acW(h:∀xs,e1 JQ f xs=F xs)(hk:JD.contains f=false:=by rfl):∀xs,gf f xs=F xs:=λxs=>by rw[<-h];exact kg ab5 hk
theorem aw3:∀E:List bR,∃a,q2 E a:=λE=>by
 have:∀k,∃a,q2 (E.take k) a:=λk=>by
  induction k with
  |zero=>exact⟨[],λx=>by simp[getM,bX]⟩|succ k ih =>
   obtain⟨a,h⟩:=ih;rcases aK5 k E.length with hk|hk
   ·rw[bL hk];exact⟨_,h.snoc E[k]!⟩
   ·rw[aLe am];rw[aLe hk]at h;exact⟨a,h⟩
 obtain⟨a,h⟩:=this E.length;rw[aK7]at h;exact⟨a,h⟩
theorem aw4:∀l:List ak,l.length<=200000->∃km:List (ak×Bool),(cd km).Nodup/\(∀x,x∈cd km↔x∈l)/\km.length<=l.length:=λl _=>by
 induction l with
 |nil=>exact⟨[],aLd,λx=>by simp[cd],aK8 _⟩|cons a l ih =>
  obtain⟨km,b,c,d⟩:=ih (by simp only[aK3]at *;omega);refine⟨fV km a true,AE b _ _,λx=>by rw[ahx,c,List.mem_cons],?_⟩;rw[ahy,aK3];split<;>omega
theorem aw6(E:List bR):∀f a met,(nH E f a met).length<=met.length+f:=λf=>by
 induction f with
 |zero=>intro a met;exact aK8 _|succ f ih =>
  intro a met;rw[nH];split
  ·omega
  ·split
   ·have:=ih a.dropLast met;omega
   ·rename_i x _ _;have:=ih (a.dropLast++bX E x) (met++[x]);rw[aK1,aLi]at this;omega
theorem Li(E:List bR)(s:ak):(p7 E s).length<=2*E.length:=by
 have h:=aw6 E ((bX E s).length+jl E []) (bX E s) [];have a:(bX E s).length<=E.length:=by rw[bX,aKQ];exact aK6 _ _
 have b:jl E []<=E.length:=aK6 _ _;simp only[aK2]at h;unfold p7;omega
theorem aw7:ko ν 9 1=true:=by kernel_rfl
theorem aLt(E:List bR)(s:ak)(iH:E.length<=100000):aA ν aD 87 [enc E,enc s] (.list (some 9) 1 ((lE E s).map AV.str)):=by
 have y:M=1099511627776:=rfl;refine aA.awY (D:=gf) ayT hq rfl ?_;unfold abc;obtain⟨c,i⟩:=aw3 E;obtain⟨a,j,k,z⟩:=aw4 (p7 E s) (by have:=Li E s;omega);have d:∃(r:AV)(b:List ay),r=.map 0/\∃n e,b=[.map n (cI (fg 9) e)]/\q2 E e:=⟨_,_,rfl,0,c,rfl,i⟩;have g:∃(r:AV)(b:List ay),r=.map 1/\acT E s b:=⟨_,[.dead,.map 0 (cI AV.bool a)],rfl,0,a,rfl,j,k,by have:=Li E s;omega⟩;have l:=awM E (show E.length<=M by omega)
 (repeat' first|simp(disch:=first|exact ai|fail) only[go_sem]|(refine ao ?_ ?_<;>intro)|(refine iJ (And.intro l d) ?_;(rintro r A ⟨rfl,n,e,rfl,o⟩))|fail)
 have p:=awP E s (n:=n) iH o
 (repeat' first|simp(disch:=first|exact ai|fail) only[go_sem]|(refine ao ?_ ?_<;>intro)|(refine iJ (And.intro p g) ?_;(rintro r q ⟨rfl,m,km,u,v,w,B⟩))|fail)
 have t:=aIA (H:=q) (mid:=1) u am (X:=lE E s) λks ar=>acO (ar.nodup_iff.2 v) λx=>by rw[ar.mem_iff];exact w x
 have h:∃(r:AV)(b:List ay),GY (lE E s) r:=⟨_,[],.inr rfl⟩
 (repeat' first|simp(disch:=first|exact ai|fail) only[go_sem]|(refine ao ?_ ?_<;>intro)|(refine iJ (And.intro t h) ?_;(rintro r b (⟨hk,rfl⟩|rfl)))|fail)
 ·rw[hk];exact⟨_,rfl,tK.aS aw7⟩
 ·exact⟨_,rfl,tK.refl _⟩
variable {D:bj}{x1 x2:AV}{K:AV->Prop}{tg:aN K}
theorem axd[bt D gf]{l:List bR}{s:ak}[aT x1 l][aT x2 s](h:l.length<=100000) :b1 ν aD D 87 [x1,x2] K tg=K (.list (some 9) 1 ((lE l s).map AV.str)):=ik (D':=gf) (F:=λ(l:List bR)(s:ak)=>.list (some 9) 1 ((lE l s).map AV.str)) (acW λ_=>rfl) (aLt l s h)
attribute [go_sem ↓ 2000] axd
theorem acY(l:List aU)(q:l.length<=100000):aA ν aD 40 [enc l] (enc (bz l)):=by
 have u:M=1099511627776:=rfl;refine aA.gK (D:=gf) ayo hq (Enc.res _) (Enc.iI _) ?_;unfold Zt
 (repeat' first|simp(disch:=first|exact ai|fail) only[go_sem]|(refine ao ?_ ?_<;>intro))
 refine bQ (λp:Nat×Nat×List (ak×Bool)=>⟨N [(3,.v (.map 0)),(7,.v (enc l)),(8,.v (enc l.length)),(9,.v (enc p.1))],[.map p.2.1 (cI AV.bool p.2.2)]⟩)
  (λp=>p.1<=l.length/\(cd p.2.2).Nodup/\(∀x,x∈cd p.2.2↔x∈(l.take p.1).map λr=>r.head.name)/\p.2.2.length<=p.1) (λp=>l.length-p.1) (0,0,[]) ⟨aK4 _,aLd,λx=>by simp[cd],aK4 _⟩ (by(try simp(disch:=first|exact ai|fail) only[go_sem])<;>(first|rfl|(simp(disch:=first|exact aX|fail) only[b7,aKW,aKX,Env.ins,cp,cq,cr,ct,cu,cv,cw,cx,I.b0,aKQ,aKU,aKY,aKZ,aKR,bL,aKS,aKV,aKT,cy,cz,go_sem,cI];try rfl))) ?_
 rintro⟨i,n,km⟩ ⟨g,b,c,j⟩;simp only at g b c j;rcases aK5 i l.length with h|h
 ·obtain⟨hd,a⟩:∃hd,hd=l[i]!.head.name:=⟨_,rfl⟩
  (repeat' first|simp(disch:=first|exact ai|fail) only[go_sem,<-a]|(refine ao ?_ ?_<;>intro))
  refine⟨(i+1,lo n km hd,fV km hd true),⟨ap,AE b _ _,λx=>?_,?_⟩,ap,co⟩
  ·simp only[ahx,c,bL h,aKS,aKV,aKT,List.mem_append,List.mem_singleton,<-a];exact or_comm
  ·simp only[ahy];split<;>omega
 ·obtain rfl:i=l.length:=by omega
  rw[aK7]at c;have bA:∀ks:List ak,ks.Perm (cd (mm km eG))->(Sort.sort ng ks.toArray).toList=bz l:=λks ar=>acO (ar.nodup_iff.2 (QX b _)) λx=>by
   rw[ar.mem_iff,aLb,<-c x];have:=QY b eG x;have d:=getM_none (l:=mm km eG) (s:=x);have k:=getM_none (l:=km) (s:=x);by_cases ah:x=eG
   ·rw[if_pos ah]at this;subst ah;simp[d.1 this]
   ·rw[if_neg ah]at this;rw[this]at d;have:x∈cd (mm km eG)↔x∈cd km:=by
     rw[<-Decidable.not_iff_not,<-d,k]
    simp[this,ah]
  have m:(mm km eG).length<=M:=Nat.le_trans (QW.length_le) am;have t:=aIA (H:=[.map n (cI AV.bool (mm km eG))]) (mid:=0) rfl m bA;have e:∃(r:AV)(o:List ay),GY (bz l) r:=⟨_,[],.inr rfl⟩
  (repeat' first|simp(disch:=first|exact ai|fail) only[go_sem]|(refine ao ?_ ?_<;>intro)|(refine iJ (And.intro t e) ?_;(rintro r o (⟨hk,rfl⟩|rfl)))|fail)
  ·exact⟨_,rfl,ajQ (.inl ⟨hk,rfl⟩)⟩
  ·exact⟨_,rfl,ajQ (.inr rfl)⟩
variable {l:List aU}
theorem axe[bt D gf][aT x1 l](h:l.length<=100000) :b1 ν aD D 40 [x1] K tg=K (enc (bz l)):=ec (D':=gf) (F:=λ(l:List aU)=>enc (bz l)) (acW λ_=>rfl) (acY l h)
attribute [go_sem ↓ 2000] axe
open Enc (enc)
def iC(ch:Bool)(mid:Nat)(q:bp):List AV:=[.bool true,.list none 3 (q.rules.map aU.enc),.list none 3 ((mv q.rules).map bR.enc),.list none 1 ((bz q.rules).map AV.str),dg ch q.given,.map mid,.int .i64 (q.work:Int)]
structure bm(H:List ay)(id mid:Nat)(q:bp):Prop where
 ne:id≠mid
 o:∃ch,H[id]?=some (.cells (iC ch mid q))
 m:∃jd m,H[mid]?=some (.map jd (cI gC m))/\(cd m).Nodup/\∀s,getM m s=q.st s
 k:∀s,(q.st s).isSome=true->s∈bz q.rules
variable {H':List ay}{id mid:Nat}{q:bp}
theorem bm.of(h:bm H id mid q)(a:H'[id]?=H[id]?)(b:H'[mid]?=H[mid]?):bm H' id mid q :=
 ⟨h.ne,by rw[a];exact h.o,by rw[b];exact h.m,h.k⟩
theorem A7(h:bm H id mid q):bB ν aD 41 [.ptr id 0] H λr H'=>r=.bool true/\H'=H:=by
 obtain⟨a,aE⟩:=h.o;unfold iC at aE;refine bB.intro (D:=gf) ayp ?_;unfold Zv
 (repeat' first|simp(disch:=first|exact ai|fail) only[go_sem,aE]|(refine ao ?_ ?_<;>intro))
 exact⟨_,rfl,rfl⟩
theorem axf(st:ak->Option (List I))(ns:List ak)(n:ak):b2 st (ns++[n])=b2 st ns+if(st n).isNone then 1 else 0:=by
 unfold b2;rw[List.filter_append,aK1];congr 1
 cases a:st n<;>simp[a]
theorem acZ(h:bm H id mid q)(ns:List ak)(e:ns.length<=100000) :
  bB ν aD 50 [.ptr id 0,enc ns] H λr H'=>r=.int .i64 (b2 q.st ns:Int)/\H'=H:=by
 have g:M=1099511627776:=rfl;obtain⟨j,aE⟩:=h.o;obtain⟨jd,m,hm,k,d⟩:=h.m;unfold iC at aE;refine bB.intro (D:=gf) ae8 ?_;unfold Pf
 (repeat' first|simp(disch:=first|exact ai|fail) only[go_sem]|(refine ao ?_ ?_<;>intro))
 refine bQ (λi:Nat=>⟨N [(0,.v (.ptr id 0)),(5,.v (.int .i64 (b2 q.st (ns.take i):Int))),(10,.v (enc ns)),(11,.v (enc ns.length)),(12,.v (enc i))],H⟩) (λi=>i<=ns.length) (λi=>ns.length-i) 0 (aK4 _) (by(try simp(disch:=first|exact ai|fail) only[go_sem])<;>(first|rfl|(simp(disch:=first|exact aX|fail) only[b7,aKW,aKX,Env.ins,cp,cq,cr,ct,cu,cv,cw,cx,I.b0,aKQ,aKU,aKY,aKZ,aKR,bL,aKS,aKV,aKT,cy,cz,go_sem,b2];try rfl))) ?_;intro i al;rcases aK5 i ns.length with o|p
 ·have ax:=axf q.st (ns.take i) ns[i]!;have b:b2 q.st (ns.take i)<=i:=by
   have:=aK6 (λn=>(q.st n).isNone) (ns.take i);rw[aLc]at this;unfold b2;omega
  have a:=d ns[i]!;obtain⟨X,bA⟩:∃X,X=b2 q.st (ns.take i):=⟨_,rfl⟩;rw[<-bA]at ax b ⊢;cases c:q.st ns[i]! with
  |none =>
   rw[c]at a ax;simp only[Option.isNone_none,if_true]at ax
   (repeat' first|simp(disch:=first|exact ai|fail) only[go_sem,aE,hm,a]|(refine ao ?_ ?_<;>intro))
   exact⟨i+1,am,am,by(first|rfl|(simp(disch:=first|exact aX|fail) only[b7,aKW,aKX,Env.ins,cp,cq,cr,ct,cu,cv,cw,cx,I.b0,aKQ,aKU,aKY,aKZ,aKR,bL,aKS,aKV,aKT,cy,cz,go_sem,ax];try rfl))⟩
  |some L =>
   rw[c]at a ax;simp only[Option.isNone_some,aLf,if_false,Nat.add_zero]at ax
   (repeat' first|simp(disch:=first|exact ai|fail) only[go_sem,aE,hm,a]|(refine ao ?_ ?_<;>intro))
   exact⟨i+1,am,am,by(first|rfl|(simp(disch:=first|exact aX|fail) only[b7,aKW,aKX,Env.ins,cp,cq,cr,ct,cu,cv,cw,cx,I.b0,aKQ,aKU,aKY,aKZ,aKR,bL,aKS,aKV,aKT,cy,cz,go_sem,ax];try rfl))⟩
 ·obtain rfl:i=ns.length:=by omega
  rw[aK7]
  (repeat' first|simp(disch:=first|exact ai|fail) only[go_sem]|(refine ao ?_ ?_<;>intro))
  first|exact⟨_,rfl,rfl,rfl⟩|exact⟨_,rfl,rfl⟩|rfl
theorem axg(st:ak->Option (List I))(g:List I)(ns:List ak)(n:ak):jK st g (ns++[n])=jK st g ns+((st n).getD []).length:=by
 unfold jK;rw[List.foldl_append];rfl
theorem axh(h:bm H id mid q)(ns:List ak)(t:ns.length<=100000)(u:q.given.length<=100000)(cf:∀s L,q.st s=some L->L.length<=100000) :
  bB ν aD 51 [.ptr id 0,enc ns] H λr H'=>r=.int .i64 (jK q.st q.given ns:Int)/\H'=H:=by
 have v:M=1099511627776:=rfl;obtain⟨d,aE⟩:=h.o;obtain⟨jd,m,hm,w,n⟩:=h.m;unfold iC at aE;have k:=λi=>axg q.st q.given (ns.take i) ns[i]!;have ae:∀i,i<=ns.length->jK q.st q.given (ns.take i)<=100000+i*100000:=λi=>by
  induction i with
  |zero=>intro _;rw[aKR];unfold jK;simp only[List.foldl_nil];omega|succ i ih =>
   intro al;have:=ih am;have o:=k i;rw[<-bL am]at o;have x:((q.st ns[i]!).getD []).length<=100000:=by
    cases a:q.st ns[i]! with
    |none=>simp|some L=>exact cf _ _ a
   omega
 have p:jK q.st q.given []=q.given.length:=rfl;refine bB.intro (D:=gf) ap2 ?_;unfold Wg;have g:(dg d q.given=.aS 2/\((q.given.length:Nat):Int)=0)\/(dg d q.given=.list none 2 (q.given.map I.enc)/\((q.given.length:Nat):Int)=q.given.length):=by
  rcases Wk d q.given with⟨e,b⟩|e
  ·exact .inl ⟨e,by rw[b];rfl⟩
  ·exact .inr ⟨e,rfl⟩
 rcases g with⟨e,b⟩|⟨e,b⟩
 all_goals rw[e]at aE
 all_goals (repeat' first|simp(disch:=first|exact ai|fail) only[go_sem,aE]|(refine ao ?_ ?_<;>intro))
 all_goals refine bQ (λi:Nat=>⟨N [(0,.v (.ptr id 0)),(5,.v (.int .i64 (jK q.st q.given (ns.take i):Int))),(13,.v (enc ns)),(14,.v (enc ns.length)),(15,.v (enc i))],H⟩) (λi=>i<=ns.length) (λi=>ns.length-i) 0 (aK4 _) (by simp only[aKR,p,b];(try simp(disch:=first|exact ai|fail) only[go_sem])<;>(exact bl)) ?_
 all_goals
  intro i al;rcases aK5 i ns.length with y|z
  ·have ax:=k i;have j:=ae i al;have c:=n ns[i]!;obtain⟨X,bA⟩:∃X,X=jK q.st q.given (ns.take i):=⟨_,rfl⟩;rw[<-bA]at ax j ⊢;cases a:q.st ns[i]! with
   |none =>
    rw[a]at c ax;simp only[aLg,aK2,Nat.add_zero]at ax
    (repeat' first|simp(disch:=first|exact ai|fail) only[go_sem,aE,hm,c]|(refine ao ?_ ?_<;>intro))
    exact⟨i+1,am,am,by(first|rfl|(simp(disch:=first|exact aX|fail) only[b7,aKW,aKX,Env.ins,cp,cq,cr,ct,cu,cv,cw,cx,I.b0,aKQ,aKU,aKY,aKZ,aKR,bL,aKS,aKV,aKT,cy,cz,go_sem,ax];try rfl))⟩
   |some L =>
    have A:=cf _ _ a;rw[a]at c ax;simp only[aLh]at ax
    (repeat' first|simp(disch:=first|exact ai|fail) only[go_sem,aE,hm,c]|(refine ao ?_ ?_<;>intro))
    exact⟨i+1,am,am,by(first|rfl|(simp(disch:=first|exact aX|fail) only[b7,aKW,aKX,Env.ins,cp,cq,cr,ct,cu,cv,cw,cx,I.b0,aKQ,aKU,aKY,aKZ,aKR,bL,aKS,aKV,aKT,cy,cz,go_sem,ax];try rfl))⟩
  ·obtain rfl:i=ns.length:=by omega
   rw[aK7]
   (repeat' first|simp(disch:=first|exact ai|fail) only[go_sem]|(refine ao ?_ ?_<;>intro))
   first|exact⟨_,rfl,rfl,rfl⟩|exact⟨_,rfl,rfl⟩|rfl
open Enc (enc)
theorem Lw(l:List aU)(ax:List ak)(s:ak):(oq l ax s).length<=ax.length:=aK6 _ _
theorem ac0(l:List aU)(ns:List ak):(lF l ns).length<=l.length:=aK6 _ _
theorem axi(h:bm H id mid q)(s:ak)(iH:(mv q.rules).length<=100000)(u:(bz q.rules).length<=100000)(de:q.rules.length<=100000) :
  bB ν aD 49 [.ptr id 0,enc s] H λr H'=>r=.bg [enc (oq q.rules (bz q.rules) s),enc (lF q.rules (oq q.rules (bz q.rules) s))]/\H'=H:=by
 have G:M=1099511627776:=rfl;obtain⟨J,aE⟩:=h.o;unfold iC at aE;have L:(lE (mv q.rules) s).length<=200000:=by
  have O:=Li (mv q.rules) s;have v:∀(l acc:List ak),(l.foldl (λacc s=>xf s acc) acc).length<=acc.length+l.length:=λl=>by
   induction l with
   |nil=>intro acc;simp|cons x l ih =>
    intro acc;have p:=ih (xf x acc);have w:∀a:List ak,(xf x a).length<=a.length+1:=λa=>by
     induction a with
     |nil=>simp[xf]|cons y a P=>rw[xf];split<;>(try split)<;>simp only[aK3]<;>omega
    have:=w acc;simp only[List.foldl_cons,aK3];omega
  have p:=v (p7 (mv q.rules) s) [];simp only[aK2]at p;unfold lE tH;omega
 obtain⟨A,cE⟩:∃A,A=lE (mv q.rules) s++[s]:=⟨_,rfl⟩;obtain⟨T,ej⟩:∃T,T=bz q.rules:=⟨_,rfl⟩;obtain⟨b,e⟩:∃b,b=oq q.rules T s:=⟨_,rfl⟩;have g:b=T.filter λn=>A.contains n:=by rw[e,oq,cE]
 rw[<-ej]at aE u;rw[<-ej,<-e];refine bB.intro (D:=gf) ayv ?_;unfold ZL;have o:(lE (mv q.rules) s).map AV.str++[.str s]=A.map AV.str:=by rw[cE,aKS];rfl
 have z:((mv q.rules).map bR.enc)=(mv q.rules).map Enc.enc:=rfl
 (repeat' first|simp(disch:=first|exact ai|fail) only[go_sem,aE,o]|(refine ao ?_ ?_<;>intro))
 refine bQ (λi:Nat=>⟨N [(0,.v (.ptr id 0)),(6,.v (.list (some 9) 1 (A.map AV.str))),(7,.v (.list (some 9) 1 (((T.take i).filter λn=>A.contains n).map AV.str))),(25,.v (enc T)),(26,.v (enc T.length)),(27,.v (enc i))],H⟩) (λi=>i<=T.length) (λi=>T.length-i) 0 (aK4 _) (by(try simp(disch:=first|exact ai|fail) only[go_sem])<;>(first|rfl|(simp(disch:=first|exact aX|fail) only[b7,aKW,aKX,Env.ins,cp,cq,cr,ct,cu,cv,cw,cx,I.b0,aKQ,aKU,aKY,aKZ,aKR,bL,aKS,aKV,aKT,cy,cz,go_sem,aKR,List.filter_nil];try rfl))) ?_;intro i al;rcases aK5 i T.length with k|B
 ·have ax:=Ag k (λn=>A.contains n);rw[bL k]at ax;have d:((T.take i).filter λn=>A.contains n).length<=i:=by
   have:=aK6 (λn=>A.contains n) (T.take i);rw[aLc]at this;omega
  obtain⟨X,bA⟩:∃X,X=(T.take i).filter λn=>A.contains n:=⟨_,rfl⟩;rw[<-bA]at ax d ⊢;cases c:A.contains T[i]! with
  |true =>
   rw[c,if_pos rfl]at ax
   (repeat' first|simp(disch:=first|exact ai|fail) only[go_sem,c]|(refine ao ?_ ?_<;>intro))
   exact⟨i+1,am,am,by(first|rfl|(simp(disch:=first|exact aX|fail) only[b7,aKW,aKX,Env.ins,cp,cq,cr,ct,cu,cv,cw,cx,I.b0,aKQ,aKU,aKY,aKZ,aKR,bL,aKS,aKV,aKT,cy,cz,go_sem,ax];try rfl))⟩
  |false =>
   rw[c,if_neg be,aLa]at ax
   (repeat' first|simp(disch:=first|exact ai|fail) only[go_sem,c]|(refine ao ?_ ?_<;>intro))
   exact⟨i+1,am,am,by(first|rfl|(simp(disch:=first|exact aX|fail) only[b7,aKW,aKX,Env.ins,cp,cq,cr,ct,cu,cv,cw,cx,I.b0,aKQ,aKU,aKY,aKZ,aKR,bL,aKS,aKV,aKT,cy,cz,go_sem,ax];try rfl))⟩
 ·obtain rfl:i=T.length:=by omega
  have C:b.length<=T.length:=by rw[g];exact aK6 _ _
  rw[aK7,<-g];obtain⟨R,t⟩:∃R,R=q.rules:=⟨_,rfl⟩;rw[<-t]at aE de;rw[<-t]
  (repeat' first|simp(disch:=first|exact ai|fail) only[go_sem,aE]|(refine ao ?_ ?_<;>intro))
  refine bQ (λj:Nat=>⟨N [(7,.v (.list (some 9) 1 (b.map AV.str))),(10,.v (.list (some 61) 3 ((lF (R.take j) b).map aU.enc))),(42,.v (enc R)),(43,.v (enc R.length)),(44,.v (enc j))],H⟩) (λj=>j<=R.length) (λj=>R.length-j) 0 (aK4 _) (by(try simp(disch:=first|exact ai|fail) only[go_sem])<;>(first|rfl|(simp(disch:=first|exact aX|fail) only[b7,aKW,aKX,Env.ins,cp,cq,cr,ct,cu,cv,cw,cx,I.b0,aKQ,aKU,aKY,aKZ,aKR,bL,aKS,aKV,aKT,cy,cz,go_sem,aKR,lF,List.filter_nil];try rfl))) ?_;intro j Q;rcases aK5 j R.length with k|B
  ·have ax:=Ag k (λr:aU=>b.contains r.head.name);rw[bL k]at ax;have m:lF (R.take j++[R[j]!]) b=lF (R.take j) b++if b.contains R[j]!.head.name then[R[j]!]else[]:=ax;have d:(lF (R.take j) b).length<=j:=by
    have:=ac0 (R.take j) b;rw[aLc]at this;omega
   obtain⟨X,bA⟩:∃X,X=lF (R.take j) b:=⟨_,rfl⟩;rw[<-bA]at m d ⊢;have E:R[j]!.enc=.agg [.str R[j]!.head.name,.list none 2 (R[j]!.head.args.map I.enc),.list none 3 (R[j]!.body.map Lit.enc)]:=rfl;cases c:b.contains R[j]!.head.name with
   |true =>
    rw[c,if_pos rfl]at m
    (repeat' first|simp(disch:=first|exact ai|fail) only[go_sem,c]|(refine ao ?_ ?_<;>intro))
    exact⟨j+1,am,am,by(first|rfl|(simp(disch:=first|exact aX|fail) only[b7,aKW,aKX,Env.ins,cp,cq,cr,ct,cu,cv,cw,cx,I.b0,aKQ,aKU,aKY,aKZ,aKR,bL,aKS,aKV,aKT,cy,cz,go_sem,m];try rfl))⟩
   |false =>
    rw[c,if_neg be,aLa]at m
    (repeat' first|simp(disch:=first|exact ai|fail) only[go_sem,c]|(refine ao ?_ ?_<;>intro))
    exact⟨j+1,am,am,by(first|rfl|(simp(disch:=first|exact aX|fail) only[b7,aKW,aKX,Env.ins,cp,cq,cr,ct,cu,cv,cw,cx,I.b0,aKQ,aKU,aKY,aKZ,aKR,bL,aKS,aKV,aKT,cy,cz,go_sem,m];try rfl))⟩
  ·obtain rfl:j=R.length:=by omega
   rw[aK7]
   (repeat' first|simp(disch:=first|exact ai|fail) only[go_sem]|(refine ao ?_ ?_<;>intro))
   first|exact⟨_,rfl,rfl,rfl⟩|exact⟨_,rfl,rfl⟩|rfl
theorem ac3(A:List I)(st:ak->Option (List I))(ns:List ak)(n s:ak):hI A st (ns++[n]) s=if s=n then some (gr A n)else hI A st ns s:=by
 unfold hI gr;by_cases h:s=n
 ·subst h;simp
 ·have:(ns++[n]).contains s=ns.contains s:=by rw[Bool.eq_iff_iff];simp[h]
  rw[this,if_neg h]
theorem ac4(A:List I)(st:ak->Option (List I))(s:ak):hI A st [] s=st s:=rfl
variable {A:List I}{e:Nat}
theorem axk(h:bm H id mid q)(ns:List ak)(b:List aU)(E:ns.length<=100000)(hk:∀n∈ns,n∈bz q.rules)(eY:q.work<=1000000000000)
  (hd:∀r∈b,∀a∈dx r,cc a<=1000000)(cE:iz b q.given=some (A,e)) :
  bB ν aD 52 [.ptr id 0,enc ns,enc b] H λr H'=>r=.int .i64 (e:Int)/\mq (λi=>i=id\/i=mid) H H' /\
   (if e=0 then bm H' id mid ⟨q.rules,q.given,hI A q.st ns,q.work+b2 q.st ns⟩else H'=H):=by
 have cP:M=1099511627776:=rfl;have G:=acZ h ns E;have cG:=h.ne;have z:=Ne.symm cG;have J:b2 q.st ns<=ns.length:=aK6 _ _;obtain⟨g,aE⟩:=h.o;obtain⟨jd,m,hm,L,O⟩:=h.m;have wS:=aE;unfold iC at aE;have bc:=dq aE;have lm:=dq hm
 have P:=Lg b q.given hd (by rw[cE];rfl);have k:=λ{K:AV->Prop}{tg:aN K}=>K5 (D:=gf) (K:=K) (tg:=tg) (x1:=enc b) (x2:=dg g q.given) (l:=b) (a:=q.given) P;rw[cE]at k;simp only[j8]at k;have x:(enc b:AV)=.list none 3 (b.map aU.enc):=rfl;rw[x]at k;refine bB.intro (D:=gf) ap3 ?_;unfold Wn;rcases aK9 e with he|he
 ·subst he;have o:=λ{K:AV->Prop}{tg:aN K}=>k (K:=K) (tg:=tg);simp only[show enc A=AV.list none 2 (A.map I.enc) from rfl]at o
  (repeat' first|simp(disch:=first|exact ai|fail) only[go_sem,aE,o,Wl]|(refine ao ?_ ?_<;>intro)|refine cA G ?_)
  refine⟨⟨0,be⟩,?_⟩;obtain⟨B,FP⟩:∃B:bp,B=⟨q.rules,q.given,q.st,q.work+b2 q.st ns⟩:=⟨_,rfl⟩;obtain⟨c,t⟩:∃c,c=H.set id (.cells [.bool true,.list none 3 (q.rules.map aU.enc),.list none 3 ((mv q.rules).map bR.enc),.list none 1 ((bz q.rules).map AV.str),dg g q.given,.map mid,.int .i64 ((q.work:Int)+(b2 q.st ns:Int))]):=⟨_,rfl⟩;rw[<-t];have v:c[id]?=some (.cells (iC g mid ⟨q.rules,q.given,hI A q.st ns,q.work+b2 q.st ns⟩)):=by rw[t,dV bc,iC];simp only[aKU]
  have Q:=v;unfold iC at v;simp only[aKU]at v;have R:c[mid]?=some (.map jd (cI gC m)):=by rw[t,cj cG];exact hm
  have S:c.length=H.length:=by rw[t,aK0]
  have T:=C6 R;refine bQ (λp:Nat×Nat×List (ak×List I)=>⟨N [(0,.v (.ptr id 0)),(7,.v (enc A)),(33,.v (enc ns)),(34,.v (enc ns.length)),(35,.v (enc p.1))],c.set mid (.map p.2.1 (cI gC p.2.2))⟩)
   (λp=>p.1<=ns.length/\(cd p.2.2).Nodup/\∀s,getM p.2.2 s=hI A q.st (ns.take p.1) s) (λp=>ns.length-p.1) (0,jd,m) ⟨aK4 _,L,λs=>by rw[aKR,ac4];exact O s⟩ (by(try simp(disch:=first|exact ai|fail) only[go_sem])<;>(first|rfl|(simp(disch:=first|exact aX|fail) only[b7,aKW,aKX,Env.ins,cp,cq,cr,ct,cu,cv,cw,cx,I.b0,aKQ,aKU,aKY,aKZ,aKR,bL,aKS,aKV,aKT,cy,cz,go_sem,T];try rfl))) ?_
  rintro⟨i,u,d⟩ ⟨V,y,w⟩;simp only at V y w;rcases aK5 i ns.length with W|qh
  ·have X:(c.set mid (.map u (cI gC d)))[id]?=some (.cells [.bool true,.list none 3 (q.rules.map aU.enc),.list none 3 ((mv q.rules).map bR.enc),.list none 1 ((bz q.rules).map AV.str),dg g q.given,.map mid,.int .i64 ((q.work:Int)+(b2 q.st ns:Int))]):=by rw[cj z];exact v
   have Y:(c.set mid (.map u (cI gC d)))[mid]?=some (.map u (cI gC d)):=dV am
   (repeat' first|simp(disch:=first|exact ai|fail) only[go_sem,X,Y]|(refine ao ?_ ?_<;>intro))
   exact⟨(i+1,lo u d ns[i]!,fV d ns[i]! (gr A ns[i]!)),⟨ap,AE y _ _,λs=>by simp only[bL W];rw[ac3,w5,w]⟩,ap,by(first|rfl|(simp(disch:=first|exact aX|fail) only[b7,aKW,aKX,Env.ins,cp,cq,cr,ct,cu,cv,cw,cx,I.b0,aKQ,aKU,aKY,aKZ,aKR,bL,aKS,aKV,aKT,cy,cz,go_sem,List.set_set];try rfl))⟩
  ·obtain rfl:i=ns.length:=by omega
   rw[aK7]at w
   (repeat' first|simp(disch:=first|exact ai|fail) only[go_sem]|(refine ao ?_ ?_<;>intro))
   refine⟨_,rfl,rfl,⟨by rw[aK0];omega,λj a8 C=>?_⟩,?_⟩
   ·rw[cj (λe=>C (.inr e.symm)),t,cj (λe=>C (.inl e.symm))]
   ·refine⟨cG,⟨g,by rw[cj z];exact Q⟩,⟨u,d,dV am,y,w⟩,λs ax=>?_⟩;simp only[hI]at ax;split at ax
    ·rename_i Z;exact hk s (by simpa using Z)
    ·exact h.k s ax
 ·have xW:((e:Nat):Int)≠0:=by omega
  (repeat' first|simp(disch:=first|exact ai|fail) only[go_sem,aE,k,Wl]|(refine ao ?_ ?_<;>intro))
  exact⟨_,rfl,rfl,mq.refl _ _,by rw[if_neg am];trivial⟩
theorem axs(h:bm H id mid q)(rel:ak)(iH:(mv q.rules).length<=100000)(Q:(bz q.rules).length<=100000) :
  bB ν aD 45 [.ptr id 0,enc rel] H λr H'=>r=.bg []/\mq (λi=>i=id\/i=mid) H H'/\bm H' id mid ⟨q.rules,q.given,rC q.rules q.st rel,q.work⟩:=by
 have R:M=1099511627776:=rfl;have cG:=h.ne;have t:=Ne.symm cG;obtain⟨u,aE⟩:=h.o;obtain⟨jd,m,hm,z,B⟩:=h.m;have E:=aE;unfold iC at aE;have bc:=dq aE;have d:=dq hm
 obtain⟨C,v⟩:∃C:ak->Bool,C=λs=>(lE (mv q.rules) s).contains rel:=⟨_,rfl⟩;have G:=C6 hm;have S:m.length<=m.length:=aK8 _;refine bB.intro (D:=gf) ays ?_;unfold ZE
 (repeat' first|simp(disch:=first|exact ai|fail) only[go_sem,aE,hm]|(refine ao ?_ ?_<;>intro))
 refine bQ (λp:List ak×List (ak×List I)=>⟨N [(0,.v (.ptr id 0)),(1,.v (enc rel)),(9,.v (.ptr H.length 0))],H.set mid (.map jd (cI gC p.2))++[.iter (some mid) jd (p.1.map AV.str)]⟩)
  (λp=>mX C m p.1 p.2) (λp=>m.length-p.1.length) ([],m) (mX.start z) (by(try simp(disch:=first|exact ai|fail) only[go_sem])<;>(first|rfl|(simp(disch:=first|exact aX|fail) only[b7,aKW,aKX,Env.ins,cp,cq,cr,ct,cu,cv,cw,cx,I.b0,aKQ,aKU,aKY,aKZ,aKR,bL,aKS,aKV,aKT,cy,cz,go_sem,G];try rfl))) ?_
 rintro⟨ks,b⟩ gq;simp only at gq;have T:=gq.len;have w:(H.set mid (.map jd (cI gC b))++[.iter (some mid) jd (ks.map AV.str)])[id]?=some (.cells [.bool true,.list none 3 (q.rules.map aU.enc),.list none 3 ((mv q.rules).map bR.enc),.list none 1 ((bz q.rules).map AV.str),dg u q.given,.map mid,.int .i64 (q.work:Int)]):=by
  rw[dE (by rw[aK0];exact bc),cj t];exact aE
 have x:(H.set mid (.map jd (cI gC b))++[.iter (some mid) jd (ks.map AV.str)])[mid]?=some (.map jd (cI gC b)):=by
  rw[dE (by rw[aK0];exact d)];exact dV d
 by_cases o:b.filter (λp=>!ks.contains p.1)=[]
 ·(repeat' first|simp(disch:=first|exact ai|fail) only[go_sem,w,x]|(refine ao ?_ ?_<;>intro)|refine Kp gC (l:=b) (ks:=ks) (mid:=mid) (n:=jd) bv bv o ?_)
  have hd:=gq.done o;refine⟨_,rfl,rfl,⟨be,λj J L=>?_⟩,cG,⟨u,?_⟩,⟨jd,b,?_,gq.n,λs=>?_⟩,λs ax=>?_⟩
  ·rw[dE (by rw[aK0];exact J),cj (λe=>L (.inr e.symm))]
  ·rw[dE (by rw[aK0];exact bc),cj t];exact E
  ·rw[dE (by rw[aK0];exact d)];exact dV d
  ·rw[hd s,v];simp only[rC,B]
  ·simp only[rC]at ax;split at ax
   ·cases ax
   ·exact h.k s ax
 ·(repeat' first|simp(disch:=first|exact ai|fail) only[go_sem,w,x]|(refine ao ?_ ?_<;>intro)|(refine Q2 gC (l:=b) (ks:=ks) (mid:=mid) (n:=jd) bv bv o ?_;(rintro⟨s,a⟩ ar O);(have V:=(sE gq.n).2 ar))|fail)
  have c:=gq.next ar O;have g:=c.len;rw[aK1]at g;have k:C s=(lE (mv q.rules) s).contains rel:=by rw[v]
  have P:∀X Y,(H.set mid X++[Y]).set mid (.map jd (cI gC (mm b s)))=H.set mid (.map jd (cI gC (mm b s)))++[Y]:=λX Y=>by
   rw[List.set_append_left _ _ (by rw[aK0];exact d),List.set_set]
  cases y:C s with
  |true =>
   rw[y]at k c;rw[if_pos rfl]at c
   (repeat' first|simp(disch:=first|exact ai|fail) only[go_sem,aE,hm,<-k]|(refine ao ?_ ?_<;>intro))
   exact⟨(ks++[s],mm b s),c,by simp only[aK1,aK3,aK2]at *;omega,by(first|rfl|(simp(disch:=first|exact aX|fail) only[b7,aKW,aKX,Env.ins,cp,cq,cr,ct,cu,cv,cw,cx,I.b0,aKQ,aKU,aKY,aKZ,aKR,bL,aKS,aKV,aKT,cy,cz,go_sem,P];try rfl))⟩
  |false =>
   rw[y]at k c;rw[if_neg be]at c
   (repeat' first|simp(disch:=first|exact ai|fail) only[go_sem,aE,hm,<-k]|(refine ao ?_ ?_<;>intro))
   exact⟨(ks++[s],b),c,by simp only[aK1,aK3,aK2]at *;omega,co⟩
open Enc (enc)
def jU(l:List aU):Nat:=if hG l≠0 then hG l else if(AZ l).isNone then 10 else 0
def iB(l:List aU):bp:=⟨l,[],λ_=>none,0⟩
def G1(l:List aU)(H:List ay)(r:AV)(H':List ay):Prop :=
 (jU l≠0/\r=.bg [.fl,.int .i64 (jU l:Int)]/\H'=H)\/(jU l=0/\r=.bg [.ptr (H.length+1) 0,.int .i64 0]/\mq (λ_=>False) H H'/\bm H' (H.length+1) H.length (iB l))
theorem axt(l:List aU):((AZ l).isNone=true/\sL l=.bg [.list none 2 [],.int .i64 10])\/((AZ l).isNone=false/\∃X:List e2,sL l=.bg [.list none 2 (X.map e2.enc),.int .i64 0]):=by
 unfold sL;cases AZ l with
 |none=>exact .inl ⟨rfl,rfl⟩|some a=>exact .inr ⟨rfl,a.map λp=>e2.mk p.1 p.2,by rw[List.map_map];rfl⟩
theorem ac6(l:List aU)(u:l.length<=100000)(hd:∀r∈l,∀a∈dx r,cc a<=1000000):bB ν aD 12 [enc l] H (G1 l H):=by
 have z:M=1099511627776:=rfl;refine bB.intro (D:=gf) apZ ?_;unfold PH;by_cases g:l.length<=128
 ·have k:=aHk g
  (repeat' first|simp(disch:=first|exact ai|fail) only[go_sem]|(refine ao ?_ ?_<;>intro))
  refine bQ (λi:Nat=>⟨N [(0,.v (enc l)),(13,.v (enc l)),(14,.v (enc l.length)),(15,.v (enc i))],H⟩) (λi=>i<=l.length/\(((l.drop i).find? λr=>!(fK r==0)).map fK).getD 0=hG l) (λi=>l.length-i) 0 ⟨aK4 _,by rw[k];rfl⟩ ci ?_;rintro i ⟨B,c⟩;by_cases al:i<l.length
  ·have p:=λ{K:AV->Prop}{tg:aN K}=>aHe (D:=gf) (K:=K) (tg:=tg) (x1:=l[i]!.enc) (Sb l[i]! (hd _ (ek al)));rw[fi al,List.find?_cons]at c;cases b:fK l[i]! ==0 with
   |true =>
    rw[b]at c;have t:((fK l[i]! : Nat):Int)=0:=by simpa using b
    (repeat' first|simp(disch:=first|exact ai|fail) only[go_sem,p,t]|(refine ao ?_ ?_<;>intro))
    exact⟨i+1,⟨am,c⟩,am,co⟩
   |false =>
    rw[b]at c;have m:fK l[i]!≠0:=by simpa using b
    have t:((fK l[i]! : Nat):Int)≠0:=by omega
    have v:hG l=fK l[i]!:=by rw[<-c];rfl
    have d:jU l=fK l[i]!:=by rw[jU,v,if_pos m]
    (repeat' first|simp(disch:=first|exact ai|fail) only[go_sem,p]|(refine ao ?_ ?_<;>intro))
    exact⟨_,rfl,.inl ⟨am,by rw[d],rfl⟩⟩
  ·rw[aLj am]at c;have b:hG l=0:=c.symm;obtain⟨-,w⟩:=xi b;have h:∀r∈l,r.body.length<=8:=λr n=>(w r n).b;have C:=aIZ g h;have x:∀r∈l,r.body.length<=M:=λr n=>by have:=h r n;omega
   have E:=acY l u;rcases axt l with⟨o,e⟩|⟨o,X,e⟩
   ·have d:jU l=10:=by rw[jU,b,if_neg be,if_pos o]
    (repeat' first|simp(disch:=first|exact ai|fail) only[go_sem,e]|(refine ao ?_ ?_<;>intro))
    exact⟨_,rfl,.inl ⟨am,by rw[d];rfl,rfl⟩⟩
   ·have d:jU l=0:=by rw[jU,b,if_neg be,if_neg (by rw[o];simp)]
    (repeat' first|simp(disch:=first|exact ai|fail) only[go_sem,e]|(refine ao ?_ ?_<;>intro))
    refine⟨_,rfl,.inr ⟨d,be,⟨be,λj y _=>?_⟩,⟨am,⟨true,?_⟩,⟨0,[],?_,aLd,λs=>rfl⟩,λs ax=>by cases ax⟩⟩⟩
    ·rw[dE dw,dE y]
    ·rw[e5 be];rfl
    ·rw[dE be,e5 rfl];rfl
 ·have m:hG l=2:=if_pos am;have d:jU l=2:=by rw[jU,m];rfl
  (repeat' first|simp(disch:=first|exact ai|fail) only[go_sem]|(refine ao ?_ ?_<;>intro))
  exact⟨_,rfl,.inl ⟨am,by rw[d];rfl,rfl⟩⟩
def Be:List ak:=[[116,114,117,101],[100,111,101,115]]
def rV(q:bp)(A:List I)(bC:List ak):ak->Option (List I):=bC.foldl (λst rel=>if fh (gr A rel) (gr q.given rel)==0 then st else rC q.rules st rel) q.st
theorem ada(q:bp)(A:List I)(a:List ak)(rel:ak):rV q A (a++[rel])=if fh (gr A rel) (gr q.given rel)==0 then rV q A a else rC q.rules (rV q A a) rel:=by
 unfold rV;rw[List.foldl_append];rfl
theorem adb(h:bm H id mid q)(rel:ak):∃(r:AV)(H':List ay),r=.bg []/\mq (λi=>i=id\/i=mid) H H'/\bm H' id mid ⟨q.rules,q.given,rC q.rules q.st rel,q.work⟩:=by
 obtain⟨a,aE⟩:=h.o;obtain⟨jd,m,hm,b,c⟩:=h.m;have d:=dq hm;refine⟨_,H.set mid (.map jd (cI gC (m.filter λp=>!(lE (mv q.rules) p.1).contains rel))),rfl,⟨be,λj k g=>cj λe=>g (.inr e.symm)⟩,h.ne,⟨a,by rw[cj (Ne.symm h.ne)];exact aE⟩,
  ⟨jd,_,dV d,?_,λs=>by rw[acU (λs=>(lE (mv q.rules) s).contains rel),c];rfl⟩,λs ax=>?_⟩
 ·exact List.Nodup.sublist (List.Sublist.map _ List.filter_sublist) b
 ·simp only[rC]at ax;split at ax
  ·cases ax
  ·exact h.k s ax
def mi(q:bp)(A:List I):bp:=⟨q.rules,A,rV q A Be,q.work⟩
theorem adf(h:bm H id mid q)(g:List I)(iH:(mv q.rules).length<=100000)(w:(bz q.rules).length<=100000)(x:q.given.length<=M)(cE:iz [] g=some (A,e))(y:A.length<=M) :
  bB ν aD 13 [.ptr id 0,enc g] H λr H'=>mq (λi=>i=id\/i=mid) H H'/\if e=0 then r=.int .i64 0/\bm H' id mid (mi q A)else r=.int .i64 13/\H'=H:=by
 have X:M=1099511627776:=rfl;have v:=A7 h;have z:=Lg [] g (λr B=>by cases B) (by rw[cE];rfl);have d:=λ{K:AV->Prop}{tg:aN K}=>K5 (D:=gf) (K:=K) (tg:=tg) (x1:=.aS 3) (x2:=enc g) (l:=[]) (a:=g) z;rw[cE]at d;simp only[j8]at d;have t:(enc g:AV)=.list none 2 (g.map I.enc):=rfl;have C:(enc A:AV)=.list none 2 (A.map I.enc):=rfl;rw[t,C]at d;refine bB.intro (D:=gf) ax7 ?_;unfold Yv;rcases aK9 e with he|he
 ·subst he
  (repeat' first|simp(disch:=first|exact ai|fail) only[go_sem,d]|(refine ao ?_ ?_<;>intro)|refine cA v ?_)
  obtain⟨b,k⟩:∃b,b=Be:=⟨_,rfl⟩;have E:b.map AV.str=[.str [116,114,117,101],.str [100,111,101,115]]:=by rw[k];rfl
  have G:b.length=2:=by rw[k];rfl
  refine bQ (λp:Nat×List ay=>⟨N [(0,.v (.ptr id 0)),(5,.v (enc A)),(19,.v (enc b)),(20,.v (enc b.length)),(21,.v (enc p.1))],p.2⟩)
   (λp=>p.1<=b.length/\bm p.2 id mid ⟨q.rules,q.given,rV q A (b.take p.1),q.work⟩/\mq (λi=>i=id\/i=mid) H p.2) (λp=>b.length-p.1) (0,H) ⟨aK4 _,h,mq.refl _ _⟩ (by(try simp(disch:=first|exact ai|fail) only[go_sem])<;>(first|rfl|(simp(disch:=first|exact aX|fail) only[b7,aKW,aKX,Env.ins,cp,cq,cr,ct,cu,cv,cw,cx,I.b0,aKQ,aKU,aKY,aKZ,aKR,bL,aKS,aKV,aKT,cy,cz,go_sem,E,G];try rfl))) ?_
  rintro⟨i,J⟩ ⟨L,c,n⟩;simp only at L c n;obtain⟨Y,aE⟩:=c.o;have Z:=aE;unfold iC at aE;simp only at aE;rcases aK5 i b.length with O|qh
  ·have ax:=ada q A (b.take i) b[i]!;rw[<-bL O]at ax;have qk:(gr A b[i]!).length<=M/\(gr q.given b[i]!).length<=M:=⟨Nat.le_trans (aK6 _ _) y,Nat.le_trans (aK6 _ _) x⟩;cases o:fh (gr A b[i]!) (gr q.given b[i]!)==0 with
   |true =>
    rw[o,if_pos rfl]at ax
    (repeat' first|simp(disch:=first|exact ai|fail) only[go_sem,aE,Wl,o]|(refine ao ?_ ?_<;>intro))
    exact⟨(i+1,J),⟨ap,by simp only;rw[ax];exact c,n⟩,ap,co⟩
   |false =>
    rw[o,if_neg be]at ax;have u:=axs c b[i]! iH w;have P:=adb c b[i]!
    (repeat' first|simp(disch:=first|exact ai|fail) only[go_sem,aE,Wl,o]|(refine ao ?_ ?_<;>intro)|(refine iJ (And.intro u P) ?_;(rintro r Q ⟨rfl,R,S⟩))|fail)
    exact⟨(i+1,Q),⟨ap,by simp only;rw[ax];exact S,n.trans R⟩,ap,co⟩
  ·obtain rfl:i=b.length:=by omega
   rw[aK7]at c;have bc:=dq aE;obtain⟨jd,m,hm,T,V⟩:=c.m
   (repeat' first|simp(disch:=first|exact ai|fail) only[go_sem,aE]|(refine ao ?_ ?_<;>intro))
   refine⟨_,rfl,n.trans ⟨be,λj a8 W=>cj λe=>W (.inl e.symm)⟩,rfl,h.ne,⟨false,?_⟩,⟨jd,m,by rw[cj h.ne];exact hm,T,λs=>by rw[V];simp only[mi,k]⟩,λs ax=>c.k s (by rw[<-ax];simp only[mi,k])⟩;rw[dV bc];simp only[iC,mi,hr];rfl
 ·have xW:((e:Nat):Int)≠0:=by omega
  (repeat' first|simp(disch:=first|exact ai|fail) only[go_sem,d]|(refine ao ?_ ?_<;>intro)|refine cA v ?_)
  exact⟨_,rfl,mq.refl _ _,by rw[if_neg am]⟩
open Enc (enc)
def nQ(q:bp)(ns:List ak):Option (bp×Nat) :=
 if 0<b2 q.st ns\/512<jK q.st q.given ns then match iz (lF q.rules ns) q.given with
  |none=>none|some (A,e)=>if e=0 then some (⟨q.rules,q.given,hI A q.st ns,q.work+b2 q.st ns⟩,0)else some (q,e)
 else some (q,0)
def ot(s:ak):Bool:=s==[116,114,117,101]||s==[100,111,101,115]
def hx(q:bp)(p:I):Option (bp×List I×Nat) :=
 if !ug p then some (q,[],13)
 else if ot p.name then some (q,gU q.given p,0)
 else match nQ q (oq q.rules (bz q.rules) p.name)with
  |none=>none|some (hT,e)=>if e≠0 then some (hT,[],e)else some (hT,gU ((hT.st p.name).getD []) p,0)
structure fU(q:bp):Prop where
 e:(mv q.rules).length<=100000
 h:(bz q.rules).length<=100000
 r:q.rules.length<=100000
 g:q.given.length<=100000
 l:∀s L,q.st s=some L->L.length<=100000
 w:q.work<=1000000000000
 d:∀r∈q.rules,∀a∈dx r,cc a<=1000000
theorem axv(A:List I)(st:ak->Option (List I)){m:List (ak×List I)}(d:(cd m).Nodup)(g:∀s,getM m s=st s)(ns:List ak):∃a:List (ak×List I),(cd a).Nodup/\∀s,getM a s=hI A st ns s:=by
 have key:∀k,k<=ns.length->∃a:List (ak×List I),(cd a).Nodup/\∀s,getM a s=hI A st (ns.take k) s:=λk=>by
  induction k with
  |zero=>exact λ_=>⟨m,d,λs=>by rw[aKR,ac4,g]⟩|succ k ih =>
   intro hk;obtain⟨a,c,b⟩:=ih am;exact⟨fV a ns[k]! (gr A ns[k]!),AE c _ _,λs=>by rw[bL hk,ac3,w5,b]⟩
 obtain⟨a,c,b⟩:=key ns.length (aK8 _);rw[aK7]at b;exact⟨a,c,b⟩
theorem adg(h:bm H id mid q)(ns:List ak)(hk:∀n∈ns,n∈bz q.rules)(A:List I)(e:Nat):∃(r:AV)(H':List ay),r=.int .i64 (e:Int)/\mq (λi=>i=id\/i=mid) H H' /\
   (if e=0 then bm H' id mid ⟨q.rules,q.given,hI A q.st ns,q.work+b2 q.st ns⟩else H'=H):=by
 by_cases he:e=0
 ·obtain⟨a,aE⟩:=h.o;obtain⟨jd,m,hm,d,g⟩:=h.m;have bc:=dq aE;have k:=dq hm
  obtain⟨b,o,p⟩:=axv A q.st d g ns;refine⟨_,(H.set id (.cells (iC a mid ⟨q.rules,q.given,hI A q.st ns,q.work+b2 q.st ns⟩))).set mid (.map jd (cI gC b)),rfl,⟨be,λj u c=>?_⟩,?_⟩
  ·rw[cj (λe=>c (.inr e.symm)),cj (λe=>c (.inl e.symm))]
  ·rw[if_pos he];refine⟨h.ne,⟨a,by rw[cj (Ne.symm h.ne),dV bc]⟩,⟨jd,b,dV (by rw[aK0];exact k),o,p⟩,λs ax=>?_⟩;simp only[hI]at ax;split at ax
   ·rename_i t;exact hk s (by simpa using t)
   ·exact h.k s ax
 ·exact⟨_,H,rfl,mq.refl _ _,by rw[if_neg he]⟩
variable {hT:bp}{L:List I}
theorem adh(h:bm H id mid q)(ae:fU q)(p:I)(ar:dI p<=M)(de:hx q p=some (hT,L,e)) :
  bB ν aD 14 [.ptr id 0,enc p] H λr H'=>r=.bg [enc L,.int .i64 (e:Int)]/\mq (λi=>i=id\/i=mid) H H'/\bm H' id mid hT:=by
 have cP:M=1099511627776:=rfl;have s:=A7 h;obtain⟨ch,aE⟩:=h.o;have wS:=aE;unfold iC at aE;obtain⟨jd,m,hm,pB,aF⟩:=h.m;refine bB.kX ?_;refine bB.intro (D:=gf) ax8 ?_;unfold Yx;unfold hx at de;have y:ug p=(cD 4 p true&&dM p.name):=rfl;have Q:ot p.name=(p.name==[116,114,117,101]||p.name==[100,111,101,115]):=rfl;cases j:cD 4 p true with
 |false =>
  rw[j,Bool.false_and]at y;rw[y]at de;simp only[Bool.not_false,if_true,Option.some.injEq,Prod.mk.injEq]at de;obtain⟨rfl,rfl,rfl⟩:=de
  (repeat' first|simp(disch:=first|exact ai|fail) only[go_sem,j]|(refine ao ?_ ?_<;>intro)|refine cA s ?_)
  exact⟨_,rfl,_,bx.bg (.cons (bx.aS 2) (.cons (bx.refl _) .nil)),(λ_ _ _ h=>d7),rfl,mq.refl _ _,h⟩
 |true =>
  cases k:dM p.name with
  |false =>
   rw[j,k,Bool.and_false]at y;rw[y]at de;simp only[Bool.not_false,if_true,Option.some.injEq,Prod.mk.injEq]at de;obtain⟨rfl,rfl,rfl⟩:=de
   (repeat' first|simp(disch:=first|exact ai|fail) only[go_sem,j,k]|(refine ao ?_ ?_<;>intro)|refine cA s ?_)
   exact⟨_,rfl,_,bx.bg (.cons (bx.aS 2) (.cons (bx.refl _) .nil)),(λ_ _ _ h=>d7),rfl,mq.refl _ _,h⟩
  |true =>
   rw[j,k,Bool.and_true]at y;rw[y]at de;simp only[Bool.not_true,aLf,if_false]at de;cases o:p.name==[116,114,117,101]with
   |true =>
    rw[Q,o,Bool.true_or,if_pos rfl]at de;simp only[Option.some.injEq,Prod.mk.injEq]at de;obtain⟨rfl,rfl,rfl⟩:=de
    (repeat' first|simp(disch:=first|exact ai|fail) only[go_sem,j,k,o,aE,Wl]|(refine ao ?_ ?_<;>intro)|refine cA s ?_)
    exact⟨_,rfl,_,bx.refl _,(λ_ _ _ h=>d7),rfl,mq.refl _ _,h⟩
   |false =>
    cases w:p.name==[100,111,101,115]with
    |true =>
     rw[Q,o,w,Bool.or_true,if_pos rfl]at de;simp only[Option.some.injEq,Prod.mk.injEq]at de;obtain⟨rfl,rfl,rfl⟩:=de
     (repeat' first|simp(disch:=first|exact ai|fail) only[go_sem,j,k,o,w,aE,Wl]|(refine ao ?_ ?_<;>intro)|refine cA s ?_)
     exact⟨_,rfl,_,bx.refl _,(λ_ _ _ h=>d7),rfl,mq.refl _ _,h⟩
    |false =>
     rw[Q,o,w,Bool.or_false,if_neg be]at de;obtain⟨b,J⟩:∃b,b=oq q.rules (bz q.rules) p.name:=⟨_,rfl⟩;rw[<-J]at de;have S:b.length<=100000:=by have:=Lw q.rules (bz q.rules) p.name;have:=ae.h;rw[J];omega
     have oA:(lF q.rules b).length<=100000:=by have:=ac0 q.rules b;have:=ae.r;omega
     have z:=axi h p.name ae.e ae.h ae.r;rw[<-J]at z;have B:=acZ h b S;have C:=axh h b S ae.g ae.l;have hk:∀n∈b,n∈bz q.rules:=λn aI=>by rw[J]at aI;exact(aLb.1 aI).1
     have T:∀r∈lF q.rules b,∀a∈dx r,cc a<=1000000:=λr aw=>ae.d r (aLb.1 aw).1;have E9:(enc b:AV)=.list none 1 (b.map AV.str):=rfl;have H7:(enc (lF q.rules b):AV)=.list none 3 ((lF q.rules b).map aU.enc):=rfl;by_cases ef:0<b2 q.st b\/512<jK q.st q.given b
     ·unfold nQ at de;rw[if_pos ef]at de;cases V:iz (lF q.rules b) q.given with
      |none=>rw[V]at de;cases de|some R =>
       obtain⟨A,W⟩:=R;rw[V]at de;simp only at de;have O:=axk h b (lF q.rules b) S hk ae.w T V;have P:=adg h b hk A W;rcases aK9 W with wM|wM
       ·subst wM;simp only[if_true,ne_eq,not_true_eq_false,if_false,Option.some.injEq,Prod.mk.injEq]at de;obtain⟨rfl,rfl,rfl⟩:=de;have ny:((hI A q.st b p.name).getD [])=((hI A q.st b p.name).getD []):=rfl;rcases aK9 (b2 q.st b)with X|X
        ·have g:decide ((b2 q.st b:Int)>0)=false:=by simp;omega
         have t:decide ((jK q.st q.given b:Int)>512)=true:=by simp;omega
         (repeat' first|simp(disch:=first|exact ai|fail) only[go_sem,j,k,o,w,g,t]|(refine ao ?_ ?_<;>intro)|refine cA s ?_|refine cA z ?_|refine cA B ?_|refine cA C ?_)
         refine⟨⟨0,be⟩,?_⟩
         (repeat' first|simp(disch:=first|exact ai|fail) only[go_sem,g,t]|(refine ao ?_ ?_<;>intro)|refine cA C ?_|(refine iJ (And.intro O P) ?_;(rintro r Y ⟨rfl,u,c⟩))|fail)
         rw[if_pos rfl]at c;obtain⟨Z,v⟩:=c.o;unfold iC at v;simp only at v;obtain⟨v2,m2,E,x6,oh⟩:=c.m;have d:=oh p.name;simp only at d;cases x:hI A q.st b p.name with
         |none =>
          rw[x]at d
          (repeat' first|simp(disch:=first|exact ai|fail) only[go_sem,v,E,d,aLg]|(refine ao ?_ ?_<;>intro))
          exact⟨_,rfl,_,bx.refl _,(λ_ _ _ h=>d7),rfl,u,c⟩
         |some G =>
          rw[x]at d
          (repeat' first|simp(disch:=first|exact ai|fail) only[go_sem,v,E,d,aLh]|(refine ao ?_ ?_<;>intro))
          exact⟨_,rfl,_,bx.refl _,(λ_ _ _ h=>d7),rfl,u,c⟩
        ·have g:decide ((b2 q.st b:Int)>0)=true:=by simp;omega
         (repeat' first|simp(disch:=first|exact ai|fail) only[go_sem,j,k,o,w,g]|(refine ao ?_ ?_<;>intro)|refine cA s ?_|refine cA z ?_|refine cA B ?_)
         refine⟨⟨0,be⟩,?_⟩
         (repeat' first|simp(disch:=first|exact ai|fail) only[go_sem,g]|(refine ao ?_ ?_<;>intro)|(refine iJ (And.intro O P) ?_;(rintro r Y ⟨rfl,u,c⟩))|fail)
         rw[if_pos rfl]at c;obtain⟨Z,v⟩:=c.o;unfold iC at v;simp only at v;obtain⟨v2,m2,E,x6,oh⟩:=c.m;have d:=oh p.name;simp only at d;cases x:hI A q.st b p.name with
         |none =>
          rw[x]at d
          (repeat' first|simp(disch:=first|exact ai|fail) only[go_sem,v,E,d,aLg]|(refine ao ?_ ?_<;>intro))
          exact⟨_,rfl,_,bx.refl _,(λ_ _ _ h=>d7),rfl,u,c⟩
         |some G =>
          rw[x]at d
          (repeat' first|simp(disch:=first|exact ai|fail) only[go_sem,v,E,d,aLh]|(refine ao ?_ ?_<;>intro))
          exact⟨_,rfl,_,bx.refl _,(λ_ _ _ h=>d7),rfl,u,c⟩
       ·have xW:((W:Nat):Int)≠0:=by omega
        rw[if_neg am]at de;simp only at de;rw[if_pos am]at de;simp only[Option.some.injEq,Prod.mk.injEq]at de;obtain⟨rfl,rfl,rfl⟩:=de;rcases aK9 (b2 q.st b)with X|X
        ·have g:decide ((b2 q.st b:Int)>0)=false:=by simp;omega
         have t:decide ((jK q.st q.given b:Int)>512)=true:=by simp;omega
         (repeat' first|simp(disch:=first|exact ai|fail) only[go_sem,j,k,o,w,g,t]|(refine ao ?_ ?_<;>intro)|refine cA s ?_|refine cA z ?_|refine cA B ?_)
         refine⟨⟨0,be⟩,?_⟩
         (repeat' first|simp(disch:=first|exact ai|fail) only[go_sem,g,t]|(refine ao ?_ ?_<;>intro)|refine cA C ?_|(refine iJ (And.intro O P) ?_;(rintro r Y ⟨rfl,u,c⟩))|fail)
         rw[if_neg am]at c;subst c
         (repeat' first|simp(disch:=first|exact ai|fail) only[go_sem]|(refine ao ?_ ?_<;>intro))
         exact⟨_,rfl,_,bx.bg (.cons (bx.aS 2) (.cons (bx.refl _) .nil)),(λ_ _ _ h=>d7),rfl,u,h⟩
        ·have g:decide ((b2 q.st b:Int)>0)=true:=by simp;omega
         (repeat' first|simp(disch:=first|exact ai|fail) only[go_sem,j,k,o,w,g]|(refine ao ?_ ?_<;>intro)|refine cA s ?_|refine cA z ?_|refine cA B ?_)
         refine⟨⟨0,be⟩,?_⟩
         (repeat' first|simp(disch:=first|exact ai|fail) only[go_sem,g]|(refine ao ?_ ?_<;>intro)|(refine iJ (And.intro O P) ?_;(rintro r Y ⟨rfl,u,c⟩))|fail)
         rw[if_neg am]at c;subst c
         (repeat' first|simp(disch:=first|exact ai|fail) only[go_sem]|(refine ao ?_ ?_<;>intro))
         exact⟨_,rfl,_,bx.bg (.cons (bx.aS 2) (.cons (bx.refl _) .nil)),(λ_ _ _ h=>d7),rfl,u,h⟩
     ·unfold nQ at de;rw[if_neg ef]at de;simp only[ne_eq,not_true_eq_false,if_false,Option.some.injEq,Prod.mk.injEq]at de;obtain⟨rfl,rfl,rfl⟩:=de;have g:decide ((b2 q.st b:Int)>0)=false:=by simp;omega
      have t:decide ((jK q.st q.given b:Int)>512)=false:=by simp;omega
      have d:=aF p.name
      (repeat' first|simp(disch:=first|exact ai|fail) only[go_sem,j,k,o,w,g,t]|(refine ao ?_ ?_<;>intro)|refine cA s ?_|refine cA z ?_|refine cA B ?_)
      refine⟨⟨0,be⟩,?_⟩;cases x:q.st p.name with
      |none =>
       rw[x]at d
       (repeat' first|simp(disch:=first|exact ai|fail) only[go_sem,g,t,aE,hm,d,aLg]|(refine ao ?_ ?_<;>intro)|refine cA C ?_)
       exact⟨_,rfl,_,bx.refl _,(λ_ _ _ h=>d7),rfl,mq.refl _ _,h⟩
      |some G =>
       rw[x]at d
       (repeat' first|simp(disch:=first|exact ai|fail) only[go_sem,g,t,aE,hm,d,aLh]|(refine ao ?_ ?_<;>intro)|refine cA C ?_)
       exact⟨_,rfl,_,bx.refl _,(λ_ _ _ h=>d7),rfl,mq.refl _ _,h⟩
open Enc (enc)
theorem Ly(h:bm H id mid q)(p:I)(de:hx q p=some (hT,L,e)) :
  ∃(r:AV)(H':List ay),r=.bg [enc L,.int .i64 (e:Int)]/\mq (λi=>i=id\/i=mid) H H'/\bm H' id mid hT:=by
 unfold hx at de;split at de
 ·simp only[Option.some.injEq,Prod.mk.injEq]at de;obtain⟨rfl,rfl,rfl⟩:=de;exact⟨_,H,rfl,mq.refl _ _,h⟩
 ·split at de
  ·simp only[Option.some.injEq,Prod.mk.injEq]at de;obtain⟨rfl,rfl,rfl⟩:=de;exact⟨_,H,rfl,mq.refl _ _,h⟩
  ·split at de
   ·cases de
   ·rename_i d j a;have key:∃H',mq (λi=>i=id\/i=mid) H H'/\bm H' id mid d:=by
     unfold nQ at a;split at a
     ·split at a
      ·cases a
      ·rename_i A k m;split at a
       ·rename_i he;simp only[Option.some.injEq,Prod.mk.injEq]at a;obtain⟨rfl,rfl⟩:=a;obtain⟨r,H',-,b,c⟩:=adg h (oq q.rules (bz q.rules) p.name) (λn g=>(aLb.1 g).1) A 0;exact⟨H',b,by simpa using c⟩
       ·simp only[Option.some.injEq,Prod.mk.injEq]at a;obtain⟨rfl,rfl⟩:=a;exact⟨H,mq.refl _ _,h⟩
     ·simp only[Option.some.injEq,Prod.mk.injEq]at a;obtain⟨rfl,rfl⟩:=a;exact⟨H,mq.refl _ _,h⟩
    obtain⟨H',b,c⟩:=key;split at de
    ·simp only[Option.some.injEq,Prod.mk.injEq]at de;obtain⟨rfl,rfl,rfl⟩:=de;exact⟨_,H',rfl,b,c⟩
    ·simp only[Option.some.injEq,Prod.mk.injEq]at de;obtain⟨rfl,rfl,rfl⟩:=de;exact⟨_,H',rfl,b,c⟩
theorem axy(h:bm H id mid q)(ae:fU q)(a:I)(ar:dI a<=M)(de:cD 4 a false=true->hx q a=some (hT,L,e))(g:cD 4 a false=false->hT=q/\L=[]/\e=13)(cf:L.length<=M) :
  bB ν aD 18 [.ptr id 0,enc a] H λr H'=>r=.bg [.bool (decide (0<L.length)),.int .i64 (e:Int)]/\mq (λi=>i=id\/i=mid) H H'/\bm H' id mid hT:=by
 have o:M=1099511627776:=rfl;have d:=A7 h;refine bB.intro (D:=gf) ae2 ?_;unfold O7;cases b:cD 4 a false with
 |false =>
  obtain⟨rfl,rfl,rfl⟩:=g b
  (repeat' first|simp(disch:=first|exact ai|fail) only[go_sem,b]|(refine ao ?_ ?_<;>intro)|refine cA d ?_)
  exact⟨_,rfl,rfl,mq.refl _ _,h⟩
 |true =>
  have de:=de b;have j:=adh h ae a ar de;have c:=Ly h a de;have k:decide ((L.length:Int)>0)=decide (0<L.length):=by rw[Bool.eq_iff_iff];simp
  (repeat' first|simp(disch:=first|exact ai|fail) only[go_sem,b,k]|(refine ao ?_ ?_<;>intro)|refine cA d ?_|(refine iJ (And.intro j c) ?_;(rintro r p ⟨rfl,m,n⟩))|fail)
  exact⟨_,rfl,rfl,m,n⟩
open Enc (enc)
def nT(p g:I)(s:List aY):List aY×Bool :=
 if !q1 s||!cD 4 g false then([],false)else if(b3 p g s).2&&q1 (b3 p g s).1 then((b3 p g s).1,true)else([],false)
theorem axF(p g:I):nT p g []=LB p g:=rfl
def mW(l:List I)(p:I):List I:=l.filter λa=>(nT p a []).2
noncomputable def LF:List iZ:=[(136,hj λ(s:List aY)(b:aY)=>enc (lZ b s)),
 (93,qF λ(p:I)(g:I)(s:List aY)=>DQ (b3 p g s)),
 (91,eh λ(s:List aY)=>enc (q1 s)),
 (53,qF λ(p:I)(g:I)(s:List aY)=>DQ (nT p g s)),
 (15,hj λ(l:List I)(p:I)=>enc (mW l p))]
noncomputable def cM:bj:=ij gf (e1 LF)
instance aKi{D:bj}[h:bt D cM]:bt D gf:=h.ke
def adB:List Nat:=[136,93,91,53,15]++Kj
theorem axG:fq cM adB:=fq.or acV (kf LF)
theorem xr(h:∀xs,e1 LF f xs=F xs)(hk:Kj.contains f=false:=by rfl):∀xs,cM f xs=F xs:=λxs=>by rw[<-h];exact kg acV hk
variable {x3:AV}{p g:I}{s:List aY}
theorem axH[bt D cM][aT x1 p][aT x2 g][aT x3 s](h:aA ν aD 93 [enc p,enc g,enc s] (DQ (b3 p g s))):b1 ν aD D 93 [x1,x2,x3] K tg=K (DQ (b3 p g s)):=u2 (D':=cM) (F:=λ(p:I)(g:I)(s:List aY)=>DQ (b3 p g s)) (xr λ_=>rfl) h
theorem adD(b:aY):∀s:List aY,(lZ b s).length=s.length+1
 |[]=>rfl|x::r=>by
  rw[lZ];split
  ·rfl
  ·rw[aK3,adD b r,aK3]
theorem axI(s:List aY)(b:aY)(n:s.length+1<=M):aA ν aD 136 [enc s,enc b] (enc (lZ b s)):=by
 have o:M=1099511627776:=rfl;obtain⟨R,de⟩:∃R,R=lZ b s:=⟨_,rfl⟩;rw[<-de];refine aA.gK (D:=cM) PN cX (Enc.res _) (Enc.iI _) ?_;unfold JP
 (repeat' first|simp(disch:=first|exact ai|fail) only[go_sem]|(refine ao ?_ ?_<;>intro))
 refine bQ (λp:Nat×List aY×Bool=>⟨N [(0,.v (enc s)),(3,.v (.cL b.enc.cells)),(5,.v (.list (some 188) 3 (p.2.1.map aY.enc))),(6,.v (.bool p.2.2)),(7,.v (enc p.1))],[]⟩)
  (λp=>p.1<=s.length/\p.2.1.length<=p.1+p.2.2.toNat/\p.2.1++(if p.2.2 then s.drop p.1 else lZ b (s.drop p.1))=R) (λp=>s.length-p.1) (0,[],false) ⟨aK4 _,aK4 _,de.symm⟩ ci ?_
 rintro⟨i,X,d⟩ ⟨m,c,a⟩;simp only at m c a;have hd:d.toNat<=1:=by cases d<;>decide
 rcases aK5 i s.length with h|h
 ·rw[fi h,lZ]at a;cases d with
  |true =>
   rw[if_pos rfl]at a;rw[Bool.toNat_true]at c
   (repeat' first|simp(disch:=first|exact ai|fail) only[go_sem]|(refine ao ?_ ?_<;>intro))
   exact⟨(i+1,X++[s[i]!],true),⟨ap,by simp only[aK1,aLi,Bool.toNat_true];omega,kW⟩,ap,co⟩
  |false =>
   rw[if_neg be]at a;rw[Bool.toNat_false]at c;cases j:Op.bytesLess b.var s[i]!.var with
   |true =>
    rw[j,if_pos rfl]at a;have k:(X.map aY.enc++[b.enc]).length+1<=M:=by simp only[aK1,aKQ,aK3,aK2];omega
    (repeat' first|simp(disch:=first|exact ai|fail) only[go_sem,j,k]|(refine ao ?_ ?_<;>intro))
    exact⟨(i+1,X++[b]++[s[i]!],true),⟨ap,by simp only[aK1,aK3,aK2,Bool.toNat_true];omega,kW⟩,ap,co⟩
   |false =>
    rw[j,if_neg be]at a
    (repeat' first|simp(disch:=first|exact ai|fail) only[go_sem,j]|(refine ao ?_ ?_<;>intro))
    exact⟨(i+1,X++[s[i]!],false),⟨ap,by simp only[aK1,aLi,Bool.toNat_false];omega,kW⟩,ap,co⟩
 ·rw[aLj h]at a;cases d with
  |true =>
   rw[if_pos rfl,aLa]at a;rw[<-a]
   (repeat' first|simp(disch:=first|exact ai|fail) only[go_sem]|(refine ao ?_ ?_<;>intro))
   exact⟨_,rfl,el⟩
  |false =>
   rw[if_neg be,lZ]at a;rw[Bool.toNat_false]at c;rw[<-a]
   (repeat' first|simp(disch:=first|exact ai|fail) only[go_sem]|(refine ao ?_ ?_<;>intro))
   exact⟨_,rfl,by rw[aKS];exact bx.disown _ _ _⟩
theorem axJ[bt D cM]{b:aY}[aT x1 s][aT x2 b](h:s.length+1<=M) :b1 ν aD D 136 [x1,x2] K tg=K (enc (lZ b s)):=ik (D':=cM) (F:=λ(s:List aY)(b:aY)=>enc (lZ b s)) (xr λ_=>rfl) (axI s b h)
attribute [go_sem ↓ 2000] axJ
theorem xy(q:List aY×Bool):(DQ q).res=true:=by obtain⟨a,b⟩:=q;rfl
theorem axK(p g:I)(s:List aY):b3 p g s=if eJ p then(match jr s p.name with|some u=>(s,hi u g)|none=>(lZ ⟨p.name,g⟩ s,true))
  else if p.name != g.name||decide (p.args.length≠g.args.length)then([],false)else kl p.args g.args s:=by
 cases p;rw[b3];rfl
theorem axL{l m:List I}{i:Nat}(a:i<l.length)(b:i<m.length):kl (l.drop i) (m.drop i) s=if(b3 l[i]! m[i]! s).2 then kl (l.drop (i+1)) (m.drop (i+1)) (b3 l[i]! m[i]! s).1 else((b3 l[i]! m[i]! s).1,false):=by
 rw[fi a,fi b,kl]
mutual
theorem adF:∀(p g:I)(s:List aY),(b3 p g s).1.length<=s.length+dI p
 |.mk n l,g,s=>by
  have:=adH l g.args s;rw[b3,dI];split
  ·split
   ·simp only;omega
   ·simp only[adD];omega
  ·split
   ·exact aK4 _
   ·omega
theorem adH:∀(l m:List I)(s:List aY),(kl l m s).1.length<=s.length+kM l
 |p::ps,g::gs,s=>by
  have a:=adF p g s;have b:=adH ps gs (b3 p g s).1;rw[kl,kM];split
  ·omega
  ·simp only;omega
 |[],m,s=>by rw[kl];exact Nat.le_add_right _ _|_::_,[],s=>by rw[kl];exact Nat.le_add_right _ _
end
theorem axM:∀(p g:I)(s:List aY),s.length+dI p<=M->aA ν aD 93 [enc p,enc g,enc s] (DQ (b3 p g s)):=I.ind λp ih g s ax=>by
 have C:M=1099511627776:=rfl;rw[Ju]at ax;obtain⟨R,de⟩:∃R,R=b3 p g s:=⟨_,rfl⟩;rw[<-de];rw[axK]at de;cases d:eJ p with
 |true =>
  rw[d,if_pos rfl]at de;cases k:jr s p.name with
  |some u =>
   rw[k]at de;subst de;have m:za (some u)=.bg [enc u,.bool true]:=rfl;refine aA.gK (D:=cM) afi cX (xy _) (λ_ _ _ h=>d7) ?_;unfold Pq
   (repeat' first|simp(disch:=first|exact ai|fail) only[go_sem,d,k,m]|(refine ao ?_ ?_<;>intro))
   all_goals exact⟨_,rfl,bx.refl _⟩
  |none =>
   rw[k]at de;subst de;have m:za none=.bg [.agg [.str [],.list none 2 []],.bool false]:=rfl;refine aA.gK (D:=cM) afi cX (xy _) (λ_ _ _ h=>d7) ?_;unfold Pq
   (repeat' first|simp(disch:=first|exact ai|fail) only[go_sem,d,k,m]|(refine ao ?_ ?_<;>intro))
   all_goals exact⟨_,rfl,bx.refl _⟩
 |false =>
  rw[d,if_neg be]at de;cases j:p.name==g.name with
  |false =>
   rw[show(p.name != g.name)=true by rw[bne,j];rfl,Bool.true_or,if_pos rfl]at de;subst de;refine aA.gK (D:=cM) afi cX (xy _) (λ_ _ _ h=>d7) ?_;unfold Pq
   (repeat' first|simp(disch:=first|exact ai|fail) only[go_sem,d,j]|(refine ao ?_ ?_<;>intro))
   all_goals exact⟨_,rfl,bx.bg (.cons (bx.aS 3) (.cons (bx.refl _) .nil))⟩
  |true =>
   rw[show(p.name != g.name)=false by rw[bne,j];rfl,Bool.false_or]at de;by_cases o:p.args.length=g.args.length
   ·rw[decide_eq_false am,if_neg be]at de;have cG:((p.args.length:Int) != (g.args.length:Int))=false:=by rw[o];simp
    refine aA.sy λw E=>?_;have G:=((I.j5 p).1 w).2.1;refine aA.gK (D:=cM) afi cX (xy _) (λ_ _ _ h=>by obtain⟨a,b⟩:=R;cases h) ?_;unfold Pq
    (repeat' first|simp(disch:=first|exact ai|fail) only[go_sem,d,j,cG]|(refine ao ?_ ?_<;>intro))
    refine bQ (λi:Nat×List aY×Bool=>⟨N [(2,.v (enc i.2.1)),(3,.v (.cL p.enc.cells)),(4,.v (.cL g.enc.cells)),(10,.v (.bool i.2.2)),(11,.v (enc i.1))],[]⟩) (λi=>i.1<=p.args.length/\i.2.1.length+kM (p.args.drop i.1)<=M/\(if i.2.2 then kl (p.args.drop i.1) (g.args.drop i.1) i.2.1 else(i.2.1,false))=R) (λi=>p.args.length-i.1) (0,s,true) ⟨aK4 _,by simp only[List.drop_zero];omega,de.symm⟩ ci ?_;rintro⟨i,q,ok⟩ ⟨x,r,c⟩;simp only at x r c;rcases aK5 i p.args.length with al|al
    ·cases ok with
     |true =>
      rw[if_pos rfl,axL al am]at c;rw[aaL al]at r;have hd:=ih p.args[i]! (ek al) g.args[i]! q am;have t:=adF p.args[i]! g.args[i]! q;have y:=λ{K:AV->Prop}{tg:aN K}(J:i<p.args.length)=>axH (D:=cM) (K:=K) (tg:=tg) (x1:=p.args[i]!.enc) (x2:=g.args[i]!.enc) (x3:=.list none 3 (q.map aY.enc)) (hd);obtain⟨⟨hT,b⟩,v⟩:∃z,z=b3 p.args[i]! g.args[i]! q:=⟨_,rfl⟩;have n:DQ (b3 p.args[i]! g.args[i]! q)=.bg [enc hT,.bool b]:=by rw[<-v];rfl
      rw[<-v]at c t;simp only at c t
      (repeat' first|simp(disch:=first|exact ai|fail) only[go_sem,y,n]|(refine ao ?_ ?_<;>intro))
      exact⟨(i+1,hT,b),⟨ap,ap,c⟩,ap,co⟩
     |false =>
      rw[if_neg be]at c;subst c
      (repeat' first|simp(disch:=first|exact ai|fail) only[go_sem]|(refine ao ?_ ?_<;>intro))
      all_goals exact⟨_,rfl,bx.refl _⟩
    ·rw[aLj al,kl]at c;have B:(q,ok)=R:=by rw[<-c];cases ok<;>rfl
     subst B
     (repeat' first|simp(disch:=first|exact ai|fail) only[go_sem]|(refine ao ?_ ?_<;>intro))
     all_goals exact⟨_,rfl,bx.refl _⟩
   ·rw[decide_eq_true o,if_pos rfl]at de;subst de;have cG:((p.args.length:Int) != (g.args.length:Int))=true:=by simp;omega
    refine aA.gK (D:=cM) afi cX (xy _) (λ_ _ _ h=>d7) ?_;unfold Pq
    (repeat' first|simp(disch:=first|exact ai|fail) only[go_sem,d,j,cG]|(refine ao ?_ ?_<;>intro))
    all_goals exact⟨_,rfl,bx.bg (.cons (bx.aS 3) (.cons (bx.refl _) .nil))⟩
theorem axN[bt D cM][aT x1 p][aT x2 g][aT x3 s](h:s.length+dI p<=M) :b1 ν aD D 93 [x1,x2,x3] K tg=K (DQ (b3 p g s)):=u2 (D':=cM) (F:=λ(p:I)(g:I)(s:List aY)=>DQ (b3 p g s)) (xr λ_=>rfl) (axM p g s h)
attribute [go_sem ↓ 2000] axN
variable {a b:ak}
theorem axO(h:(Op.bytesLess b a||b==a)=false):Op.bytesLess a b=true:=by
 have c:=CN a b;have j:=CY a b;have d:=CN b a;have k:du b a≠0:=λe=>by rw[mY.1 e]at h;simp at h
 rw[Bool.or_eq_false_iff]at h;rw[h.1]at d;cases i:Op.bytesLess a b with
 |true=>rfl|false=>rw[i]at c;simp at c d;omega
theorem axP(h:(Op.bytesLess b a||b==a)=true):Op.bytesLess a b=false:=by
 have c:=CN a b;have j:=CY a b;have d:=CN b a;cases i:Op.bytesLess a b with
 |false=>rfl|true =>
  rw[i,if_pos rfl]at c;rw[Bool.or_eq_true]at h;rcases h with h|h
  ·rw[h,if_pos rfl]at d;omega
  ·have:=mY.2 (eq_of_beq h);omega
theorem axQ(s:List aY):aA ν aD 91 [enc s] (enc (q1 s)):=by
 refine aA.h4 λv=>?_;have y:M=1099511627776:=rfl;have v:s.length<=M:=v.1;rcases aK5 64 s.length with n|n
 ·have e:q1 s=false:=by rw[q1,decide_eq_false am,Bool.false_and]
  rw[e];refine aA.intro (D:=cM) ayV cX c7 ?_;unfold abi;simp(disch:=first|exact ai|fail) only[go_sem]
  (repeat' first|simp(disch:=first|exact ai|fail) only[go_sem]|(refine ao ?_ ?_<;>intro))
  all_goals rfl
 ·refine aA.intro (D:=cM) ayV cX c7 ?_;unfold abi;simp(disch:=first|exact ai|fail) only[go_sem]
  (repeat' first|simp(disch:=first|exact ai|fail) only[go_sem]|(refine ao ?_ ?_<;>intro))
  refine bQ (λi:Nat=>⟨N [(0,.v (enc s)),(3,.v (enc i))],[]⟩) (λi=>i<=s.length/\∀k,k<i->xz s k=true) (λi=>s.length-i) 0 ⟨aK4 _,λk h=>absurd h am⟩ ci ?_;rintro i ⟨z,w⟩;rcases aK5 i s.length with h|h
  ·cases c:xz s i with
   |true =>
    have x:∀k,k<i+1->xz s k=true:=λk hk=>by
     rcases aK5 k i with h|h
     ·exact w k h
     ·obtain rfl:k=i:=by omega
      exact c
    simp only[xz,Bool.and_eq_true]at c;obtain⟨⟨d,m⟩,v3⟩:=c;rcases aK9 i with o|o
    ·subst o
     (repeat' first|simp(disch:=first|exact ai|fail) only[go_sem,d,m]|(refine ao ?_ ?_<;>intro))
     exact⟨1,⟨am,x⟩,am,co⟩
    ·obtain⟨j,rfl⟩:∃j,i=j+1:=⟨i-1,am⟩;have v4:(Op.bytesLess s[j+1]!.var s[j]!.var||s[j+1]!.var==s[j]!.var)=false:=by simpa using v3
     have r:=axO v4;have t:(j:Int)+1-1=j:=by omega
     (repeat' first|simp(disch:=first|exact ai|fail) only[go_sem,d,m,r,t]|(refine ao ?_ ?_<;>intro))
     exact⟨j+2,⟨am,x⟩,am,co⟩
   |false =>
    have no:=aL5 h c;rw[no];unfold xz at c;cases d:eg s[i]!.var with
    |false =>
     (repeat' first|simp(disch:=first|exact ai|fail) only[go_sem,d]|(refine ao ?_ ?_<;>intro))
     all_goals rfl
    |true =>
     cases m:cD 4 s[i]!.term true with
     |false =>
      (repeat' first|simp(disch:=first|exact ai|fail) only[go_sem,d,m]|(refine ao ?_ ?_<;>intro))
      all_goals rfl
     |true =>
      rw[d,m]at c;obtain⟨j,rfl⟩:∃j,i=j+1:=⟨i-1,by rcases aK9 i with o|o;(· subst o;simp at c);omega⟩;have v4:(Op.bytesLess s[j+1]!.var s[j]!.var||s[j+1]!.var==s[j]!.var)=true:=by simp only[Bool.true_and,Bool.not_eq_false',Nat.zero_lt_succ,decide_true,Nat.add_sub_cancel]at c;exact c
      have r:=axP v4;have t:(j:Int)+1-1=j:=by omega
      (repeat' first|simp(disch:=first|exact ai|fail) only[go_sem,d,m,r,t]|(refine ao ?_ ?_<;>intro))
      all_goals rfl
  ·have u:=aL6 n λi al=>w i am;rw[u]
   (repeat' first|simp(disch:=first|exact ai|fail) only[go_sem]|(refine ao ?_ ?_<;>intro))
   all_goals rfl
theorem axR[bt D cM][aT x1 s]  :b1 ν aD D 91 [x1] K tg=K (enc (q1 s)):=ec (D':=cM) (F:=λ(s:List aY)=>enc (q1 s)) (xr λ_=>rfl) (axQ s)
attribute [go_sem ↓ 2000] axR
theorem axV(p g:I)(s:List aY)(ax:s.length+dI p<=M):aA ν aD 53 [enc p,enc g,enc s] (DQ (nT p g s)):=by
 obtain⟨R,h⟩:∃R,R=nT p g s:=⟨_,rfl⟩;rw[<-h];unfold nT at h;refine aA.gK (D:=cM) ae9 cX (xy _) (λ_ _ _ h=>by obtain⟨a,b⟩:=R;cases h) ?_;unfold Pg;obtain⟨⟨q,b⟩,d⟩:∃k,k=b3 p g s:=⟨_,rfl⟩;have c:DQ (b3 p g s)=.bg [enc q,.bool b]:=by rw[<-d];rfl
 rw[<-d]at h;cases i:q1 s<;>cases j:cD 4 g false<;>cases v3:b<;>cases v4:q1 q;all_goals simp only[i,j,v3,v4,Bool.not_true,Bool.not_false,Bool.true_or,Bool.or_true,Bool.false_or,Bool.and_true,Bool.true_and,Bool.and_false,if_true,if_false,aLf]at h
 all_goals subst h
 all_goals subst v3
 all_goals (repeat' first|simp(disch:=first|exact ai|fail) only[go_sem,i,j,v4,c]|(refine ao ?_ ?_<;>intro))
 all_goals exact⟨_,rfl,by first|exact bx.refl _|exact bx.bg (.cons (bx.aS 3) (.cons (bx.refl _) .nil))⟩
theorem axW[bt D cM][aT x1 p][aT x2 g][aT x3 s](h:s.length+dI p<=M) :b1 ν aD D 53 [x1,x2,x3] K tg=K (DQ (nT p g s)):=u2 (D':=cM) (F:=λ(p:I)(g:I)(s:List aY)=>DQ (nT p g s)) (xr λ_=>rfl) (axV p g s h)
attribute [go_sem ↓ 2000] axW
theorem axX(l:List I)(p:I)(ar:dI p<=M):aA ν aD 15 [enc l,enc p] (enc (mW l p)):=by
 refine aA.sy λc _=>?_;have j:M=1099511627776:=rfl;have c:l.length<=M:=c.1;refine aA.gK (D:=cM) ap0 cX (Enc.res _) (Enc.iI _) ?_;unfold P9
 (repeat' first|simp(disch:=first|exact ai|fail) only[go_sem]|(refine ao ?_ ?_<;>intro))
 refine bQ (λi:Nat=>⟨N [(0,.v (enc l)),(3,.v (.cL p.enc.cells)),(5,.v (.list (some 25) 2 ((mW (l.take i) p).map I.enc))),(6,.v (enc i))],[]⟩) (λi=>i<=l.length) (λi=>l.length-i) 0 (aK4 _) (by(try simp(disch:=first|exact ai|fail) only[go_sem])<;>(first|rfl|(simp(disch:=first|exact aX|fail) only[b7,aKW,aKX,Env.ins,cp,cq,cr,ct,cu,cv,cw,cx,I.b0,aKQ,aKU,aKY,aKZ,aKR,bL,aKS,aKV,aKT,cy,cz,go_sem,aKR,mW];try rfl))) ?_;intro i al;rcases aK5 i l.length with h|h
 ·have d:(mW (l.take i) p).length<=i:=by
   have:=aK6 (λa=>(nT p a []).2) (l.take i);rw[aLc]at this;unfold mW;omega
  have ax:mW (l.take (i+1)) p=mW (l.take i) p++if(nT p l[i]! []).2 then[l[i]!]else[]:=Ag h _;rw[bL h]at ax;obtain⟨X,bA⟩:∃X,X=mW (l.take i) p:=⟨_,rfl⟩;rw[<-bA]at d ax ⊢;obtain⟨⟨R,b⟩,de⟩:∃R,R=nT p l[i]! []:=⟨_,rfl⟩;have hm:DQ (nT p l[i]! [])=.bg [.list none 3 (R.map aY.enc),.bool b]:=by rw[<-de];rfl
  rw[<-de]at ax;cases b with
  |true =>
   rw[if_pos rfl]at ax
   (repeat' first|simp(disch:=first|exact ai|fail) only[go_sem,hm]|(refine ao ?_ ?_<;>intro))
   exact⟨i+1,am,am,by(first|rfl|(simp(disch:=first|exact aX|fail) only[b7,aKW,aKX,Env.ins,cp,cq,cr,ct,cu,cv,cw,cx,I.b0,aKQ,aKU,aKY,aKZ,aKR,bL,aKS,aKV,aKT,cy,cz,go_sem,ax];try rfl))⟩
  |false =>
   rw[if_neg be,aLa]at ax
   (repeat' first|simp(disch:=first|exact ai|fail) only[go_sem,hm]|(refine ao ?_ ?_<;>intro))
   exact⟨i+1,am,am,by(first|rfl|(simp(disch:=first|exact aX|fail) only[b7,aKW,aKX,Env.ins,cp,cq,cr,ct,cu,cv,cw,cx,I.b0,aKQ,aKU,aKY,aKZ,aKR,bL,aKS,aKV,aKT,cy,cz,go_sem,ax];try rfl))⟩
 ·obtain rfl:i=l.length:=by omega
  rw[aK7]
  (repeat' first|simp(disch:=first|exact ai|fail) only[go_sem]|(refine ao ?_ ?_<;>intro))
  exact⟨_,rfl,el⟩
theorem axY[bt D cM]{l:List I}[aT x1 l][aT x2 p](h:dI p<=M) :b1 ν aD D 15 [x1,x2] K tg=K (enc (mW l p)):=ik (D':=cM) (F:=λ(l:List I)(p:I)=>enc (mW l p)) (xr λ_=>rfl) (axX l p h)
attribute [go_sem ↓ 2000] axY
open Enc (enc)
def po(q:bp):List ak:=(bz q.rules).filter λs=>(q.st s).isSome
theorem adO(h:bm H id mid q):bB ν aD 21 [.ptr id 0] H λr H'=>r=.int .i64 (q.work:Int)/\H'=H:=by
 have c:=A7 h;obtain⟨d,aE⟩:=h.o;unfold iC at aE;refine bB.intro (D:=gf) aya ?_;unfold YK
 (repeat' first|simp(disch:=first|exact ai|fail) only[go_sem,aE]|(refine ao ?_ ?_<;>intro)|refine cA c ?_)
 exact⟨_,rfl,rfl⟩
def axZ(ID:Nat)(H:List ay)(v:AV)(ks:List ak):Prop:=(ks=[]/\v=.aS 1)\/(ks≠[]/\∃id,v=.bI id 0 ks.length 1/\ID<=id/\H[id]?=some (.buf 9 (ks.map AV.str)))
theorem ax0{s:au}{d:Nat}{K:au->Prop}{t:aN K} :o7 s d e 1 K t (.aS 1) (some (1,[.str a]))=di { s with heap:=s.heap++[ay.buf e [.str a],.dead] } d (.bI s.heap.length 0 1 1) K ⟨⟩:=by
 simp only[o7,aK3,aK2];rfl
theorem adP:∀l:List ak,im l=l.map AV.str
 |[]=>rfl|_::r=>by rw[im,adP r];rfl
theorem ax1{st:ak->Option (List I)}(hk:∀s,(st s).isSome=true->s∈bz l){ks:List ak}(d:ks.Nodup)(hm:∀s,s∈ks↔(st s).isSome=true):(Sort.sort ng ks.toArray).toList=(bz l).filter λs=>(st s).isSome:=by
 obtain⟨i,j⟩:=ajt GQ Sq d;have e:bz l=((l.map λr=>r.head.name).filter λs=>!(s==eG)).foldl (λa x=>nO ng x a) []:=by
  simp[bz,tH,Ss]
 obtain⟨c,-⟩:=GS GQ Sq ((l.map λr=>r.head.name).filter λs=>!(s==eG)) [] List.Pairwise.nil;rw[<-e]at c;refine Sn GQ i (c.sublist List.filter_sublist) λx=>?_;rw[j,hm,aLb];exact⟨λh=>⟨hk _ h,h⟩,λh=>h.2⟩
theorem mq.dead{o:ay}(h:mq (λ_=>False) H H'):mq (λ_=>False) H (H'.set H.length o) :=
 ⟨by rw[aK0];exact h.1,λj c d=>by rw[cj am];exact h.2 j c d⟩
theorem ax2(h:bm H id mid q)(mO:(bz q.rules).length<=100000):bB ν aD 22 [.ptr id 0] H λr H'=>r=enc (po q)/\mq (λ_=>False) H H':=by
 have cP:M=1099511627776:=rfl;have K3:=A7 h;obtain⟨ch,aE⟩:=h.o;obtain⟨jd,m,hm,pB,aF⟩:=h.m;have wS:=aE;unfold iC at aE;have bc:=dq aE;have lm:=dq hm
 have C:∀s,s∈cd m↔(q.st s).isSome=true:=λs=>by
  rw[<-aF s];have:=getM_none (l:=m) (s:=s);cases rB:getM m s with
  |none=>simp only[this.1 rB,Option.isSome_none,aLf]|some a =>
   rw[rB]at this;simp only[Option.isSome_some,iff_true];by_cases o:s∈cd m
   ·exact o
   ·exact absurd (this.2 o) be
 have rk:m.length<=100000:=by
  have:=List.Nodup.length_le_of_subset pB λs ax=>h.k s ((C s).1 ax);simp only[cd,aKQ]at this;omega
 refine bB.kX ?_;refine bB.intro (D:=gf) ayb ?_;unfold YN
 (repeat' first|simp(disch:=first|exact ai|fail) only[go_sem,aE,hm]|(refine ao ?_ ?_<;>intro)|refine cA K3 ?_)
 refine bQ (λp:List ak×AV×List ay=>⟨N [(3,.v p.2.1),(12,.v (.ptr H.length 0))],p.2.2⟩)
  (λp=>mX (λ_=>false) m p.1 m/\p.2.2[H.length]?=some (.iter (some mid) jd (p.1.map AV.str))/\axZ (H.length+1) p.2.2 p.2.1 p.1/\mq (λ_=>False) H p.2.2) (λp=>m.length-p.1.length) ([],.aS 1,H++[.iter (some mid) jd []]) ⟨mX.start pB,e5 rfl,.inl ⟨rfl,rfl⟩,⟨be,λj u _=>dE u⟩⟩ ci ?_
 rintro⟨ks,v,x⟩ ⟨gq,E,fc,G⟩;simp only at gq E fc G;have gb:=gq.len;have S:x[mid]?=some (.map jd (cI gC m)):=(G.2 _ lm (λh=>h)).trans hm;have li:=dq E;by_cases T:m.filter (λp=>!ks.contains p.1)=[]
 ·have J:∀s,s∈ks↔(q.st s).isSome=true:=λs=>by
   rw[<-C];refine⟨gq.Dj s,λax=>?_⟩;by_cases o:s∈ks
   ·exact o
   ·obtain⟨p,ar,rfl⟩:=List.mem_map.1 ax;have:p∈m.filter (λp=>!ks.contains p.1):=aLb.2 ⟨ar,by simpa using o⟩;rw[T]at this;cases this
  have O:=ax1 h.k gq.o8 J;rcases fc with⟨rfl,rfl⟩|⟨cG,i,rfl,Fz,ae⟩
  ·have aB:po q=[]:=List.filter_eq_nil_iff.2 λs _ o=>by cases (J s).2 o
   (repeat' first|simp(disch:=first|exact ai|fail) only[go_sem]|(refine ao ?_ ?_<;>intro)|refine Kp gC (l:=m) (ks:=[]) (mid:=mid) (n:=jd) E S T ?_|refine cA (aIb _) ?_)
   refine⟨_,rfl,enc (po q),?_,Enc.iI _,rfl,G.dead⟩;rw[aB];exact(aT.aS (α:=ak)).kX
  ·obtain⟨c,P⟩:∃c,c=x.set H.length .dead:=⟨_,rfl⟩;have V:c[i]?=some (.buf 9 (ks.map AV.str)):=by rw[P,cj am];exact ae
   have w:mq (λ_=>False) H c:=P▸G.dead;have nF:=dq V;have oS:xk 9 c i ks=c:=by unfold xk;rw[adP];exact C6 V
   have W:=aIc nF (L:=ks.length) (l:=ks) rfl am;rw[oS,O]at W;have S5:(po q).length=ks.length:=by
    rw[po,<-O];simpa using(Sort.sort_sorts ng GQ ks.toArray).1.1
   rw[show((bz q.rules).filter λs=>(q.st s).isSome)=po q from rfl]at W;obtain⟨X,bA⟩:∃X,X=po q:=⟨_,rfl⟩;rw[<-bA]at W S5 ⊢;have hex:∃(r:AV)(H':List ay),r=.bg []/\∃y,H'=xk 9 (c++y) i X:=⟨_,_,rfl,[],rfl⟩
   (repeat' first|simp(disch:=first|exact ai|fail) only[go_sem,<-P]|(refine ao ?_ ?_<;>intro)|refine Kp gC (l:=m) (ks:=ks) (mid:=mid) (n:=jd) E S T ?_|(refine iJ (And.intro W hex) ?_;(rintro r yM ⟨rfl,y,rfl⟩))|fail)
   have g5:(xk 9 (c++y) i X)[i]?=some (.buf 9 (im X)):=Sc (by rw[aK1];omega);have Gx:=λ{l:Env}{t:Nat}=>aH8 (l:=l) (H:=xk 9 (c++y) i X) (t:=t) (e:=9) (id:=i) (n:=ks.length) (m:=X) ⟨S5,am⟩
   (repeat' first|simp(disch:=first|exact ai|fail) only[go_sem,g5,Gx]|(refine ao ?_ ?_<;>intro))
   refine⟨_,rfl,enc X,bx.disown _ _ _,Enc.iI _,rfl,?_,λj u Q=>?_⟩
   ·have:=w.1;simp only[xk,aK0,aK1];omega
   ·rw[cj am];unfold xk;rw[cj am,dE (by have:=w.1;omega)];exact w.2 j u Q
 ·have aKj:H.length<x.length:=li;obtain⟨c,P⟩:∃c:ak->List ay,c=λs=>x.set H.length (.iter (some mid) jd ((ks++[s]).map AV.str)):=⟨_,rfl⟩;have z:∀s,x.set H.length (.iter (some mid) jd ((ks++[s]).map AV.str))=c s:=λs=>by rw[P]
  have gl:∀s,(c s).length=x.length:=λs=>by rw[<-z,aK0]
  have ax6:∀s,mq (λ_=>False) H (c s):=λs=>by rw[<-z];exact G.dead
  have Y:∀s,(c s)[H.length]?=some (.iter (some mid) jd ((ks++[s]).map AV.str)):=λs=>by rw[<-z];exact dV li
  have oY:∀s,(c s)[mid]?=some (.map jd (cI gC m)):=λs=>by rw[<-z,cj am];exact S
  (repeat' first|simp(disch:=first|exact ai|fail) only[go_sem,z]|(refine ao ?_ ?_<;>intro)|(refine Q2 gC (l:=m) (ks:=ks) (mid:=mid) (n:=jd) E S T ?_;(rintro⟨s,a⟩ ar Da);(have By:=(sE gq.n).2 ar))|fail)
  have Z:=gq.next ar Da;simp only[aLf,if_false]at Z;have k:=Z.len;rw[aK1]at k;simp only[aK3,aK2]at k;have B:=ax6 s;have R:=gl s;rcases fc with⟨EP,rfl⟩|⟨cG,i,rfl,Fz,ae⟩
  ·(repeat' first|simp(disch:=first|exact ai|fail) only[go_sem,Y,oY,By,ax0]|(refine ao ?_ ?_<;>intro))
   refine⟨(ks++[s],.bI (c s).length 0 1 1,c s++[.buf 9 [.str s],.dead]),⟨Z,?_,.inr ⟨be,(c s).length,by rw[EP];rfl,am,by rw[EP];exact e5 rfl⟩,⟨by rw[aK1];have:=B.1;omega,λj u Q=>?_⟩⟩,by simp only[aK1,aK3,aK2];omega,by(first|rfl|(simp(disch:=first|exact aX|fail) only[b7,aKW,aKX,Env.ins,cp,cq,cr,ct,cu,cv,cw,cx,I.b0,aKQ,aKU,aKY,aKZ,aKR,bL,aKS,aKV,aKT,cy,cz,go_sem,R];try rfl))⟩
   ·rw[dE am];exact Y s
   ·rw[dE (by have:=B.1;omega)];exact B.2 j u Q
  ·have V:(c s)[i]?=some (.buf 9 (ks.map AV.str)):=by rw[<-z,cj am];exact ae
   have aF8:(c s)[i]?=some (.buf 9 (ks.map AV.str))/\ks.length<=(ks.map AV.str).length/\(ks.map AV.str).take ks.length=ks.map AV.str/\ks.length+[s].length<=M:=⟨V,be,aLe be,by simp only[aK3,aK2];omega⟩;have bk:=λ{e0:Env}{K:au->Prop}{t:aN K}{d:Nat}=>Fy (e0:=e0) (K:=K) (t:=t) (d:=d) aF8;simp only[aKV,aKT,aK3,aK2]at bk
   (repeat' first|simp(disch:=first|exact ai|fail) only[go_sem,Y,oY,By,bk]|(refine ao ?_ ?_<;>intro))
   refine⟨(ks++[s],.bI (c s).length 0 (ks.length+1) 1,(c s).set i .dead++[.buf 9 ((ks++[s]).map AV.str),.dead]),⟨Z,?_,.inr ⟨be,_,by rw[aK1];rfl,am,e5 (by rw[aK0])⟩,⟨by rw[aK1,aK0];have:=B.1;omega,λj u Q=>?_⟩⟩,by simp only[aK1,aK3,aK2];omega,by(first|rfl|(simp(disch:=first|exact aX|fail) only[b7,aKW,aKX,Env.ins,cp,cq,cr,ct,cu,cv,cw,cx,I.b0,aKQ,aKU,aKY,aKZ,aKR,bL,aKS,aKV,aKT,cy,cz,go_sem,R];try rfl))⟩
   ·rw[dE (by rw[aK0];omega),cj am];exact Y s
   ·rw[dE (by rw[aK0];have:=B.1;omega),cj am];exact B.2 j u Q
end AM
