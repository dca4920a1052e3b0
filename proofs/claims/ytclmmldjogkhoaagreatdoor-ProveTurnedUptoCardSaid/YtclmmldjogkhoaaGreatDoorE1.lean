/- What functions of the given program do, as calls of the machine. Conditions: names and lists are bounded where that is said. -/
import Derived.Test.YtclmmldjogkhoaaGreatDoorW1
import Derived.Test.YtclmmldjogkhoaaGreatDoorAm17
set_option linter.unusedSimpArgs false
set_option maxRecDepth 100000
set_option maxHeartbeats 4000000
set_option linter.unusedVariables false
namespace AM
open List renaming length_append -> I9,length_cons -> Ja,replicate -> LW,length_nil -> TH,take_zero -> fM,length_map -> ae0,foldr_cons -> aB5,foldr_nil -> aB8,map_append -> aHW,map_cons -> aIA,map_nil -> aIB,append_nil -> aIC,append_assoc -> aID,take_of_length_le -> aIE,set_append_right -> aIF
open Nat renaming zero_le -> aeZ
open Int renaming natCast_add -> aB9,natCast_one -> aHk,natCast_zero -> aHV
open Go Go.Proofs
open Tryz renaming prog -> ν
attribute [go_sem] dD b5 dp eE eY eN
open Enc (enc)
def nE(H:List ax)(p:aj):Prop:=∃a v,H[0]?=some (.buf 139 [a,v])/\(a=.eP\/a=.ptr 0 0) /\
 ((v=.aV 1/\p=[])\/∃o,o≠0/\p≠[]/\v=.bs o 0 p.length 1/\H[o]?=some (.buf 5 (h7 p)))
theorem nE.ex(p:aj):∃H,nE H p:=by
 by_cases h:p=[]
 ·exact⟨[.buf 139 [.eP,.aV 1]],.eP,.aV 1,rfl,.inl rfl,.inl ⟨rfl,h⟩⟩
 ·exact⟨[.buf 139 [.eP,.bs 1 0 p.length 1],.buf 5 (h7 p)],.eP,.bs 1 0 p.length 1,rfl,.inl rfl,.inr ⟨1,by decide,h,rfl,rfl⟩⟩
variable {H:List ax}
theorem Ez{a v:AV}(h:H[0]?=some (.buf 139 [a,v]))(aE:a=.eP\/a=.ptr 0 0) :
  bn ν aB 134 [.ptr 0 0] H fun r H'=>r=.a8 []/\H'=H.set 0 (.buf 139 [.ptr 0 0,v]):=by
 refine bn.intro (D:=mc) atL ?_;unfold ZY;rcases aE with rfl|rfl
 ·(repeat' first|simp(disch:=first|exact aq|fail) only[go_sem,h]|(apply av<;>intro))
  exact⟨_,rfl,rfl⟩
 ·(repeat' first|simp(disch:=first|exact aq|fail) only[go_sem,h]|(apply av<;>intro))
  refine⟨_,rfl,rfl,?_⟩;apply List.ext_getElem?;intro i;by_cases ak:0=i
  ·subst ak;rw[h,dD (dd h)]
  ·rw[b5 ak]
variable {p:aj}
theorem ac0{q:aj}(h:nE H p)(d:p.length+q.length<=M) :
  bn ν aB 112 [.ptr 0 0,.str q] H fun r H'=>r=.a8 [.int .i64 q.length,.kj]/\nE H' (p++q):=by
 have g:M=1099511627776:=rfl;obtain⟨a,v,b,U,c⟩:=h;have f:=dd b;refine bn.intro (D:=mc) atv ?_;unfold Zm;rcases c with⟨rfl,rfl⟩|⟨o,aA,ao,rfl,c⟩
 ·by_cases e:q=[]
  ·subst e
   (repeat' first|simp(disch:=first|exact aq|fail) only[go_sem,ay7]|(apply av<;>intro)|refine b6 (Ez b U) ?_)
   exact⟨_,rfl,rfl,_,_,dD (by simpa using f),.inr rfl,.inl ⟨rfl,rfl⟩⟩
  ·have i:q≠[]/\q.length<=M:=⟨e,by simpa using d⟩
   (repeat' first|simp(disch:=first|exact aq|fail) only[go_sem,acZ]|(apply av<;>intro)|refine b6 (Ez b U) ?_)
   exact⟨_,rfl,rfl,_,_,by(simp(disch:=first|exact aq|fail) only[dD,b5,dp,eE,eY,eN];try rfl),.inr rfl,.inr ⟨H.length,by omega,by simp_all,rfl,by(simp(disch:=first|exact aq|fail) only[dD,b5,dp,eE,eY,eN];try rfl)⟩⟩
 ·have j:(H.set 0 (ax.buf 139 [AV.ptr 0 0,AV.bs o 0 p.length 1]))[o]?=some (.buf 5 (h7 p))/\p.length=p.length/\p.length+q.length<=M:=⟨by rw[b5 (Ne.symm aA),c],rfl,d⟩;have k:=dd c
  (repeat' first|simp(disch:=first|exact aq|fail) only[go_sem,acY]|(apply av<;>intro)|refine b6 (Ez b U) ?_)
  exact⟨_,rfl,rfl,_,_,by(simp(disch:=first|exact aq|fail) only[dD,b5,dp,eE,eY,eN];try rfl),.inr rfl,.inr ⟨H.length,by omega,by simp_all,rfl,by(simp(disch:=first|exact aq|fail) only[dD,b5,dp,eE,eY,eN];try rfl)⟩⟩
theorem OE{c:UInt8}{n:Int}(e:n=c.toNat)(h:nE H p)(f:p.length+1<=M) :
  bn ν aB 113 [.ptr 0 0,.int .u8 n] H fun r H'=>r=.kj/\nE H' (p++[c]):=by
 have g:M=1099511627776:=rfl;subst e;obtain⟨a,v,d,U,b⟩:=h;have i:=dd d;refine bn.intro (D:=mc) atw ?_;unfold Zo;have ae:[AV.int .u8 (c.toNat:Int)]=h7 [c]:=rfl;rcases b with⟨rfl,rfl⟩|⟨o,aA,ao,rfl,b⟩
 ·have j:[c]≠[]/\[c].length<=M:=⟨by simp,by simp[g]⟩
  (repeat' first|simp(disch:=first|exact aq|fail) only[go_sem,acZ,ae,OD]|(apply av<;>intro)|refine b6 (Ez d U) ?_)
  exact⟨_,rfl,rfl,_,_,by(simp(disch:=first|exact aq|fail) only[dD,b5,dp,eE,eY,eN];try rfl),.inr rfl,.inr ⟨H.length,by omega,by simp_all,rfl,by(simp(disch:=first|exact aq|fail) only[dD,b5,dp,eE,eY,eN];try rfl)⟩⟩
 ·have k:(H.set 0 (ax.buf 139 [AV.ptr 0 0,AV.bs o 0 p.length 1]))[o]?=some (.buf 5 (h7 p))/\p.length=p.length/\p.length+[c].length<=M:=⟨by rw[b5 (Ne.symm aA),b],rfl,f⟩;have l:=dd b
  (repeat' first|simp(disch:=first|exact aq|fail) only[go_sem,acY,ae,OD]|(apply av<;>intro)|refine b6 (Ez d U) ?_)
  exact⟨_,rfl,rfl,_,_,by(simp(disch:=first|exact aq|fail) only[dD,b5,dp,eE,eY,eN];try rfl),.inr rfl,.inr ⟨H.length,by omega,by simp_all,rfl,by(simp(disch:=first|exact aq|fail) only[dD,b5,dp,eE,eY,eN];try rfl)⟩⟩
theorem aza(h:nE H p)(d:p.length<=M) :
  bn ν aB 85 [.ptr 0 0] H fun r H'=>r=.str p:=by
 have f:M=1099511627776:=rfl;obtain⟨a,v,b,U,c⟩:=h;have g:=dd b;refine bn.intro (D:=mc) as9 ?_;unfold Yz;rcases c with⟨rfl,rfl⟩|⟨o,aA,ao,rfl,c⟩
 ·(repeat' first|simp(disch:=first|exact aq|fail) only[go_sem,b]|(apply av<;>intro))
  exact⟨_,rfl,rfl⟩
 ·have e:0<p.length:=List.length_pos_iff.2 ao;have i:H[o]?=some (ax.buf 5 (h7 p))/\p.length=p.length/\0<p.length/\p.length<=M:=⟨c,rfl,e,d⟩
  (repeat' first|simp(disch:=first|exact aq|fail) only[go_sem,b,ay3]|(apply av<;>intro))
  exact⟨_,rfl,rfl⟩
variable {f:Nat}{vs:List AV}{K:AV->List ax->Prop}{tg:aM K}{r:AV}
theorem xA(h:bn ν aB f vs H fun r' H'=>r'=r/\nE H' p)(hk:∀H',nE H' p->K r H'):ma ν aB f vs H K tg :=
 iW ⟨h,by obtain⟨H',a⟩:=nE.ex p;exact⟨_,_,rfl,a⟩⟩ fun r' H' ⟨b,U⟩=>by rw[b];exact hk H' U
theorem azb(h:bn ν aB f vs H fun r' _=>r'=r)(hk:∀H',K r H'):ma ν aB f vs H K tg :=
 iW ⟨h,_,[],rfl⟩ fun r' H' a=>by rw[a];exact hk H'
variable {l:List I}{i:Nat}
theorem azc(h:i<l.length):jW (l.take (i+1))=if i=0 then cy l[i]! else jW (l.take i)++44::cy l[i]!:=by
 rw[bZ h];by_cases a:i=0
 ·subst a;rw[if_pos rfl,fM,List.nil_append,aye]
 ·rw[if_neg a,ayf];intro b;have:=congrArg List.length b;rw[List.length_take,TH]at this;omega
theorem azd(h:i<=l.length):(jW (l.take i)).length<=(jW l).length:=by
 have c:l=l.take i++l.drop i:=(List.take_append_drop i l).symm;have U:∀a b:List I,(jW a).length<=(jW (a++b)).length:=fun a b=>by
  cases a with
  |nil=>simp[jW]|cons x r =>
   have:∀r b:List I,iY (r++b)=iY r++iY b:=fun r b=>by
    induction r with
    |nil=>simp[iY]|cons y r ih=>simp[iY,ih]
   simp[jW,this]
 conv=>rhs;rw[c]
 exact U _ _
theorem aze(l:List I):l.length<=(jW l).length+1:=by
 have h:∀r:List I,r.length<=(iY r).length:=fun r=>by
  induction r with
  |nil=>simp|cons t r ih=>simp only[iY,Ja,I9];omega
 cases l with
 |nil=>simp|cons t r=>have:=h r;simp only[jW,Ja,I9];omega
theorem azf:∀(t:I){H:List ax}{p:aj},nE H p->p.length+(cy t).length<=M ->
  bn ν aB 84 [.ptr 0 0,t.enc] H fun r H'=>r=.a8 []/\nE H' (p++cy t):=I.ind fun t ih H p h b=>by
 have A:M=1099511627776:=rfl;rw[acy]at b ⊢;refine bn.intro (D:=mc) as8 ?_;unfold Yx;by_cases j:t.args.length=0
 ·rw[if_pos j]at b ⊢
  (repeat' first|simp(disch:=first|exact aq|fail) only[go_sem,j]|(apply av<;>intro)|(refine xA (ac0 ‹nE _ _› b) ?_;intro s m))
  exact⟨_,rfl,rfl,m⟩
 ·rw[if_neg j]at b ⊢;simp only[I9,Ja,TH]at b
  (repeat' first|simp(disch:=first|exact aq|fail) only[go_sem,j]|(apply av<;>intro)|(refine xA (ac0 ‹nE _ _› (by omega)) ?_;intro s m)|(refine xA (OE (c:=40) rfl ‹nE _ _› (by simp only[I9];omega)) ?_;intro u U))
  refine b9 (fun q:Nat×List ax=>⟨N [(0,.v (.ptr 0 0)),(17,.v (enc t.args)),(18,.v (enc t.args.length)),(19,.v (enc q.1))],q.2⟩)
   (fun q=>q.1<=t.args.length/\nE q.2 (p++(t.name++40::jW (t.args.take q.1)))) (fun q=>t.args.length-q.1) (0,u) ⟨aeZ _,by simpa[jW]using U⟩ (by(try simp(disch:=first|exact aq|fail) only[go_sem])<;>(exact bG)) ?_
  have v:=aze t.args;rintro⟨i,B⟩ ⟨w,d⟩;simp only at w d;by_cases ak:i<t.args.length
  ·have a:=azc ak;have k:=azd (l:=t.args) (i:=i+1) ak;have n:=@ih t.args[i]! (ft ak);by_cases e:i=0
   ·rw[if_pos e]at a;rw[a]at k;have x:=n d (by rw[e,fM,jW,<-e];simp only[I9,Ja,TH];omega)
    (repeat' first|simp(disch:=first|exact aq|fail) only[go_sem]|(apply av<;>intro)|(refine xA x ?_;intro o g))
    exact⟨(i+1,_),⟨by simp only;omega,by simp only;rw[a];simpa[e,jW]using g⟩,by simp only;omega,by(exact bG)⟩
   ·rw[if_neg e]at a;rw[a]at k;simp only[I9,Ja]at k
    (repeat' first|simp(disch:=first|exact aq|fail) only[go_sem]|(apply av<;>intro)|(refine xA (OE (c:=44) rfl d (by simp only[I9,Ja];omega)) ?_;intro o g)|(refine xA (n g (by simp only[I9,Ja,TH];omega)) ?_;intro C y))
    exact⟨(i+1,_),⟨by simp only;omega,by simp only;rw[a];simpa using y⟩,by simp only;omega,by(exact bG)⟩
  ·have z:t.args.take i=t.args:=aIE (by omega);rw[z]at d
   (repeat' first|simp(disch:=first|exact aq|fail) only[go_sem]|(apply av<;>intro)|(refine xA (OE (c:=41) rfl d (by simp only[I9,Ja];omega)) ?_;intro o g))
   exact⟨_,rfl,rfl,by simpa using g⟩
noncomputable def OF:List kX:=[(51,fO fun(t:I)=>enc (cy t))]
noncomputable def lM:bc:=jV mc (fT OF)
instance aHj{D:bc}[h:bq D lM]:bq D mc:=h.nA
theorem ac1:gC lM ([51]++([23,16]++([45]++([43,126,107,77,106]++[58,88,120,94,57,40,71,99,101,25,7,74])))):=gC.or Om (nB OF)
variable {F:List AV->Option AV}
theorem azg(h:∀xs,fT OF f xs=F xs)(hk:(([23,16]++([45]++([43,126,107,77,106]++[58,88,120,94,57,40,71,99,101,25,7,74]))):List Nat).contains f=false:=by rfl):∀xs,lM f xs=F xs:=fun xs=>by rw[<-h];exact mS Om hk
variable {D:bc}{x1:AV}{t:I}{K:AV->Prop}{tg:aM K}
theorem azh[bq D lM][aT x1 t](h:aF ν aB 51 [enc t] (enc (cy t))):bT ν aB D 51 [x1] K tg=K (enc (cy t)):=gN (D':=lM) (F:=fun(t:I)=>enc (cy t)) (azg fun _=>rfl) h
theorem azi(t:I)(a:(cy t).length<=M):aF ν aB 51 [enc t] (enc (cy t)):=by
 have d:M=1099511627776:=rfl;refine aF.intro (D:=lM) asM fp fg ?_;unfold Xh;simp(disch:=first|exact aq|fail) only[go_sem];have b:nE [ax.buf 139 [AV.eP,AV.aV 1],ax.dead] []:=⟨_,_,rfl,.inl rfl,.inl ⟨rfl,rfl⟩⟩
 (repeat' first|simp(disch:=first|exact aq|fail) only[go_sem]|(apply av<;>intro)|(refine xA (azf t b (by simpa using a)) ?_;intro e c)|(refine azb (aza c (by simpa using a)) ?_;intro g))
 all_goals rfl
theorem azj[bq D lM][aT x1 t](h:(cy t).length<=M) :bT ν aB D 51 [x1] K tg=K (enc (cy t)):=azh (azi t h)
attribute [go_sem ↓ 2000] azj
open Enc (enc)
theorem OQ(H:List ax):bn ν aB 20 [] H fun r H'=>r=.ptr (H.length+2) 0/\H'=H++[.map 0 []]++[.map 0 []]++[.cells [.map H.length,.map (H.length+1)]]:=by
 refine bn.intro (D:=lM) aso ?_;unfold V1
 (repeat' first|simp(disch:=first|exact aq|fail) only[go_sem]|(apply av<;>intro))
 exact⟨_,rfl,by simp,by simp⟩
variable {x k b:Nat}{S:List I}
theorem azA(h:gq 30 H x k b S)(a:I)(g:(cy a).length<=M) :
  bn ν aB 95 [.ptr x 0,a.enc] H fun r H'=>r=.bool (kc S a)/\H'=H:=by
 obtain⟨n,m,km,bj,aA,e⟩:=h;have ah:=aA.ah;have hk:=aA.hk;have ae:=aA.ae
 have c:=e.has a;refine bn.intro (D:=lM) ati ?_;unfold YS;cases d:getM km (cy a)with
 |none =>
  rw[d]at c
  (repeat' first|simp(disch:=first|exact aq|fail) only[go_sem,d,ah,hk,ae]|(apply av<;>intro))
  exact⟨_,rfl,by rw[<-c];rfl⟩
 |some u =>
  rw[d]at c
  (repeat' first|simp(disch:=first|exact aq|fail) only[go_sem,d,ah,hk,ae]|(apply av<;>intro))
  exact⟨_,rfl,by rw[<-c];rfl⟩
def qO(e:Nat)(H:List ax)(k b n m:Nat)(km:List (aj×I))(bj:List (aj×List I))(S:List I)(a:I):List ax :=
 if kc S a=true then H else(H.set k (.map (n+1) (cb I.enc (fz km (cy a) a)))).set b (.map (kD m bj a.name) (cb (k1 e) (fz bj a.name (iE S a.name++[a]))))
variable {n:Nat}
theorem Io{m:Nat}{km:List (aj×I)}{bj:List (aj×List I)}(aA:tX 30 H x k b n m km bj)(q:iZ km bj S)(a:I)(E:(cy a).length<=M)(dg:S.length+1<=M) :
  bn ν aB 21 [.ptr x 0,a.enc] H fun r H'=>r=.bool (!kc S a)/\H'=qO 30 H k b n m km bj S a:=by
 have ah:=aA.ah;have hk:=aA.hk;have ae:=aA.ae
 have y:=dd ah;have G:=dd hk;have J:=dd ae
 have z:=aA.OI;have A:=aA.OJ;have B:=aA.cc
 have O:=Ne.symm z;have P:=Ne.symm A;have Q:=Ne.symm B
 have c:=q.has a;refine bn.intro (D:=lM) asp ?_;unfold V3;cases g:getM km (cy a)with
 |some u =>
  rw[g]at c
  (repeat' first|simp(disch:=first|exact aq|fail) only[go_sem,g,ah,hk,ae]|(apply av<;>intro))
  exact⟨_,rfl,by rw[<-c];rfl,by rw[qO,if_pos (show kc S a=true from c.symm)]⟩
 |none =>
  rw[g]at c;have w:kD n km (cy a)=n+1:=by rw[kD,g]
  have d:=q.OH a.name;have C:(iE S a.name).length<=S.length:=List.length_filter_le _ _;cases e:getM bj a.name with
  |none =>
   have j:iE S a.name=[]:=by
    rw[e]at d;by_cases h:iE S a.name=[]
    ·exact h
    ·rw[if_neg h]at d;cases d
   have o:∀{s:an}{v n id:Nat}{K:an->Prop}{t:aM K},vP [1] s v (.str a.name) id 30 2 [a.enc] K t (some (.map n (cb (k1 30) bj)))=c7 { s with heap:=s.heap.set id (.map (n+1) (cb (k1 30) (fz bj a.name [a]))) } v (.list none 2 ([a].map I.enc)) K ⟨⟩:=ayA e rfl
   (repeat' first|simp(disch:=first|exact aq|fail) only[go_sem,g,ah,hk,ae,w,e,ayw,o]|(apply av<;>intro))
   exact⟨_,rfl,by rw[<-c];rfl,by rw[qO,if_neg (by rw[<-c];simp),j,kD,e];rfl⟩
  |some L =>
   have cg:L=iE S a.name:=by
    rw[e]at d;by_cases h:iE S a.name=[]
    ·rw[if_pos h]at d;cases d
    ·rw[if_neg h]at d;exact Option.some.inj d
   have R:L.length+1<=M:=by rw[cg];omega
   have o:∀{s:an}{v n id:Nat}{x:AV}{K:an->Prop}{t:aM K},vP [1] s v (.str a.name) id 30 2 (L.map I.enc++[a.enc]) K t (some (.map n (iJ (cb (k1 30) bj) (.str a.name) x)))=c7 { s with heap:=s.heap.set id (.map n (cb (k1 30) (fz bj a.name (L++[a])))) } v (.list none 2 ((L++[a]).map I.enc)) K ⟨⟩:=ayz (by rw[e];rfl) (by simp)
   (repeat' first|simp(disch:=first|exact aq|fail) only[go_sem,g,ah,hk,ae,w,ayv e,o]|(apply av<;>intro))
   exact⟨_,rfl,by rw[<-c];rfl,by rw[qO,if_neg (by rw[<-c];simp),<-cg,kD,e];simp⟩
theorem ada(h:gq 30 H x k b S)(dg:S.length<=M) :
  bn ν aB 24 [.ptr x 0] H fun r H'=>r=enc (fu S)/\H'=H++[.dead]:=by
 have y:M=1099511627776:=rfl;obtain⟨n,m,km,bj,aA,d⟩:=h;have ah:=aA.ah;have hk:=aA.hk;have ae:=aA.ae
 have o:=dd ah;have z:=dd hk;have A:=dd ae
 have c:=d.len;refine bn.intro (D:=lM) ass ?_;unfold Wc
 (repeat' first|simp(disch:=first|exact aq|fail) only[go_sem,ah,hk,ae,zn,c]|(apply av<;>intro))
 refine b9 (fun L:List I=>⟨N [(3,.v (.list (some 30) 2 (L.map I.enc))),(16,.v (.ptr H.length 0))],H++[.iter (some k) n ((L.map cy).map AV.str)]⟩)
  (fun L=>(L.map cy).Nodup/\∀a∈L,a∈S) (fun L=>S.length-L.length) [] ⟨.nil,fun _ h=>by cases h⟩ (by(try simp(disch:=first|exact aq|fail) only[go_sem])<;>(exact bG)) ?_
 rintro L ⟨j,e⟩;have s:=ac3 j e;by_cases g:km.filter (fun p=>!(L.map cy).contains p.1)=[]
 ·have az:fu L=fu S:=axz (d.all e g)
  (repeat' first|simp(disch:=first|exact aq|fail) only[go_sem,ah,hk,ae]|(apply av<;>intro)|refine Ih I.enc (l:=km) (ks:=L.map cy) (mid:=k) (n:=n) (by(simp(disch:=first|exact aq|fail) only[dD,b5,dp,eE,eY,eN];try rfl)) (by(simp(disch:=first|exact aq|fail) only[dD,b5,dp,eE,eY,eN,hk];try rfl)) g ?_)
  exact⟨_,rfl,by rw[az]⟩
 ·(repeat' first|simp(disch:=first|exact aq|fail) only[go_sem,ah,hk,ae]|(apply av<;>intro)|(refine Oy I.enc (l:=km) (ks:=L.map cy) (mid:=k) (n:=n) (by(simp(disch:=first|exact aq|fail) only[dD,b5,dp,eE,eY,eN];try rfl)) (by(simp(disch:=first|exact aq|fail) only[dD,b5,dp,eE,eY,eN,hk];try rfl)) g ?_;(rintro⟨q,a⟩ ao u);(obtain⟨aE,rfl⟩:=(d.mem q a).1 ao);(have B:=(rP d.pX).2 ao);(obtain⟨v,w,C⟩:=azq j e aE u)))
  exact⟨L++[a],⟨v,w⟩,by simp only[I9,Ja,TH];omega,by(exact bG)⟩
open Enc (enc)
noncomputable def OR:List kX:=[(96,fO fun(t:I)=>enc (hl t))]
noncomputable def qP:bc:=jV lM (fT OR)
instance aHm{D:bc}[h:bq D qP]:bq D lM:=h.nA
theorem adb:gC qP ([96]++([51]++([23,16]++([45]++([43,126,107,77,106]++[58,88,120,94,57,40,71,99,101,25,7,74]))))):=gC.or ac1 (nB OR)
theorem azC(h:∀xs,fT OR f xs=F xs)(hk:(([51]++([23,16]++([45]++([43,126,107,77,106]++[58,88,120,94,57,40,71,99,101,25,7,74])))):List Nat).contains f=false:=by rfl):∀xs,qP f xs=F xs:=fun xs=>by rw[<-h];exact mS ac1 hk
theorem azD[bq D qP][aT x1 t](h:aF ν aB 96 [enc t] (enc (hl t))):bT ν aB D 96 [x1] K tg=K (enc (hl t)):=gN (D':=qP) (F:=fun(t:I)=>enc (hl t)) (azC fun _=>rfl) h
theorem azE(t:I):aF ν aB 96 [enc t] (enc (hl t)):=by
 refine aF.intro (D:=qP) atj fp fg ?_;unfold YU;simp(disch:=first|exact aq|fail) only[go_sem];by_cases h:t.args.length=0
 ·(repeat' first|simp(disch:=first|exact aq|fail) only[go_sem,h]|(apply av<;>intro))
  all_goals simp_all[hl]
 ·(repeat' first|simp(disch:=first|exact aq|fail) only[go_sem,h]|(apply av<;>intro))
  all_goals simp_all[hl]
theorem azF[bq D qP][aT x1 t]  :bT ν aB D 96 [x1] K tg=K (enc (hl t)):=azD (azE t)
attribute [go_sem ↓ 2000] azF
variable {b1 tid B:Nat}{σ:Sub}
theorem azG(h:hX 9 H b1 tid B σ)(v:aj)(t:I)(G:σ.length+1<=M) :
  bn ν aB 97 [.ptr b1 0,.str v,t.enc] H fun r H'=>r=.bool (mh σ v t).1/\hX 9 H' b1 tid B (mh σ v t).2/\ja B b1 tid H H':=by
 obtain⟨ord,im,m,h⟩:=h;have e:=ON h.n4 v t;have ae:=h.b;have d:=h.t;have cc:=h.ne;have T:=Ne.symm cc;have w:=h.ED;have y:=h.EE;have z:=h.EF
 have V:=dd ae;have lt:=dd d
 have a:=h.xC v;refine bn.intro (D:=qP) atk ?_;unfold YW;cases c:getM σ v with
 |some u =>
  rw[c]at a;have g:mh σ v t=(cf u t==0,σ):=by rw[mh,c]
  rw[g]
  (repeat' first|simp(disch:=first|exact aq|fail) only[go_sem,ae,d,a]|(apply av<;>intro))
  exact⟨_,rfl,rfl,⟨ord,im,m,h⟩,ja.refl _ _ _ _⟩
 |none =>
  rw[c]at a;have g:mh σ v t=(true,σ++[(v,t)]):=by rw[mh,c]
  rw[g]at e ⊢;have A:kD im m v=im+1:=by rw[kD,a]
  have C:∀s,getM (fz m v t) s=getM (σ++[(v,t)]) s:=fun s=>by rw[vN,ac5 c,h.xC]
  rcases h.o with⟨rfl,hk⟩|⟨o,cs,W,rfl,E,J,L⟩
  ·have O:σ=[]:=by cases σ with|nil=>rfl|cons p r=>simp[b2]at hk
   subst O
   (repeat' first|simp(disch:=first|exact aq|fail) only[go_sem,ae,d,a,A,om]|(apply av<;>intro))
   refine⟨_,rfl,rfl,⟨_,_,_,⟨by(simp(disch:=first|exact aq|fail) only[dD,b5,dp,eE,eY,eN];try rfl),by(simp(disch:=first|exact aq|fail) only[dD,b5,dp,eE,eY,eN];try rfl),zo h.zs _ _,C,.inr ⟨H.length,[.str v],z,rfl,by(simp(disch:=first|exact aq|fail) only[dD,b5,dp,eE,eY,eN];try rfl),by simp[b2],by simp[b2]⟩,w,y,by simp;omega,e⟩⟩,by simp,fun i ak j U=>?_⟩;have P:=Ne.symm j;have Q:=Ne.symm U
   (simp(disch:=first|exact aq|fail) only[dD,b5,dp,eE,eY,eN];try rfl)
  ·have q:(H.set tid (ax.map (im+1) (cb I.enc (fz m v t))))[o]?=some (.buf 9 cs)/\(b2 σ).length<=cs.length/\cs.take (b2 σ).length=(b2 σ).map AV.str/\(b2 σ).length+1<=M:=⟨by rw[b5 (by omega),E],J,L,by simpa[b2]using G⟩;have bh:=dd E;have X:o≠b1:=by omega
   have R:o≠tid:=by omega
   (repeat' first|simp(disch:=first|exact aq|fail) only[go_sem,ae,d,a,A,azr q]|(apply av<;>intro))
   refine⟨_,rfl,rfl,⟨_,_,_,⟨by(simp(disch:=first|exact aq|fail) only[dD,b5,dp,eE,eY,eN];try rfl),by(simp(disch:=first|exact aq|fail) only[dD,b5,dp,eE,eY,eN];try rfl),zo h.zs _ _,C,.inr ⟨H.length,(b2 σ++[v]).map AV.str,z,by rw[EG,I9];rfl,by(simp(disch:=first|exact aq|fail) only[dD,b5,dp,eE,eY,eN];try rfl),by simp[EG],by rw[EG,aIE (by simp)]⟩,w,y,by simp;omega,e⟩⟩,by simp,fun i ak j U=>?_⟩;have P:=Ne.symm j;have Q:=Ne.symm U
   have Y:o≠i:=by omega
   (simp(disch:=first|exact aq|fail) only[dD,b5,dp,eE,eY,eN];try rfl)
theorem adf(h:hX 9 H b1 tid B σ)(n:Nat)(T:n<=σ.length)(bm:σ.length<=M) :
  bn ν aB 69 [.ptr b1 0,.int .i64 n] H fun r H'=>r=.a8 []/\hX 9 H' b1 tid B (σ.take n)/\ja B b1 tid H H':=by
 have dh:M=1099511627776:=rfl;obtain⟨ord,im,m,h⟩:=h;have ae:=h.b;have a:=h.t;have cc:=h.ne;have Ms:=Ne.symm cc;have J:=h.ED;have L:=h.EE;have O:=h.EF
 have mQ:=dd ae;have lt:=dd a
 have u:(b2 σ).length=σ.length:=by simp[b2]
 have y:(b2 (σ.take n)).Nodup:=by rw[OO];exact h.n4.sublist (List.take_sublist _ _)
 refine bn.intro (D:=qP) asW ?_;unfold XU;rcases h.o with⟨rfl,hk⟩|⟨o,cs,V,rfl,z,W,P⟩
 ·have X:σ=[]:=by cases σ with|nil=>rfl|cons p r=>simp[b2]at hk
  subst X;obtain rfl:n=0:=by simpa using T
  (repeat' first|simp(disch:=first|exact aq|fail) only[go_sem,ae,a]|(apply av<;>intro))
  refine b9 (fun j:Unit=>⟨N [(0,.v (.ptr b1 0)),(1,.v (.int .i64 0)),(11,.v (.aV 1)),(12,.v (.int .i64 0)),(13,.v (.int .i64 0))],H⟩) (fun _=>True) (fun _=>0) () trivial (by(try simp(disch:=first|exact aq|fail) only[go_sem])<;>(exact bG)) ?_;intro _ _
  (repeat' first|simp(disch:=first|exact aq|fail) only[go_sem,ae,a]|(apply av<;>intro))
  refine⟨_,rfl,rfl,⟨_,_,_,⟨by(simp(disch:=first|exact aq|fail) only[dD,b5,dp,eE,eY,eN];try rfl),by(simp(disch:=first|exact aq|fail) only[dD,b5,dp,eE,eY,eN,a];try rfl),h.zs,h.xC,.inl ⟨rfl,rfl⟩,J,L,by simpa using O,.nil⟩⟩,by simp,fun i ak d U=>?_⟩;have Y:=Ne.symm d
  (simp(disch:=first|exact aq|fail) only[dD,b5,dp,eE,eY,eN];try rfl)
 ·have bh:=dd z;have Z:o≠b1:=by omega
  have A:o≠tid:=by omega
  have Q:∀(im:Nat)(g:List (aj×I)),(b2 g).Nodup->(∀s,getM g s=if s∈(b2 σ).drop n then none else getM σ s) ->
    hX 9 ((H.set tid (.map im (cb I.enc g))).set b1 (.cells [.map tid,.bs o 0 n 1])) b1 tid B (σ.take n)/\ja B b1 tid H ((H.set tid (.map im (cb I.enc g))).set b1 (.cells [.map tid,.bs o 0 n 1])):=fun im g al au=>by
   have C:(b2 (σ.take n)).length=n:=by rw[OO,List.length_take];omega
   refine⟨⟨_,_,_,⟨by(simp(disch:=first|exact aq|fail) only[dD,b5,dp,eE,eY,eN];try rfl),by(simp(disch:=first|exact aq|fail) only[dD,b5,dp,eE,eY,eN];try rfl),al,fun s=>by rw[au,azv h.n4],.inr ⟨o,cs,V,by rw[C],by have:=Ne.symm Z;have:=Ne.symm A;(simp(disch:=first|exact aq|fail) only[dD,b5,dp,eE,eY,eN,z];try rfl),by rw[C];omega,?_⟩,J,L,by simpa using O,y⟩⟩,by simp,fun i ak d U=>?_⟩
   ·rw[C,OO,List.map_take,<-P,List.take_take,Nat.min_eq_left (by omega)]
   ·have Y:=Ne.symm d;have xe:=Ne.symm U
    (simp(disch:=first|exact aq|fail) only[dD,b5,dp,eE,eY,eN];try rfl)
  have R:=zr a;by_cases af:0<n/\n=σ.length
  ·obtain⟨c1,c2⟩:=af
   (repeat' first|simp(disch:=first|exact aq|fail) only[go_sem,ae,a,u]|(apply av<;>intro))
   rw[if_pos (by omega)];refine b9 (fun j:Unit=>⟨N [(0,.v (.ptr b1 0)),(1,.v (.int .i64 n)),(11,.v (.list none 1 [])),(12,.v (.int .i64 0)),(13,.v (.int .i64 0))],H⟩) (fun _=>True) (fun _=>0) () trivial (by(try simp(disch:=first|exact aq|fail) only[go_sem])<;>(exact bG)) ?_;intro _ _
   (repeat' first|simp(disch:=first|exact aq|fail) only[go_sem,ae,a,u]|(apply av<;>intro))
   have:=Q im m h.zs (fun s=>by rw[List.drop_eq_nil_of_le (by omega)];simpa using h.xC s);rw[R]at this;simp only[false_and,if_false,Nat.sub_zero];exact⟨_,rfl,rfl,this⟩
  ·(repeat' first|simp(disch:=first|exact aq|fail) only[go_sem,ae,a,u]|(apply av<;>intro))
   rw[if_neg (by omega)];obtain⟨c,ji⟩:∃c,c=σ.length-n:=⟨_,rfl⟩;refine b9 (fun q:Nat×List (aj×I)=>⟨N [(0,.v (.ptr b1 0)),(1,.v (.int .i64 n)),(11,.v (.bs o n (σ.length-n) 1)),(12,.v (.int .i64 (σ.length-n:Nat))),(13,.v (enc q.1))],H.set tid (.map im (cb I.enc q.2))⟩)
    (fun q=>q.1<=σ.length-n/\(b2 q.2).Nodup/\∀s,getM q.2 s=if s∈((b2 σ).drop n).take q.1 then none else getM σ s) (fun q=>σ.length-n-q.1) (0,m) ⟨aeZ _,h.zs,fun s=>by simpa using h.xC s⟩ (by rw[R];(try simp(disch:=first|exact aq|fail) only[go_sem])<;>(first|rfl|(simp(disch:=first|exact a6|fail) only[cj,aB5,aB8,Env.ins,cE,cF,cG,cH,cI,cJ,cK,cL,I.b8,ae0,aB9,aHk,aHV,fM,bZ,aHW,aIA,aIB,cS,cT,go_sem,Nat.mul_one];try rfl))) ?_
   rintro⟨j,g⟩ ⟨dM,w,E⟩;simp only at dM w E;by_cases aZ:j<σ.length-n
   ·have pC:=azw (e:=9) P W (i:=n+j) (by omega);have G:((b2 σ).drop n)[j]! = (b2 σ)[n+j]!:=by rw[xv,xv,List.getElem?_drop]
    have v:=bZ (l:=(b2 σ).drop n) (i:=j) (by rw[List.length_drop];omega);rw[G]at v
    (repeat' first|simp(disch:=first|exact aq|fail) only[go_sem,ae,a,u,z,pC,Nat.mul_one]|(apply av<;>intro))
    refine⟨(j+1,lL g (b2 σ)[n+j]!),⟨by simp only;omega,Ot w _,fun s=>?_⟩,by simp only;omega,by(first|rfl|(simp(disch:=first|exact a6|fail) only[cj,aB5,aB8,Env.ins,cE,cF,cG,cH,cI,cJ,cK,cL,I.b8,ae0,aB9,aHk,aHV,fM,bZ,aHW,aIA,aIB,cS,cT,go_sem,List.set_set];try rfl))⟩;simp only;rw[Ou w,E,v];simp only[List.mem_append,List.mem_singleton];by_cases d:s=(b2 σ)[n+j]!
    ·rw[if_pos d,if_pos (.inr d)]
    ·rw[if_neg d];by_cases U:s∈((b2 σ).drop n).take j
     ·rw[if_pos U,if_pos (.inl U)]
     ·rw[if_neg U,if_neg (by rintro(h|h);exact U h;exact d h)]
   ·(repeat' first|simp(disch:=first|exact aq|fail) only[go_sem,ae,a,u]|(apply av<;>intro))
    simp only[false_and,if_false,Nat.sub_zero];exact⟨_,rfl,rfl,Q im g w (fun s=>by rw[E,aIE (by rw[List.length_drop];omega)])⟩
theorem zt{K:AV->List ax->Prop}{tg:aM K}{a:Sub}(fl:hX 9 H b1 tid B σ)(d:(b2 a).Nodup)
  (h:bn ν aB f vs H fun r' H'=>r'=r/\hX 9 H' b1 tid B a/\ja B b1 tid H H')(hk:∀H',hX 9 H' b1 tid B a->ja B b1 tid H H'->K r H'):ma ν aB f vs H K tg :=
 iW ⟨h,by obtain⟨H',c,U⟩:=fl.ex d;exact⟨_,_,rfl,c,U⟩⟩ fun r' H' ⟨c,U,e⟩=>by rw[c];exact hk H' U e
theorem hX.n4{e:Nat}(h:hX e H b1 tid B σ):(b2 σ).Nodup:=by obtain⟨_,_,_,h⟩:=h;exact h.n4
theorem azJ:∀(p:I)(g:I){H:List ax}{b1 tid B:Nat}{σ:Sub},hX 9 H b1 tid B σ->σ.length+(dG p).length<=M ->
  bn ν aB 68 [.ptr b1 0,p.enc,g.enc] H fun r H'=>r=.bool (eF p g σ).1/\hX 9 H' b1 tid B (eF p g σ).2/\ja B b1 tid H H':=I.ind fun p ih g H b1 tid B σ h P=>by
 have Q:M=1099511627776:=rfl;rw[ac4];refine bn.intro (D:=qP) asV ?_;unfold XR;by_cases d:hl p=true
 ·rw[if_pos d];have u:(dG p).length=1:=by rw[qI,if_pos (by simp[hl]at d;simpa using d.1)];rfl
  (repeat' first|simp(disch:=first|exact aq|fail) only[go_sem,d]|(apply av<;>intro)|(refine zt h (ON h.n4 _ _) (azG h _ _ (by omega)) ?_;(intro z A C)))
  exact⟨_,rfl,rfl,A,C⟩
 ·rw[if_neg d];have v:hl p=false:=by simpa using d
  by_cases e:p.name=g.name
  ·have j:(!(p.name==g.name))=false:=by simp[e]
   by_cases u:p.args.length=g.args.length
   ·rw[if_neg (by rintro(h|h);exact h e;exact h u)];have R:(cw p.args).length<=(dG p).length:=by
     rw[qI];split
     ·rename_i E;rw[List.eq_nil_of_length_eq_zero E];simp[cw]
     ·exact Nat.le_refl _
    have T:=ac8 p.args
    (repeat' first|simp(disch:=first|exact aq|fail) only[go_sem,v,j]|(apply av<;>intro))
    refine b9 (fun q:Nat×List ax×Sub=>⟨N [(0,.v (.ptr b1 0)),(4,.v (.db p.enc.cells)),(5,.v (.db g.enc.cells)),(31,.v (enc p.args.length)),(32,.v (enc q.1))],q.2.1⟩)
     (fun q=>q.1<=p.args.length/\hX 9 q.2.1 b1 tid B q.2.2/\ja B b1 tid H q.2.1/\gh (p.args.drop q.1) (g.args.drop q.1) q.2.2=gh p.args g.args σ/\q.2.2.length+(cw (p.args.drop q.1)).length<=M) (fun q=>p.args.length-q.1) (0,H,σ)
     ⟨aeZ _,h,ja.refl _ _ _ _,rfl,by simp only[List.drop_zero];omega⟩ (by(try simp(disch:=first|exact aq|fail) only[go_sem])<;>(exact bG)) ?_
    rintro⟨i,z,m⟩ ⟨G,c,o,a,J⟩;simp only at G c o a J;by_cases ak:i<p.args.length
    ·have L:i<g.args.length:=by omega
     rw[azs ak L]at a;have hd:=azz ak;have V:=OP p.args[i]! g.args[i]! m;have s:=ih p.args[i]! (ft ak) g.args[i]! c (by omega);by_cases hm:(eF p.args[i]! g.args[i]! m).1=true
     ·rw[if_pos hm]at a;rw[hm]at s
      (repeat' first|simp(disch:=first|exact aq|fail) only[go_sem]|(apply av<;>intro)|(refine zt c (BJ _ _ c.n4) s ?_;(intro y U w)))
      exact⟨(i+1,y,_),⟨by simp only;omega,U,o.trans w,a,by show(eF p.args[i]! g.args[i]! m).2.length+(cw (p.args.drop (i+1))).length<=M;omega⟩,by simp only;omega,by(exact bG)⟩
     ·rw[if_neg hm]at a;have O:(eF p.args[i]! g.args[i]! m).1=false:=by simpa using hm
      rw[O]at s
      (repeat' first|simp(disch:=first|exact aq|fail) only[go_sem]|(apply av<;>intro)|(refine zt c (BJ _ _ c.n4) s ?_;(intro y U w)))
      exact⟨_,rfl,by rw[<-a],by rw[<-a];exact U,o.trans w⟩
    ·rw[azt (by omega)]at a
     (repeat' first|simp(disch:=first|exact aq|fail) only[go_sem]|(apply av<;>intro))
     exact⟨_,rfl,by rw[<-a],by rw[<-a];exact c,o⟩
   ·rw[if_pos (.inr u)]
    (repeat' first|simp(disch:=first|exact aq|fail) only[go_sem,v,j]|(apply av<;>intro))
    exact⟨_,rfl,rfl,h,ja.refl _ _ _ _⟩
  ·rw[if_pos (.inl e)];have j:(!(p.name==g.name))=true:=by simpa using e
   (repeat' first|simp(disch:=first|exact aq|fail) only[go_sem,v,j]|(apply av<;>intro))
   exact⟨_,rfl,rfl,h,ja.refl _ _ _ _⟩
def tZ(H:List ax)(l:List I)(i n:Nat):List ax:=H++ax.buf 30 (kZ l i)::.dead::LW n .dead
theorem adi :(tZ H l i n)[H.length]?=some (.buf 30 (kZ l i)):=eE rfl
theorem azK :tZ H l i n++LW k .dead=tZ H l i (n+k):=by simp[tZ,List.replicate_append_replicate]
theorem azL{j:Nat}:(tZ H l i n).set H.length (.buf 30 (kZ l j))=tZ H l j n:=eN rfl
theorem azM :(tZ H l i n).set H.length .dead=H++LW (n+2) .dead:=by
 rw[tZ,eN rfl];simp[List.replicate_succ]
theorem BM{K:AV->List ax->Prop}{tg:aM K} 
  (h:bn ν aB f vs H fun r' H'=>r'=r/\∃n,H'=H++LW n .dead)(hk:∀n,K r (H++LW n .dead)):ma ν aB f vs H K tg :=
 iW ⟨h,_,_,rfl,0,rfl⟩ fun r' H' ⟨a,n,U⟩=>by rw[a,U];exact hk n
theorem adj:∀(t:I){H:List ax}{b1 tid B:Nat}{σ:Sub},hX 9 H b1 tid B σ->qM t<=100000 ->
  bn ν aB 67 [.ptr b1 0,t.enc] H fun r H'=>r=(iF σ t).enc/\∃n,H'=H++LW n .dead:=I.ind fun t ih H b1 tid B σ h C=>by
 have P:M=1099511627776:=rfl;have g:=h;obtain⟨ord,im,m,h⟩:=h;have ae:=h.b;have j:=h.t
 have Q:=dd ae;have lt:=dd j
 have d:=h.xC t.name;rw[OK];refine bn.intro (D:=qP) asU ?_;unfold XO;by_cases a:hl t=true
 ·rw[if_pos a];cases w:getM σ t.name with
  |none =>
   rw[w]at d
   (repeat' first|simp(disch:=first|exact aq|fail) only[go_sem,a,ae,j,d]|(apply av<;>intro))
   exact⟨_,rfl,rfl,0,by simp⟩
  |some u =>
   rw[w]at d
   (repeat' first|simp(disch:=first|exact aq|fail) only[go_sem,a,ae,j,d]|(apply av<;>intro))
   exact⟨_,rfl,rfl,0,by simp⟩
 ·rw[if_neg a];have y:hl t=false:=by simpa using a
  by_cases e:t.args.length=0
  ·rw[if_pos e]
   (repeat' first|simp(disch:=first|exact aq|fail) only[go_sem,y,e]|(apply av<;>intro))
   exact⟨_,rfl,rfl,0,by simp⟩
  ·rw[if_neg e];rw[H9]at C;have E:(0:Int)<=(t.args.length:Int)/\(t.args.length:Int)<=100000:=by omega
   obtain⟨L,cg⟩:∃L,L=t.args.map (iF σ):=⟨_,rfl⟩;have o:L.length=t.args.length:=by rw[cg,ae0]
   have G:(LW t.args.length [AV.str [],AV.aV 2]).flatten=kZ L 0:=by rw[Og,o]
   have c:H++[ax.buf 30 (kZ L 0),ax.dead]=tZ H L 0 0:=rfl
   (repeat' first|simp(disch:=first|exact aq|fail) only[go_sem,y,e,E,G,c]|(apply av<;>intro))
   refine b9 (fun q:Nat×Nat=>⟨N [(0,.v (.ptr b1 0)),(3,.v (.db t.enc.cells)),(4,.b [.str [],.aV 2]),(7,.b [.str t.name,.bs H.length 0 t.args.length 2]),(38,.v (enc t.args.length)),(39,.v (enc q.1))],tZ H L q.1 q.2⟩)
    (fun q=>q.1<=t.args.length) (fun q=>t.args.length-q.1) (0,0) (aeZ _) (by(try simp(disch:=first|exact aq|fail) only[go_sem,c])<;>(exact bG)) ?_
   rintro⟨i,n⟩ J;simp only at J;by_cases ak:i<t.args.length
   ·have s:L[i]! = iF σ t.args[i]!:=by rw[cg,xv];simp[ak]
    have z:=ih t.args[i]! (ft ak) (g.app (ax.buf 30 (kZ L i)::.dead::LW n .dead)) (by have:=xw (ft ak);omega);rw[<-s]at z;have O:i<L.length:=by omega
    (repeat' first|simp(disch:=first|exact aq|fail) only[go_sem,adi,azK,azL]|(apply av<;>intro)|(refine BM z ?_;(intro A);(refine⟨⟨A,rfl⟩,?_⟩)))
    exact⟨(i+1,n+A),by simp only;omega,by simp only;omega,by(exact bG)⟩
   ·obtain rfl:i=t.args.length:=by omega
    have R:L.length=t.args.length/\t.args.length<=M:=⟨o,by omega⟩;have v:kZ L t.args.length=cM L:=by rw[<-o,Oh]
    (repeat' first|simp(disch:=first|exact aq|fail) only[go_sem,adi,v,azo,azM]|(apply av<;>intro))
    exact⟨_,rfl,by rw[I.pR,cg];rfl,n+2,rfl⟩
open Enc (enc)
noncomputable def OZ:List kX:=[(64,fO fun(l:Lit)=>enc (eX l))]
noncomputable def ot:bc:=jV qP (fT OZ)
instance aHo{D:bc}[h:bq D ot]:bq D qP:=h.nA
theorem adq:gC ot ([64]++([96]++([51]++([23,16]++([45]++([43,126,107,77,106]++[58,88,120,94,57,40,71,99,101,25,7,74])))))):=gC.or adb (nB OZ)
theorem azV(h:∀xs,fT OZ f xs=F xs)(hk:(([96]++([51]++([23,16]++([45]++([43,126,107,77,106]++[58,88,120,94,57,40,71,99,101,25,7,74]))))):List Nat).contains f=false:=by rfl):∀xs,ot f xs=F xs:=fun xs=>by rw[<-h];exact mS adb hk
theorem azW[bq D ot]{l:Lit}[aT x1 l](h:aF ν aB 64 [enc l] (enc (eX l))):bT ν aB D 64 [x1] K tg=K (enc (eX l)):=gN (D':=ot) (F:=fun(l:Lit)=>enc (eX l)) (azV fun _=>rfl) h
theorem azX(l:Lit):aF ν aB 64 [enc l] (enc (eX l)):=by
 refine aF.intro (D:=ot) asS fp fg ?_;unfold XG;simp(disch:=first|exact aq|fail) only[go_sem];cases a:l.neg
 ·(repeat' first|simp(disch:=first|exact aq|fail) only[go_sem,a]|(apply av<;>intro))
  all_goals simp_all[eX,hW]
 ·(repeat' first|simp(disch:=first|exact aq|fail) only[go_sem,a]|(apply av<;>intro))
  all_goals simp_all[eX,hW]
theorem azY[bq D ot]{l:Lit}[aT x1 l]  :bT ν aB D 64 [x1] K tg=K (enc (eX l)):=azW (azX l)
attribute [go_sem ↓ 2000] azY
theorem azZ(g:gq 30 H x k b S)(fl:hX 9 H b1 tid B σ)(l:Lit)(j:qM l.atom<=100000)(U:(cy (iF σ l.atom)).length<=M) :
  bn ν aB 66 [.agg [.ptr x 0],l.enc,.ptr b1 0] H fun r H'=>r=.bool (qN S σ l)/\∃n,H'=H++LW n .dead:=by
 have v:M=1099511627776:=rfl;refine bn.intro (D:=ot) asT ?_;unfold XL;have d:=adj l.atom fl j;have ah:=g;obtain⟨a,aE⟩:∃a,a=iF σ l.atom:=⟨_,rfl⟩;rw[<-aE]at d U;rw[qN,<-aE];by_cases h:(a.name==hW&&decide (a.args.length=2))=true
 ·rw[if_pos h];simp only[Bool.and_eq_true,beq_iff_eq,decide_eq_true_eq]at h;obtain⟨m,o⟩:=h;have q:(a.name==[100,105,115,116,105,110,99,116])=true:=by rw[m];rfl
  have s:((a.args.length:Int)==2)=true:=by rw[o];rfl
  have u:∀e f:Bool,(e != f) = !(e==f):=by intro e f;rfl
  (repeat' first|simp(disch:=first|exact aq|fail) only[go_sem,q,s,u]|(apply av<;>intro)|(refine BM d ?_;(intro c);(refine⟨⟨c,rfl⟩,?_⟩)))
  exact⟨_,rfl,rfl,c,rfl⟩
 ·rw[if_neg h]
  (repeat' first|simp(disch:=first|exact aq|fail) only[go_sem]|(apply av<;>intro)|(refine BM d ?_;(intro c);(refine⟨⟨c,rfl⟩,?_⟩))|refine b6 (azA (g.app _) a U) ?_)
  all_goals first
   |exact⟨_,rfl,rfl,c,rfl⟩|(exfalso;apply h;simp only[Bool.and_eq_true,decide_eq_true_eq];exact⟨by assumption,by omega⟩)
structure zB(y:Nat)(iG:List AV)(W:Nat->Prop)(Y:List I->List ax->Prop)(Good:I->Prop)(jX:Nat):Prop where
 c:∀acc H a,acc.length+1<=jX->Y acc H->Good a->jK ν aB y (a.enc::iG) H fun r H'=>r=.a8 []/\Y (acc++[a]) H'/\lN W H H'
 s:∀acc H H',Y acc H->(∀i,W i->H'[i]?=H[i]?)->Y acc H'
 n:mT iG=some iG
 lt:∀acc H i,Y acc H->W i->i<H.length
def sV(r:aU)(ga rs gi eJ gj da:Nat):AV:=.fn 65 [.ptr ga 0,.ptr rs 0,.ptr gi 0,.ptr eJ 0,.ptr gj 0,.db r.enc.cells,.ptr da 0]
theorem adr{y:Nat}{iG:List AV}{W:Nat->Prop}{Y:List I->List ax->Prop}{Good:I->Prop}{jX:Nat}(h:zB y iG W Y Good jX){qQ bu j:Nat}{c3 m:List Lit}{Dq dy:AV}{A o q s eJ u v:Nat}
  (c:∀i,W i->i<A/\i≠x/\i≠k/\i≠b) :∀(l:List I)(acc:List I)(H:List ax),(∀a∈l,Good a)->mV qQ bu j S c3 m Dq dy A B x k b o q s eJ u v b1 tid H->hX bu H b1 tid B σ->Y acc H->(acc++l).length<=jX ->
  ∃H',mV qQ bu j S c3 m Dq dy A B x k b o q s eJ u v b1 tid H'/\hX bu H' b1 tid B σ/\Y (acc++l) H'/\lO A W H H'
 |[],acc,H,_,h1,U,d,_=>⟨H,h1,U,by rw[aIC];exact d,lO.refl _ _ _⟩|a::l,acc,H,z,h1,U,d,E=>by
  rw[I9,Ja]at E;obtain⟨_,r,G,rfl,J,e⟩:=h.c acc H a (by omega) d (z a (List.mem_cons_self ..));obtain⟨V,X,Z,kN,oP,zw,zx,zy,xF,m1,m2,m3,m4,m5,m6,L,m8,O,g⟩:=h1.xE;obtain⟨P,Q,R,C,T⟩:=adr h c l (acc++[a]) G (fun b ae=>z b (List.mem_cons_of_mem _ ae)) (h1.EL e c) (U.EL e (fun i w=>(c i w).1) O g L) J (by simp only[I9,Ja,TH];omega);exact⟨P,Q,R,by rw[aID]at C;exact C,(e.zA (by omega)).trans T⟩
section
variable {y:Nat}{iG:List AV}{W:Nat->Prop}{Y:List I->List ax->Prop}{Good:I->Prop}{jX:Nat}{oq:Sub->Prop}{S:List I}{r:aU}{c3 dq:List Lit}{A B x k b ga rs gi eJ gj da b1 tid:Nat}
def O0(W:Nat->Prop)(y:Nat)(iG:List AV)(Y:List I->List ax->Prop)(S:List I)(r:aU)(c3 dq:List Lit)(A B x k b ga rs gi eJ gj da b1 tid:Nat)(σ:Sub)(acc:List I)(H:List ax)(sW:AV)(H':List ax):Prop :=
 sW=.a8 []/\mV 30 9 60 S c3 dq (.fn y iG) (sV r ga rs gi eJ gj da) A B x k b ga rs gi eJ gj da b1 tid H'/\hX 9 H' b1 tid B σ/\Y acc H'/\lO A W H H'
theorem az0(e:zB y iG W Y Good jX)(T:∀i,W i->i<A/\i≠x/\i≠k/\i≠b)(h5:EM S c3 dq r.head Good oq){acc:List I}(a:mV 30 9 60 S c3 dq (.fn y iG) (sV r ga rs gi eJ gj da) A B x k b ga rs gi eJ gj da b1 tid H)
  (fl:hX 9 H b1 tid B σ)(o:Y acc H)(aA:oq σ)(U:(acc++hz S dq r.head [] σ).length<=jX) :
  bn ν aB 65 [.int .i64 (c3.length:Nat),.ptr ga 0,.ptr rs 0,.ptr gi 0,.ptr eJ 0,.ptr gj 0,.db r.enc.cells,.ptr da 0] H (O0 W y iG Y S r c3 dq A B x k b ga rs gi eJ gj da b1 tid σ (acc++hz S dq r.head [] σ) H):=by
 have dh:M=1099511627776:=rfl;obtain⟨cx,ca,ez,kN,oP,zw,zx,zy,xF,m1,m2,m3,m4,m5,m6,Z,m8,m9,z⟩:=a.xE;obtain⟨mW,O1,g,C⟩:=a.It;obtain⟨iP,O2,aw,nC⟩:=a.adl;have he:=a.ce;have ae:=a.zv;have E:=a.adm;have aR:=a.OV
 have Iv:=C.no;have Iw:=C.Ir;have Ix:=C.len
 have G:=nC.no;have J:=nC.Ir;have L:=nC.len
 have GQ:=h5.GQ;refine bn.intro (D:=ot) aax ?_;unfold Nc
 (repeat' first|simp(disch:=first|exact aq|fail) only[go_sem,g,aw,he,ae,E,aR,Iv,Iw,Ix,G,J,L]|(apply av<;>intro))
 have Iy:=h5.t σ;have OX:=h5.OX;have aHp:=dd he;have aHq:=dd ae;have aHr:=dd E
 refine b9 (fun q:Nat×Nat=>⟨N [(3,.v (.ptr gi 0)),(4,.v (.ptr eJ 0)),(5,.v (.ptr gj 0)),(6,.v (.db r.enc.cells)),(18,.v O2),(19,.v (enc dq.length)),(20,.v (enc q.1))],H++LW q.2 .dead⟩)
  (fun q=>q.1<=dq.length/\(dq.drop q.1).all (qN S σ)=dq.all (qN S σ)) (fun q=>dq.length-q.1) (0,0) ⟨aeZ _,rfl⟩ (by(try simp(disch:=first|exact aq|fail) only[go_sem])<;>(first|rfl|(simp(disch:=first|exact a6|fail) only[cj,aB5,aB8,Env.ins,cE,cF,cG,cH,cI,cJ,cK,cL,I.b8,ae0,aB9,aHk,aHV,fM,bZ,aHW,aIA,aIB,cS,cT,go_sem,List.replicate_zero,aIC];try rfl))) ?_
 rintro⟨i,n⟩ ⟨i1,c⟩;simp only at i1 c;have h:mV 30 9 60 S c3 dq (.fn y iG) (sV r ga rs gi eJ gj da) A B x k b ga rs gi eJ gj da b1 tid (H++LW n .dead):=a.zz (ja.app m8 _);have s:=fl.app (LW n .dead);by_cases ak:i<dq.length
 ·have V:=nC.mw i ak;have X:=ft ak;have u:=azZ h.OU s dq[i]! (OX _ X) (Iy _ aA X);rw[fY ak,List.all_cons]at c;cases v:qN S σ dq[i]! with
  |true =>
   rw[v,Bool.true_and]at c;rw[v]at u
   (repeat' first|simp(disch:=first|exact aq|fail) only[go_sem,he,ae,V]|(apply av<;>intro)|(refine BM u ?_;(intro d)))
   exact⟨(i+1,n+d),⟨by simp only;omega,c⟩,by simp only;omega,by(first|rfl|(simp(disch:=first|exact a6|fail) only[cj,aB5,aB8,Env.ins,cE,cF,cG,cH,cI,cJ,cK,cL,I.b8,ae0,aB9,aHk,aHV,fM,bZ,aHW,aIA,aIB,cS,cT,go_sem,aID,List.replicate_append_replicate];try rfl))⟩
  |false =>
   rw[v,Bool.false_and]at c;rw[v]at u
   (repeat' first|simp(disch:=first|exact aq|fail) only[go_sem,he,ae,V]|(apply av<;>intro)|(refine BM u ?_;(intro d)))
   have O:hz S dq r.head [] σ=[]:=by rw[hz,<-c];rfl
   refine⟨_,rfl,rfl,h.zz (ja.app h.xE.2.2.2.2.2.2.2.2.2.2.2.2.2.2.2.2.1 _),s.app _,?_,(lO.app (by omega) _).trans (lO.app (by simp only[I9];omega) _)⟩;rw[O,aIC];refine e.s _ _ _ o fun j g=>?_;have:=e.lt _ _ _ o g
   (simp(disch:=first|exact aq|fail) only[dD,b5,dp,eE,eY,eN];try rfl)
 ·have m:hz S dq r.head [] σ=[iF σ r.head]:=by
   rw[List.drop_eq_nil_of_le (by omega)]at c;rw[hz,<-c];rfl
  have pa:=adj r.head s h5.hm;have O4:acc.length+1<=jX:=by rw[m]at U;simpa using U
  have aC:=h5.h σ aA;have P:∀d,Y acc (H++LW n .dead++LW d .dead):=fun d=>e.s _ _ _ o fun j g=>by
   have:=e.lt _ _ _ o g
   (simp(disch:=first|exact aq|fail) only[dD,b5,dp,eE,eY,eN];try rfl)
  (repeat' first|simp(disch:=first|exact aq|fail) only[go_sem,he,ae,E,e.n,iV]|(apply av<;>intro)|(refine BM pa ?_;(intro d);(refine⟨⟨d,rfl⟩,?_⟩))|(refine iW (e.c acc _ _ O4 (P _) aC) ?_;(rintro r' xB ⟨rfl,fs,Q⟩)))
  have R:mV 30 9 60 S c3 dq (.fn y iG) (sV r ga rs gi eJ gj da) A B x k b ga rs gi eJ gj da b1 tid (H++LW n .dead++LW d .dead):=h.zz (ja.app h.xE.2.2.2.2.2.2.2.2.2.2.2.2.2.2.2.2.1 _);refine⟨_,rfl,rfl,R.EL Q T,(s.app _).EL Q (fun i w=>(T i w).1) m9 z Z,by rw[m];exact fs,((lO.app (by omega) _).trans (lO.app (by simp only[I9];omega) _)).trans (Q.zA (by simp only[I9];omega))⟩
theorem adt(gp:zB y iG W Y Good jX)(eS:∀i,W i->i<A/\i≠x/\i≠k/\i≠b)(h5:EM S c3 dq r.head Good oq):∀(d i:Nat){σ:Sub}{acc:List I}{H:List ax},i+d=c3.length ->
  mV 30 9 60 S c3 dq (.fn y iG) (sV r ga rs gi eJ gj da) A B x k b ga rs gi eJ gj da b1 tid H->hX 9 H b1 tid B σ->Y acc H->oq σ->(acc++hz S dq r.head (c3.drop i) σ).length<=jX ->
  jK ν aB 65 [.int .i64 i,.ptr ga 0,.ptr rs 0,.ptr gi 0,.ptr eJ 0,.ptr gj 0,.db r.enc.cells,.ptr da 0] H (O0 W y iG Y S r c3 dq A B x k b ga rs gi eJ gj da b1 tid σ (acc++hz S dq r.head (c3.drop i) σ) H)
 |d,i,σ,acc,H,ak,c,fl,u,aA,v=>by
  refine⟨?_,by
   obtain⟨H',al,au,aS,bI⟩:=adr gp eS (hz S dq r.head (c3.drop i) σ) acc H (OY h5 _ _ (fun l aD=>List.mem_of_mem_drop aD) aA) c fl u v;exact⟨_,H',rfl,al,au,aS,bI⟩⟩
  cases d with
  |zero =>
   obtain rfl:i=c3.length:=by omega
   rw[List.drop_length]at v ⊢;exact az0 gp eS h5 c fl u aA v
  |succ d =>
   have dh:M=1099511627776:=rfl;have ih:=fun{σ acc H}=>adt gp eS h5 d (i+1) (σ:=σ) (acc:=acc) (H:=H) (by omega);have C:i<c3.length:=by omega
   obtain⟨cx,ca,ez,kN,oP,zw,zx,zy,xF,m1,m2,m3,m4,m5,m6,m7,m8,m9,g⟩:=c.xE;obtain⟨mW,O1,aZ,xG⟩:=c.It;have he:=c.ce;have ae:=c.zv
   have Iv:=xG.no;have Iw:=xG.Ir;have Ix:=xG.len
   have xH:=xG.mw i C;obtain⟨fn,jc,km,bj,ek,dy⟩:=c.OU;have ah:=ek.ah;have hk:=ek.hk;have uZ:=ek.ae
   obtain⟨ord,im,m,bA⟩:=fl;have E:=bA.b;have J:=bA.o.len;have O:=J.1;have P:=J.2
   have fQ:(b2 σ).length=σ.length:=by simp[b2]
   have ado:=h5.ado;have adp:=h5.adp
   have cc:((i:Int)==(c3.length:Int))=false:=by simp;omega
   refine bn.intro (D:=ot) aax ?_;unfold Nc;have Q:=dy.OH c3[i]!.atom.name;have R:hz S dq r.head (c3.drop i) σ=(iE S c3[i]!.atom.name).flatMap fun a=>if(eF c3[i]!.atom a σ).1=true then hz S dq r.head (c3.drop (i+1)) (eF c3[i]!.atom a σ).2 else[]:=by rw[fY C,hz]
   by_cases BN:iE S c3[i]!.atom.name=[]
   ·rw[if_pos BN]at Q
    (repeat' first|simp(disch:=first|exact aq|fail) only[go_sem,aZ,he,ae,ah,hk,uZ,Iv,Iw,Ix,xH,cc,E,O,P,Q]|(apply av<;>intro))
    refine b9 (fun j:Unit=>⟨N [(0,.v (.int .i64 i)),(1,.v (.ptr ga 0)),(4,.v (.ptr eJ 0)),(7,.v (.ptr da 0)),(11,.v (.int .i64 (b2 σ).length)),(52,.v (.aV 2)),(53,.v (.int .i64 0)),(54,.v (.int .i64 0))],H⟩) (fun _=>True) (fun _=>0) () trivial (by(try simp(disch:=first|exact aq|fail) only[go_sem])<;>(exact bG)) ?_;intro _ _
    (repeat' first|simp(disch:=first|exact aq|fail) only[go_sem]|(apply av<;>intro))
    exact⟨_,rfl,rfl,c,⟨ord,im,m,bA⟩,by rw[R,BN];simpa using u,lO.refl _ _ _⟩
   ·rw[if_neg BN]at Q;obtain⟨L,cg⟩:∃L,L=iE S c3[i]!.atom.name:=⟨_,rfl⟩;have tY:L.length<=S.length:=by rw[cg];exact azU _ _
    have az7:∀a∈L,a∈S:=fun a aE=>Iu (by rw[cg]at aE;exact aE);rw[<-cg]at Q R;obtain⟨G,BA⟩:∃G:I->List I,G=fun a=>if(eF c3[i]!.atom a σ).1=true then hz S dq r.head (c3.drop (i+1)) (eF c3[i]!.atom a σ).2 else[]:=⟨_,rfl⟩;rw[<-BA]at R;have IB:∀{acc:List I}{H1 dS:List ax},Y acc H1->ja B b1 tid H1 dS->Y acc dS:=fun u aR=>gp.s _ _ _ u fun j aZ=>by
     have:=eS j aZ;exact aR.2 j (by omega) (by omega) (by omega)
    have aN:((i+1:Nat):Int)=(i:Int)+1:=by omega
    simp only[aN]at ih;have zD:=h5.l;have aHs:=h5.azT _ (ft C);have BO:=zD σ aA
    (repeat' first|simp(disch:=first|exact aq|fail) only[go_sem,aZ,he,ae,ah,hk,uZ,Iv,Iw,Ix,xH,cc,E,O,P,Q]|(apply av<;>intro))
    refine b9 (fun q:Nat×List ax=>⟨N [(0,.v (.int .i64 i)),(1,.v (.ptr ga 0)),(4,.v (.ptr eJ 0)),(7,.v (.ptr da 0)),(11,.v (.int .i64 σ.length)),(52,.v (enc L)),(53,.v (enc L.length)),(54,.v (enc q.1))],q.2⟩)
     (fun q=>q.1<=L.length/\mV 30 9 60 S c3 dq (.fn y iG) (sV r ga rs gi eJ gj da) A B x k b ga rs gi eJ gj da b1 tid q.2/\hX 9 q.2 b1 tid B σ/\Y (acc++(L.take q.1).flatMap G) q.2/\lO A W H q.2) (fun q=>L.length-q.1) (0,H)
     ⟨aeZ _,c,⟨ord,im,m,bA⟩,by simpa using u,lO.refl _ _ _⟩ (by(try simp(disch:=first|exact aq|fail) only[go_sem])<;>(first|rfl|(simp(disch:=first|exact a6|fail) only[cj,aB5,aB8,Env.ins,cE,cF,cG,cH,cI,cJ,cK,cL,I.b8,ae0,aB9,aHk,aHV,fM,bZ,aHW,aIA,aIB,cS,cT,go_sem,fQ];try rfl))) ?_
    rintro⟨j,H1⟩ ⟨dM,w,h,T,g1⟩;simp only at dM w h T g1;by_cases lo:j<L.length
    ·have rh:=ft lo;have O5:(L.take (j+1)).flatMap G=(L.take j).flatMap G++G L[j]!:=by rw[bZ lo,List.flatMap_append];simp
     obtain⟨aHt,aHu,V,O6⟩:=w.It;have ep:=w.zv;have X:=O6.no;have Z:=O6.Ir
     have adB:=O6.mw i C;have IC:=azJ c3[i]!.atom L[j]! h (by omega);have adC:=BJ c3[i]!.atom L[j]! h.n4;have tr:=OP c3[i]!.atom L[j]! σ;have AS:=Is c3[i]!.atom L[j]! σ;have pY:=azR c3[i]!.atom L[j]! σ;by_cases hm:(eF c3[i]!.atom L[j]! σ).1=true
     ·have ID:G L[j]! = hz S dq r.head (c3.drop (i+1)) (eF c3[i]!.atom L[j]! σ).2:=by rw[BA];simp only[hm,if_true]
      have az8:=h5.m σ _ _ aA (ft C) (az7 _ rh) hm;have O4:(acc++(L.take j).flatMap G++hz S dq r.head (c3.drop (i+1)) (eF c3[i]!.atom L[j]! σ).2).length<=jX:=by
       rw[R]at v;rw[<-ID,aID,<-O5];have e:L.flatMap G=(L.take (j+1)).flatMap G++(L.drop (j+1)).flatMap G:=by rw[<-List.flatMap_append,List.take_append_drop]
       rw[e]at v;simp only[I9]at v ⊢;omega
      rw[hm]at IC
      (repeat' first|simp(disch:=first|exact aq|fail) only[go_sem,V,ep,X,Z,adB]|(apply av<;>intro))
      refine zt h adC IC ?_;intro dS U o;have z:=w.zz o;have az9:=z.OV;have eh:=z.zv
      (repeat' first|simp(disch:=first|exact aq|fail) only[go_sem,az9,eh,sV,iV]|(apply av<;>intro))
      refine iW (ih z U (IB T o) az8 O4) ?_;rintro r' xB ⟨rfl,fW,og,fs,g3⟩;have sl:=fW.zv
      (repeat' first|simp(disch:=first|exact aq|fail) only[go_sem,sl]|(apply av<;>intro))
      refine zt og (by rw[AS];exact h.n4) (adf og σ.length pY (by omega)) ?_;intro o8 aY s;rw[AS]at aY
      (repeat' first|simp(disch:=first|exact aq|fail) only[go_sem]|(apply av<;>intro))
      refine⟨(j+1,o8),⟨by simp only;omega,fW.zz s,aY,IB (by rw[O5,ID,<-aID];exact fs) s,((g1.trans (o.zA m9 g m7 W)).trans g3).trans (s.zA m9 g m7 W)⟩,by simp only;omega,by(exact bG)⟩
     ·have iw:(eF c3[i]!.atom L[j]! σ).1=false:=by simpa using hm
      have ID:G L[j]! = []:=by rw[BA];simp only[iw];rfl
      rw[iw]at IC
      (repeat' first|simp(disch:=first|exact aq|fail) only[go_sem,V,ep,X,Z,adB]|(apply av<;>intro))
      refine zt h adC IC ?_;intro dS U o;have z:=w.zz o;have eh:=z.zv
      (repeat' first|simp(disch:=first|exact aq|fail) only[go_sem,eh]|(apply av<;>intro))
      refine zt U (by rw[AS];exact h.n4) (adf U σ.length pY (by omega)) ?_;intro o8 aY s;rw[AS]at aY
      (repeat' first|simp(disch:=first|exact aq|fail) only[go_sem]|(apply av<;>intro))
      refine⟨(j+1,o8),⟨by simp only;omega,z.zz s,aY,IB (IB (by rw[O5,ID,aIC];exact T) o) s,(g1.trans (o.zA m9 g m7 W)).trans (s.zA m9 g m7 W)⟩,by simp only;omega,by(exact bG)⟩
    ·obtain rfl:j=L.length:=by omega
     (repeat' first|simp(disch:=first|exact aq|fail) only[go_sem]|(apply av<;>intro))
     exact⟨_,rfl,rfl,w,h,by rw[R];rw[List.take_length]at T;exact T,g1⟩
end
open Enc (enc)
def ou(l:List Lit):AV:=if l=[]then .aV 3 else .list (some 60) 3 (l.map Lit.enc)
theorem adD(l:List Lit):∃w,jb (ou l) w l:=by
 by_cases h:l=[]
 ·subst h;exact⟨_,jb.nil⟩
 ·rw[ou,if_neg h];exact⟨_,jb.list _ _⟩
def nG(H:List ax)(x:Nat)(y mW iP:AV):List ax:=H++[.cells [.ptr x 0],.cells [y],.cells [mW],.cells [iP]]
theorem aAa(H:List ax)(x:Nat)(y a c:AV):H++[.cells [.ptr x 0]]++[.cells [y]]++[.cells [a]]++[.cells [c]]=nG H x y a c:=by simp[nG]
theorem aAb(H:List ax)(x:Nat)(y a c:AV):(nG H x y a c).length=H.length+4:=by simp[nG]
variable {y mW iP:AV}
theorem IE :(nG H x y mW iP)[H.length+2]?=some (.cells [mW]):=by simp[nG]
theorem IF :(nG H x y mW iP)[H.length+3]?=some (.cells [iP]):=by simp[nG]
variable {v:AV}
theorem IG :(nG H x y mW iP).set (H.length+2) (.cells [v])=nG H x y v iP:=by
 rw[nG,aIF _ _ (by omega),show H.length+2-H.length=2 by omega];rfl
theorem IH :(nG H x y mW iP).set (H.length+3) (.cells [v])=nG H x y mW v:=by
 rw[nG,aIF _ _ (by omega),show H.length+3-H.length=3 by omega];rfl
variable {iG:List AV}{W:Nat->Prop}{Y:List I->List ax->Prop}{Good:I->Prop}{jX:Nat}
theorem adE{y:Nat}(c:zB y iG W Y Good jX):∀(l:List I)(acc:List I)(H:List ax),(∀a∈l,Good a)->Y acc H->(acc++l).length<=jX->∃H',Y (acc++l) H'/\lN W H H'
 |[],acc,H,_,h,_=>⟨H,by rw[aIC];exact h,lN.refl _ _⟩|a::l,acc,H,d,h,g=>by
  rw[I9,Ja]at g;obtain⟨_,r,j,rfl,m,o⟩:=c.c acc H a (by omega) h (d a (List.mem_cons_self ..));obtain⟨q,e,s⟩:=adE c l (acc++[a]) j (fun b ae=>d b (List.mem_cons_of_mem _ ae)) m (by simp only[I9,Ja,TH];omega);exact⟨q,by rw[aID]at e;exact e,o.trans s⟩
theorem II(l:List Lit)(a:Lit):ou (l++[a])=.list (some 60) 3 (l.map Lit.enc++[a.enc]):=by rw[ou,if_neg (by simp)];simp
theorem IJ{α:Type}[Inhabited α]{p:α->Bool}{l:List α}(h:i<l.length):(l.take (i+1)).filter p=if p l[i]! = true then(l.take i).filter p++[l[i]!]else(l.take i).filter p:=by
 rw[bZ h,List.filter_append];cases ao:p l[i]! with
 |true=>rw[if_pos rfl,List.filter_cons,if_pos ao];rfl|false=>rw[if_neg (by simp),List.filter_cons,if_neg (by rw[ao];simp),List.filter_nil,aIC]
theorem IK{p:Lit->Bool}{l:List Lit} :((l.take i).filter p).length<=l.length:=Nat.le_trans (List.length_filter_le _ _) (by rw[List.length_take];omega)
variable {acc:List I}
theorem adF{y:Nat}{oq:Sub->Prop}{r:aU}(o:zB y iG W Y Good jX) 
  (eS:∀i,W i->i≠x/\i≠k/\i≠b)(h5:EM S (r.body.filter eX) (r.body.filter fun l=>!eX l) r.head Good oq)(ae:r.body.length<=100000)(Z:gq 30 H x k b S)(s:Y acc H)(aA:oq [])(z:(acc++o9 S r).length<=jX) :
  jK ν aB 41 [.agg [.ptr x 0],r.enc,.fn y iG] H fun sW H'=>sW=.a8 []/\Y (acc++o9 S r) H'/\lN W H H':=by
 have dh:M=1099511627776:=rfl;refine⟨?_,?_⟩
 ·refine bn.intro (D:=ot) asG ?_;unfold WV
  (repeat' first|simp(disch:=first|exact aq|fail) only[go_sem,aAa,I9,Ja,TH]|(apply av<;>intro))
  refine b9 (fun i:Nat=>⟨N [(3,.v (.ptr H.length 0)),(4,.v (.db r.enc.cells)),(5,.v (.ptr (H.length+1) 0)),(6,.v (.ptr (H.length+2) 0)),(7,.v (.ptr (H.length+3) 0)),(13,.v (.list none 3 (r.body.map Lit.enc))),(14,.v (enc r.body.length)),(15,.v (enc i))],nG H x (.fn y iG) (ou ((r.body.take i).filter eX)) (ou ((r.body.take i).filter fun l=>!eX l))⟩)
   (fun i=>i<=r.body.length) (fun i=>r.body.length-i) 0 (aeZ _) (by(try simp(disch:=first|exact aq|fail) only[go_sem])<;>(exact bG)) ?_
  intro i ak;by_cases h:i<r.body.length
  ·have g:=IJ (p:=eX) h;have j:=IJ (p:=fun l=>!eX l) h;have dV:=IK (p:=eX) (l:=r.body) (i:=i);have de:=IK (p:=fun l=>!eX l) (l:=r.body) (i:=i);generalize (r.body.take i).filter eX=c3 at *;generalize (r.body.take i).filter (fun l=>!eX l)=a at *;cases m:eX r.body[i]! with
   |true =>
    simp only[m,if_true,Bool.not_true,Bool.not_false,Bool.false_eq_true,if_false]at g j;by_cases he:c3=[]
    ·have e:ou c3=.aV 3:=by rw[he];rfl
     (repeat' first|simp(disch:=first|exact aq|fail) only[go_sem,m,e,IE,IF,IG,IH]|(apply av<;>intro))
     exact⟨i+1,by omega,by omega,by rw[g,j,II,he];(exact bG)⟩
    ·have e:ou c3=.list (some 60) 3 (c3.map Lit.enc):=if_neg he
     (repeat' first|simp(disch:=first|exact aq|fail) only[go_sem,m,e,IE,IF,IG,IH]|(apply av<;>intro))
     exact⟨i+1,by omega,by omega,by rw[g,j,II];(exact bG)⟩
   |false =>
    simp only[m,if_true,Bool.not_true,Bool.not_false,Bool.false_eq_true,if_false]at g j;by_cases he:a=[]
    ·have e:ou a=.aV 3:=by rw[he];rfl
     (repeat' first|simp(disch:=first|exact aq|fail) only[go_sem,m,e,IE,IF,IG,IH]|(apply av<;>intro))
     exact⟨i+1,by omega,by omega,by rw[g,j,II,he];(exact bG)⟩
    ·have e:ou a=.list (some 60) 3 (a.map Lit.enc):=if_neg he
     (repeat' first|simp(disch:=first|exact aq|fail) only[go_sem,m,e,IE,IF,IG,IH]|(apply av<;>intro))
     exact⟨i+1,by omega,by omega,by rw[g,j,II];(exact bG)⟩
  ·obtain rfl:i=r.body.length:=by omega
   rw[List.take_length];obtain⟨c3,A⟩:∃c3,c3=r.body.filter eX:=⟨_,rfl⟩;obtain⟨a,C⟩:∃a,a=r.body.filter fun l=>!eX l:=⟨_,rfl⟩;rw[o9,<-A,<-C]at z;rw[<-A,<-C]at h5 ⊢;obtain⟨u,E⟩:∃u,u=nG H x (.fn y iG) (ou c3) (ou a):=⟨_,rfl⟩;have G:u.length=H.length+4:=by rw[E,aAb]
   rw[<-E]
   (repeat' first|simp(disch:=first|exact aq|fail) only[go_sem,I9,Ja,TH,G,iV]|(apply av<;>intro))
   have q:u++[ax.map 0 []]++[ax.cells [AV.map (H.length+4),AV.aV 1]]++[ax.cells [AV.ptr (H.length+5) 0]]++[ax.cells [sV r (H.length+2) (H.length+3) H.length (H.length+6) (H.length+1) (H.length+7)]]=H++[.cells [.ptr x 0],.cells [.fn y iG],.cells [ou c3],.cells [ou a],.map 0 [],.cells [AV.map (H.length+4),AV.aV 1],.cells [AV.ptr (H.length+5) 0],.cells [sV r (H.length+2) (H.length+3) H.length (H.length+6) (H.length+1) (H.length+7)]]:=by
    rw[E,nG];simp
   obtain⟨d,c⟩:∃d,d=H++[.cells [.ptr x 0],.cells [.fn y iG],.cells [ou c3],.cells [ou a],.map 0 [],.cells [AV.map (H.length+4),AV.aV 1],.cells [AV.ptr (H.length+5) 0],.cells [sV r (H.length+2) (H.length+3) H.length (H.length+6) (H.length+1) (H.length+7)]]:=⟨_,rfl⟩;rw[<-c]at q;have J:gq 30 d x k b S:=by rw[c];exact Z.app _
   have aHv:d.length=H.length+8:=by rw[c];simp
   have yi:∀i,i<H.length->d[i]?=H[i]?:=fun i ak=>by rw[c];exact dp ak
   have vT:x<H.length/\k<H.length/\b<H.length:=by obtain⟨_,_,_,_,L,_⟩:=Z;exact⟨dd L.ah,dd L.hk,dd L.ae⟩
   obtain⟨O1,O⟩:=adD c3;obtain⟨O2,P⟩:=adD a;have Q:mV 30 9 60 S c3 a (.fn y iG) (sV r (H.length+2) (H.length+3) H.length (H.length+6) (H.length+1) (H.length+7)) H.length (H.length+8) x k b (H.length+2) (H.length+3) H.length (H.length+6) (H.length+1) (H.length+7) (H.length+5) (H.length+4) d :=
    ⟨J,⟨_,O1,by rw[c];simp,O⟩,⟨_,O2,by rw[c];simp,P⟩,by rw[c];simp,by rw[c];simp,by rw[c];simp,by rw[c];simp,by omega,by omega⟩
   have R:hX 9 d (H.length+5) (H.length+4) (H.length+8) []:=⟨.aV 1,0,[],by rw[c];simp,by rw[c];simp[cb],.nil,fun _=>rfl,.inl ⟨rfl,rfl⟩,by omega,by omega,by omega,.nil⟩;have T:Y acc d:=o.s _ _ _ s fun i V=>yi i (o.lt _ _ _ s V);refine iW (K':=O0 W y iG Y S r c3 a H.length (H.length+8) x k b (H.length+2) (H.length+3) H.length (H.length+6) (H.length+1) (H.length+7) (H.length+5) (H.length+4) [] (acc++hz S a r.head c3 []) d) ?_ ?_
   ·have:=adt o (fun i w=>⟨o.lt _ _ _ s w,eS i w⟩) h5 c3.length 0 (Nat.zero_add _) Q R T aA z;rw[<-q]at this ⊢;exact this
   ·rintro sW aHw ⟨rfl,aHx,aHy,X,g9⟩
    (repeat' first|simp(disch:=first|exact aq|fail) only[go_sem]|(apply av<;>intro))
    refine⟨_,rfl,rfl,by rw[o9,<-A,<-C];exact X,by have:=g9.1;omega,fun i ak V=>?_⟩;rw[g9.2 i ak V,yi i ak]
 ·obtain⟨H',h1,U⟩:=adE o (o9 S r) acc H (OY h5 _ _ (fun l aD=>aD) aA) s z;exact⟨_,H',rfl,h1,U⟩
open Enc (enc)
def vU(jc da eZ:Nat)(acc:List I)(H:List ax):Prop:=∃n m,H[jc]?=some (.map n (cb I.enc m))/\H[da]?=some (.cells [.map jc])/\H[eZ]?=some (.cells [.bool (acc.any fun a=>decide (4<c0 a))])/\p0 m acc
variable {jc da eZ:Nat}{a:I}
theorem aAz(o:vU jc da eZ acc H)(j:ct 8 a true=true) :
  bn ν aB 86 [a.enc,.ptr eZ 0,.ptr da 0] H fun r H'=>r=.a8 []/\vU jc da eZ (acc++[a]) H'/\lN (fun i=>i=jc\/i=da\/i=eZ) H H':=by
 have J:M=1099511627776:=rfl;obtain⟨n,m,d,U,c,q⟩:=o;have L:=dd d;have O:=dd U;have P:=dd c
 have s:jc≠da:=fun e=>by rw[e,U]at d;cases d
 have u:jc≠eZ:=fun e=>by rw[e,c]at d;cases d
 have w:eZ≠da:=fun e=>by rw[e,U]at c;simp at c
 have z:=Ne.symm s;have A:=Ne.symm u;have C:=Ne.symm w
 have Q:=BS j (Nat.le_refl _);have R:=IV j;have g:=q.put a;refine bn.intro (D:=ot) ata ?_;unfold YB;cases hd:acc.any fun a=>decide (4<c0 a)with
 |true =>
  rw[hd]at c
  (repeat' first|simp(disch:=first|exact aq|fail) only[go_sem,d,U,c]|(apply av<;>intro))
  refine⟨_,rfl,rfl,⟨_,_,by(simp(disch:=first|exact aq|fail) only[dD,b5,dp,eE,eY,eN];try rfl),by(simp(disch:=first|exact aq|fail) only[dD,b5,dp,eE,eY,eN,U];try rfl),by(simp(disch:=first|exact aq|fail) only[dD,b5,dp,eE,eY,eN];try rfl);rw[List.any_append,hd];rfl,g⟩,by simp,fun i ak h=>?_⟩;have cv:jc≠i:=fun e=>h (.inl e.symm);have E:eZ≠i:=fun e=>h (.inr (.inr e.symm))
  (simp(disch:=first|exact aq|fail) only[dD,b5,dp,eE,eY,eN];try rfl)
 |false =>
  rw[hd]at c
  (repeat' first|simp(disch:=first|exact aq|fail) only[go_sem,d,U,c]|(apply av<;>intro))
  refine⟨_,rfl,rfl,⟨_,_,by(simp(disch:=first|exact aq|fail) only[dD,b5,dp,eE,eY,eN];try rfl),by(simp(disch:=first|exact aq|fail) only[dD,b5,dp,eE,eY,eN,U];try rfl),?_,g⟩,by simp,fun i ak h=>?_⟩
  ·have G:decide ((c0 a:Int)>4)=decide (4<c0 a):=by rw[Bool.eq_iff_iff];simp;omega
   rw[List.any_append,hd,Bool.false_or,List.any_cons,List.any_nil,Bool.or_false,<-G]
   (simp(disch:=first|exact aq|fail) only[dD,b5,dp,eE,eY,eN];try rfl)
  ·have cv:jc≠i:=fun e=>h (.inl e.symm);have E:eZ≠i:=fun e=>h (.inr (.inr e.symm))
   (simp(disch:=first|exact aq|fail) only[dD,b5,dp,eE,eY,eN];try rfl)
theorem vU.ex(h:vU jc da eZ acc H):∃H',vU jc da eZ (acc++[a]) H'/\lN (fun i=>i=jc\/i=da\/i=eZ) H H':=by
 obtain⟨n,m,c,U,d,j⟩:=h;have o:=dd c;have z:=dd U;have q:=dd d
 have s:jc≠da:=fun e=>by rw[e,U]at c;cases c
 have u:jc≠eZ:=fun e=>by rw[e,d]at c;cases c
 have w:eZ≠da:=fun e=>by rw[e,U]at d;simp at d
 refine⟨(H.set eZ (.cells [.bool ((acc++[a]).any fun a=>decide (4<c0 a))])).set jc (.map 0 (cb I.enc (fz m (cy a) a))),⟨0,_,dD (by simpa using o),by rw[b5 s,b5 w,U],by rw[b5 u,dD q],j.put a⟩,by simp,fun i ak g=>?_⟩;rw[b5 (fun e=>g (.inl e.symm)),b5 (fun e=>g (.inr (.inr e.symm)))]
theorem aAA(jc da eZ jX:Nat):zB 86 [.ptr eZ 0,.ptr da 0] (fun i=>i=jc\/i=da\/i=eZ) (vU jc da eZ) (fun a=>ct 8 a true=true) jX:=by
 refine⟨fun acc H a _ c o=>⟨aAz c o,by obtain⟨g,d,U⟩:=vU.ex (a:=a) c;exact⟨_,g,rfl,d,U⟩⟩,fun acc H g c h=>?_,rfl,fun acc H i c q=>?_⟩
 ·obtain⟨n,m,d,U,e,j⟩:=c;exact⟨n,m,by rw[h jc (.inl rfl)];exact d,by rw[h da (.inr (.inl rfl))];exact U,by rw[h eZ (.inr (.inr rfl))];exact e,j⟩
 ·obtain⟨n,m,d,U,e,j⟩:=c;rcases q with rfl|rfl|rfl
  ·exact dd d
  ·exact dd U
  ·exact dd e
theorem aAB{l:List aU}(Q:gq 30 H x k b S)(dg:iq S)(BU:S.length<=100000)(aw:∀r∈l,mj r)(aD:l.length<=100000) :
  bn ν aB 52 [.agg [.ptr x 0],enc l] H fun r H'=>r=.a8 [.map H.length,.bool ((en l S).any fun a=>decide (4<c0 a))]/\(∃n m,H'[H.length]?=some (.map n (cb I.enc m))/\uc m (en l S) S)/\lN (fun _=>False) H H':=by
 have dh:M=1099511627776:=rfl;refine bn.intro (D:=ot) asN ?_;unfold Xl
 (repeat' first|simp(disch:=first|exact aq|fail) only[go_sem,I9,Ja,TH]|(apply av<;>intro))
 have xM:((H++[ax.map 0 []]++[ax.cells [AV.gw]]++[ax.cells [AV.bool false]]).set (H.length+1) (ax.cells [AV.map H.length])).set (H.length+1+1) (ax.cells [AV.bool false])=H++[.map 0 [],.cells [.map H.length],.cells [.bool false]]:=by
  rw[show H++[ax.map 0 []]++[ax.cells [AV.gw]]++[ax.cells [AV.bool false]]=H++[ax.map 0 [],ax.cells [AV.gw],ax.cells [AV.bool false]] by simp];rw[aIF _ _ (by omega),aIF _ _ (by omega),show H.length+1-H.length=1 by omega,show H.length+1+1-H.length=2 by omega];rfl
 rw[xM];obtain⟨h,C⟩:∃h,h=H++[ax.map 0 [],.cells [.map H.length],.cells [.bool false]]:=⟨_,rfl⟩;rw[<-C];have Ph:vU H.length (H.length+1) (H.length+2) [] h:=by rw[C];exact⟨0,[],by simp[cb],by simp,by simp,p0.nil⟩
 have DE:∀i,i<H.length->h[i]?=H[i]?:=fun i ak=>by rw[C];exact dp ak
 have BV:h.length=H.length+3:=by rw[C];simp
 have L:x<H.length/\k<H.length/\b<H.length:=by obtain⟨_,_,_,_,o,_⟩:=Q;exact⟨dd o.ah,dd o.hk,dd o.ae⟩
 have O:=fun jX=>aAA H.length (H.length+1) (H.length+2) jX;refine b9 (fun q:Nat×List ax=>⟨N [(2,.b [.ptr x 0]),(6,.v (.ptr (H.length+1) 0)),(7,.v (.ptr (H.length+2) 0)),(14,.v (enc l)),(15,.v (enc l.length)),(16,.v (enc q.1))],q.2⟩)
  (fun q=>q.1<=l.length/\vU H.length (H.length+1) (H.length+2) (en (l.take q.1) S) q.2/\H.length+3<=q.2.length/\∀i,i<H.length->q.2[i]?=H[i]?) (fun q=>l.length-q.1) (0,h) ⟨aeZ _,Ph,by simp only;omega,DE⟩ (by(try simp(disch:=first|exact aq|fail) only[go_sem])<;>(exact bG)) ?_
 rintro⟨i,s⟩ ⟨i1,E,i3,w⟩;simp only at i1 E i3 w;have R:gq 30 s x k b S:=Q.of (w x L.1) (w k L.2.1) (w b L.2.2);by_cases ak:i<l.length
 ·have T:=aw _ (ft ak);have af:=adF (r:=l[i]!) (O (en (l.take i) S++o9 S l[i]!).length) (fun j G=>by omega) (ad0 dg BU T) (by have:=T.b;omega) R E ⟨.nil,fun k hk=>(by cases hk),fun p ao=>(by cases ao)⟩ (Nat.le_refl _);have vd:en (l.take (i+1)) S=en (l.take i) S++o9 S l[i]!:=by rw[en,bZ ak,List.flatMap_append];simp[en]
  (repeat' first|simp(disch:=first|exact aq|fail) only[go_sem]|(apply av<;>intro)|(refine iW af ?_;(rintro sW dS ⟨rfl,d,U⟩)))
  exact⟨(i+1,dS),⟨by simp only;omega,by simp only;rw[vd];exact d,by have:=U.1;simp only;omega,fun j G=>(U.2 j (by omega) (by omega)).trans (w j G)⟩,by simp only;omega,by(exact bG)⟩
 ·have bw:l.take i=l:=aIE (by omega);rw[bw]at E;obtain⟨n,m,g,d,z,V⟩:=E;obtain⟨fn,jc,km,bj,o,dy⟩:=R;have ah:=o.ah;have hk:=o.hk
  (repeat' first|simp(disch:=first|exact aq|fail) only[go_sem,g,d,z,ah,hk]|(apply av<;>intro))
  have qk:=zr g;have cx:=dd g;have ca:=dd d;have ez:=dd z
  have dr:H.length≠x:=by omega
  have yT:H.length≠k:=by omega
  have aHC:H.length≠H.length+1:=by omega
  have nb:H.length≠H.length+2:=by omega
  have ac9:=dd ah;have BK:=dd hk
  refine b9 (fun q:List aj×List (aj×I)=>⟨N [(2,.b [.ptr x 0]),(6,.v (.ptr (H.length+1) 0)),(7,.v (.ptr (H.length+2) 0)),(26,.v (.ptr s.length 0))],s.set H.length (.map n (cb I.enc q.2))++[.iter (some H.length) n (q.1.map AV.str)]⟩)
   (fun q=>p1 km m q.1 q.2) (fun q=>m.length-q.1.length) ([],m) (p1.start V.n) (by(try simp(disch:=first|exact aq|fail) only[go_sem])<;>(first|rfl|(simp(disch:=first|exact a6|fail) only[cj,aB5,aB8,Env.ins,cE,cF,cG,cH,cI,cJ,cK,cL,I.b8,ae0,aB9,aHk,aHV,fM,bZ,aHW,aIA,aIB,cS,cT,go_sem,qk];try rfl))) ?_
  rintro⟨ks,e⟩ fK;simp only at fK;have fQ:=fK.len;by_cases P:e.filter (fun p=>!ks.contains p.1)=[]
  ·have l2:=fK.done P dy V
   (repeat' first|simp(disch:=first|exact aq|fail) only[go_sem,g,d,z,ah,hk]|(apply av<;>intro)|refine Ih I.enc (l:=e) (ks:=ks) (mid:=H.length) (n:=n) (by(simp(disch:=first|exact aq|fail) only[dD,b5,dp,eE,eY,eN];try rfl)) (by(simp(disch:=first|exact aq|fail) only[dD,b5,dp,eE,eY,eN];try rfl)) P ?_)
   refine⟨_,rfl,rfl,⟨n,e,by(simp(disch:=first|exact aq|fail) only[dD,b5,dp,eE,eY,eN];try rfl),l2⟩,by simp;omega,fun j G _=>?_⟩;have aHD:H.length≠j:=by omega
   have aHE:j<s.length:=by omega
   have:=w j G
   (simp(disch:=first|exact aq|fail) only[dD,b5,dp,eE,eY,eN,this];try rfl)
  ·(repeat' first|simp(disch:=first|exact aq|fail) only[go_sem,g,d,z,ah,hk]|(apply av<;>intro)|(refine Oy I.enc (l:=e) (ks:=ks) (mid:=H.length) (n:=n) (by(simp(disch:=first|exact aq|fail) only[dD,b5,dp,eE,eY,eN];try rfl)) (by(simp(disch:=first|exact aq|fail) only[dD,b5,dp,eE,eY,eN];try rfl)) P ?_;(rintro⟨q,a⟩ ao Z);(have aC:=(rP fK.n).2 ao)))
   have Lb:∀X Y,(s.set H.length X++[Y]).set H.length (.map n (cb I.enc (lL e q)))=s.set H.length (.map n (cb I.enc (lL e q)))++[Y]:=fun X Y=>by
    rw[List.set_append_left _ _ (by rw[List.length_set];exact cx),List.set_set]
   cases J:getM km q with
   |none =>
    have A:=fK.Pg ao Z J;have c:=A.len;rw[I9]at c
    (repeat' first|simp(disch:=first|exact aq|fail) only[go_sem,g,d,z,ah,hk,J,Option.map_none]|(apply av<;>intro))
    exact⟨(ks++[q],e),A,by simp only[I9,Ja,TH]at *;omega,by(exact bG)⟩
   |some u =>
    have A:=fK.del ao Z J;have c:=A.len;rw[I9]at c
    (repeat' first|simp(disch:=first|exact aq|fail) only[go_sem,g,d,z,ah,hk,J,Option.map_some]|(apply av<;>intro))
    exact⟨(ks++[q],lL e q),A,by simp only[I9,Ja,TH]at *;omega,by(first|rfl|(simp(disch:=first|exact a6|fail) only[cj,aB5,aB8,Env.ins,cE,cF,cG,cH,cI,cJ,cK,cL,I.b8,ae0,aB9,aHk,aHV,fM,bZ,aHW,aIA,aIB,cS,cT,go_sem,Lb];try rfl))⟩
open Enc (enc)
variable {e:Nat}
theorem gq.add{m:Nat}{km:List (aj×I)}{bj:List (aj×List I)}(aA:tX e H x k b n m km bj)(c:iZ km bj S)(a:I):gq e (qO e H k b n m km bj S a) x k b (mg S a)/\(qO e H k b n m km bj S a).length=H.length/\∀i,i≠k->i≠b->(qO e H k b n m km bj S a)[i]?=H[i]?:=by
 unfold qO mg;by_cases h:kc S a=true
 ·rw[if_pos h,if_pos h];exact⟨⟨n,m,km,bj,aA,c⟩,rfl,fun _ _ _=>rfl⟩
 ·rw[if_neg h,if_neg h];have d:=dd aA.hk;have g:=dd aA.ae
  refine⟨⟨n+1,kD m bj a.name,fz km (cy a) a,fz bj a.name (iE S a.name++[a]),⟨?_,?_,?_,aA.cc⟩,c.add (by simpa using h)⟩,by simp,fun i j U=>by rw[b5 (Ne.symm U),b5 (Ne.symm j)]⟩
  ·rw[b5 (Ne.symm aA.OJ),b5 (Ne.symm aA.OI)];exact aA.ah
  ·rw[b5 (Ne.symm aA.cc),dD d]
  ·rw[dD (by simpa using g)]
theorem aAE{l:List aU}{A nI:List I}(cV:gq 30 H x k b S)(dg:iq S)(aAF:∀a,a∈S↔a∈A)(BU:S.length<=100000)(aw:∀r∈l,mj r)(aD:l.length<=100000)(aR:nH f l A=some (e,nI)) :
  bn ν aB 22 [.agg [.ptr x 0],enc l] H fun r H'=>r=.int .i64 e/\(e=0->∃fi,gq 30 H' x k b fi/\iq fi/\(∀a,a∈fi↔a∈nI)/\fi.length<=100000)/\H.length<=H'.length/\∀i,i<H.length->i≠k->i≠b->H'[i]?=H[i]?:=by
 have dh:M=1099511627776:=rfl;refine bn.intro (D:=ot) asq ?_;unfold V6
 (repeat' first|simp(disch:=first|exact aq|fail) only[go_sem]|(apply av<;>intro))
 refine b9 (fun q:List ax×List I×List I×Nat=>⟨N [(1,.v (enc l)),(2,.b [.ptr x 0])],q.1⟩)
  (fun q=>gq 30 q.1 x k b q.2.1/\iq q.2.1/\(∀a,a∈q.2.1↔a∈q.2.2.1)/\q.2.1.length<=100000/\nH q.2.2.2 l q.2.2.1=some (e,nI)/\H.length<=q.1.length/\∀i,i<H.length->i≠k->i≠b->q.1[i]?=H[i]?) (fun q=>q.2.2.2) (H,S,A,f) ⟨cV,dg,aAF,BU,aR,Nat.le_refl _,fun _ _ _ _=>rfl⟩ (by(try simp(disch:=first|exact aq|fail) only[go_sem])<;>(exact bG)) ?_
 rintro⟨g,hn,w,f1⟩ ⟨T,L,O,i4,c,i6,i7⟩;simp only at T L O i4 c i6 i7;have IY:=aAB T L i4 aw aD;have vT:x<g.length/\k<g.length/\b<g.length:=by obtain⟨_,_,_,_,o,_⟩:=T;exact⟨dd o.ah,dd o.hk,dd o.ae⟩
 have z:∃r H',r=AV.a8 [.map g.length,.bool ((en l hn).any fun a=>decide (4<c0 a))]/\(∃n m,H'[g.length]?=some (ax.map n (cb I.enc m))/\uc m (en l hn) hn)/\lN (fun _=>False) g H':=by
  obtain⟨m,hm⟩:=uc.ex l hn;exact⟨_,g++[.map 0 (cb I.enc m)],rfl,⟨0,m,eE rfl,hm⟩,by simp,fun i ak _=>dp ak⟩
 have V:k3 (en l hn)=k3 (en l w):=ad4 (ad3 O l);have uT:gF l hn=[]↔gF l w=[]:=ad5 (Pj O l);cases f1 with
 |zero=>cases c|succ f1 =>
  rw[nH]at c;cases hd:(en l hn).any fun a=>decide (4<c0 a)with
  |true =>
   rw[hd]at IY z;have Pl:k3 (en l w)=true:=by rw[<-V];exact hd
   rw[if_pos Pl]at c;simp only[Option.some.injEq,Prod.mk.injEq]at c;obtain⟨rfl,rfl⟩:=c
   (repeat' first|simp(disch:=first|exact aq|fail) only[go_sem]|(apply av<;>intro)|(refine iW ⟨IY,z⟩ ?_;(rintro sW d ⟨rfl,⟨n,m,E,G⟩,f2⟩)))
   exact⟨_,rfl,rfl,fun h=>h.elim,by have:=f2.1;omega,fun i u U j=>(f2.2 i (by omega) (fun h=>h)).trans (i7 i u U j)⟩
  |false =>
   rw[hd]at IY z;have Pl:¬k3 (en l w)=true:=by rw[<-V];unfold k3;rw[hd];simp
   rw[if_neg Pl]at c
   (repeat' first|simp(disch:=first|exact aq|fail) only[go_sem]|(apply av<;>intro)|(refine iW ⟨IY,z⟩ ?_;(rintro sW d ⟨rfl,⟨n,m,E,G⟩,f2⟩)))
   have g2:∀i,i<H.length->i≠k->i≠b->d[i]?=H[i]?:=fun i u U j=>(f2.2 i (by omega) (fun h=>h)).trans (i7 i u U j);have X:gq 30 d x k b hn:=T.of (f2.2 x vT.1 (fun h=>h)) (f2.2 k vT.2.1 (fun h=>h)) (f2.2 b vT.2.2 (fun h=>h));have ie:=f2.1;have aHG:=dd E;by_cases aL:gF l w=[]
   ·rw[if_pos aL]at c;simp only[Option.some.injEq,Prod.mk.injEq]at c;obtain⟨rfl,rfl⟩:=c;have EV:m.length=0:=G.nil.2 (uT.2 aL)
    (repeat' first|simp(disch:=first|exact aq|fail) only[go_sem,E,zn,EV]|(apply av<;>intro))
    exact⟨_,rfl,rfl,fun _=>⟨hn,X,L,O,i4⟩,by omega,g2⟩
   ·rw[if_neg aL]at c;have EV:((m.length:Int)==0)=false:=by
     have:m.length≠0:=fun h=>aL (uT.1 (G.nil.1 h));have U:((m.length:Int)==0)≠true:=by simp only[beq_iff_eq,ne_eq];omega
     simpa using U
    have IZ:¬100000<(fu (w++gF l w)).length:=fun h=>by rw[if_pos h]at c;cases c
    rw[if_neg IZ]at c
    (repeat' first|simp(disch:=first|exact aq|fail) only[go_sem,E,zn,EV]|(apply av<;>intro))
    have ac2:(hn.map cy).Nodup:=by obtain⟨_,_,_,_,_,dy⟩:=T;exact dy.vQ
    refine b9 (fun q:List aj×List I×List ax=>⟨N [(1,.v (enc l)),(2,.b [.ptr x 0]),(20,.v (.ptr d.length 0))],q.2.2⟩)
     (fun q=>ud l hn m q.1 q.2.1/\gq 30 q.2.2 x k b q.2.1/\q.2.2[g.length]?=some (.map n (cb I.enc m))/\q.2.2[d.length]?=some (.iter (some g.length) n (q.1.map AV.str))/\d.length+1<=q.2.2.length/\∀i,i<H.length->i≠k->i≠b->q.2.2[i]?=H[i]?) (fun q=>m.length-q.1.length) ([],hn,d++[.iter (some g.length) n []])
     ⟨⟨.nil,fun s h=>(by cases h),L,fun a=>by simp,ac2⟩,X.app _,by(simp(disch:=first|exact aq|fail) only[dD,b5,dp,eE,eY,eN,E];try rfl),by(simp(disch:=first|exact aq|fail) only[dD,b5,dp,eE,eY,eN];try rfl),by simp,fun i u U j=>by rw[dp (by omega)];exact g2 i u U j⟩ (by(try simp(disch:=first|exact aq|fail) only[go_sem])<;>(exact bG)) ?_
    rintro⟨ks,P,Z⟩ ⟨Q,di,J,eD,gX,fh⟩;simp only at Q di J eD gX fh;have fQ:=Q.len;have hq:=Q.eM O;have ez:=dd J;have kN:=dd eD
    have n34:g.length≠d.length:=by omega
    have n43:=Ne.symm n34;by_cases lq:m.filter (fun p=>!ks.contains p.1)=[]
    ·obtain⟨al,au⟩:=Q.done G O lq;obtain⟨fn,jc,km,bj,o,dy⟩:=di;have ah:=o.ah;have hk:=o.hk;have ae:=o.ae
     have aHH:=dd ah;have aHI:=dd hk;have aHJ:=dd ae
     have wT:=dy.len;have dr:d.length≠x:=by omega
     have yT:d.length≠k:=by omega
     have nb:d.length≠b:=by omega
     have Pm:gq 30 (Z.set d.length .dead) x k b P:=gq.of ⟨fn,jc,km,bj,o,dy⟩ (b5 dr) (b5 yT) (b5 nb);have g4:∀i,i<H.length->i≠k->i≠b->(Z.set d.length .dead)[i]?=H[i]?:=fun i u U j=>by rw[b5 (by omega)];exact fh i u U j
     by_cases ad9:512<(fu (w++gF l w)).length
     ·rw[if_pos ad9]at c;simp only[Option.some.injEq,Prod.mk.injEq]at c;obtain⟨rfl,rfl⟩:=c
      (repeat' first|simp(disch:=first|exact aq|fail) only[go_sem,E,zn,ah,hk,wT]|(apply av<;>intro)|refine Ih I.enc (l:=m) (ks:=ks) (mid:=g.length) (n:=n) (by(simp(disch:=first|exact aq|fail) only[dD,b5,dp,eE,eY,eN,eD];try rfl)) (by(simp(disch:=first|exact aq|fail) only[dD,b5,dp,eE,eY,eN,J];try rfl)) lq ?_)
      exact⟨_,rfl,rfl,fun h=>h.elim,by omega,g4⟩
     ·rw[if_neg ad9]at c
      (repeat' first|simp(disch:=first|exact aq|fail) only[go_sem,E,zn,ah,hk,wT]|(apply av<;>intro)|refine Ih I.enc (l:=m) (ks:=ks) (mid:=g.length) (n:=n) (by(simp(disch:=first|exact aq|fail) only[dD,b5,dp,eE,eY,eN,eD];try rfl)) (by(simp(disch:=first|exact aq|fail) only[dD,b5,dp,eE,eY,eN,J];try rfl)) lq ?_)
      exact⟨(Z.set d.length .dead,P,_,f1),⟨Pm,Q.v,al,by simp only;omega,c,by simp only[List.length_set];omega,g4⟩,by simp only;omega,by(exact bG)⟩
    ·(repeat' first|simp(disch:=first|exact aq|fail) only[go_sem,J]|(apply av<;>intro)|(refine Oy I.enc (l:=m) (ks:=ks) (mid:=g.length) (n:=n) (by(simp(disch:=first|exact aq|fail) only[dD,b5,dp,eE,eY,eN,eD];try rfl)) (by(simp(disch:=first|exact aq|fail) only[dD,b5,dp,eE,eY,eN,J];try rfl)) lq ?_;(rintro⟨q,a⟩ ao BL);(have aC:=(rP G.n).2 ao)))
     obtain⟨aAG,aHK,aHL⟩:=G.g q a aC;have dZ:=EU aw L hd aAG;have dr:d.length≠x:=by omega
     have yT:d.length≠k:=by omega
     have nb:d.length≠b:=by omega
     obtain⟨C,R⟩:∃C,C=Z.set d.length (.iter (some g.length) n ((ks++[q]).map AV.str)):=⟨_,rfl⟩;have Pm:gq 30 C x k b P:=by rw[R];exact di.of (b5 dr) (b5 yT) (b5 nb)
     have N9:C.length=Z.length:=by rw[R,List.length_set]
     have aN:C[g.length]?=some (.map n (cb I.enc m)):=by rw[R,b5 n43];exact J
     have aX:C[d.length]?=some (.iter (some g.length) n ((ks++[q]).map AV.str)):=by rw[R,dD kN]
     have e1:∀i,i<H.length->i≠k->i≠b->C[i]?=H[i]?:=fun i u U j=>by rw[R,b5 (by omega)];exact fh i u U j
     rw[<-R];obtain⟨fn,jc,km,bj,o,dy⟩:=Pm;obtain⟨b0,dt,eW⟩:=gq.add o dy a;have aAH:((mg P a).map cy).Nodup:=by obtain⟨_,_,_,_,_,dy⟩:=b0;exact dy.vQ
     have xN:=Q.step aw L hd G ao BL aAH;have aAI:=xN.len;rw[I9]at aAI;have pa:=Io o dy a (BS dZ (by omega)) (by omega);obtain⟨nF,vR⟩:∃nF,nF=qO 30 C k b fn jc km bj P a:=⟨_,rfl⟩;rw[<-vR]at pa b0 dt eW;refine b6 pa ?_
     (repeat' first|simp(disch:=first|exact aq|fail) only[go_sem]|(apply av<;>intro))
     exact⟨(ks++[q],mg P a,nF),⟨xN,b0,by simp only;rw[eW _ (by omega) (by omega)];exact aN,by simp only;rw[eW _ yT nb];exact aX,by simp only;omega,fun i u U j=>(eW i U j).trans (e1 i u U j)⟩,by simp only[I9,Ja,TH]at *;omega,by(exact bG)⟩
end AM
