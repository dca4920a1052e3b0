/- What functions of the given program do, as calls of the machine. Conditions: names and lists are bounded where that is said. -/
import Derived.Test.YtmmplkgkkkjojaaGreatDoorW1
import Derived.Test.YtmmplkgkkkjojaaGreatDoorAm8
set_option linter.unusedSimpArgs false
set_option maxRecDepth 100000
set_option maxHeartbeats 4000000
set_option linter.unusedVariables false
namespace AM
open List renaming length_append -> aKB,length_cons -> aKC,replicate -> aKD,length_nil -> aKF,take_of_length_le -> aKG,append_nil -> aKI,take_zero -> aKJ,drop_eq_nil_of_le -> aKK,length_map -> aKL,append_assoc -> aKM,length_take -> aKO,set_append_right -> aKP
open Nat renaming zero_le -> aKE,le_refl -> aKH
open Bool renaming eq_iff_iff -> aKN
open Go Go.Proofs
open Tryz renaming prog -> ν
attribute [go_sem] dV cj dE e5 fs fj
open Enc (enc)
def ox(H:List ay)(p:ak):Prop:=∃a v,H[0]?=some (.buf 217 [a,v])/\(a=.fl\/a=.ptr 0 0) /\
 ((v=.aS 1/\p=[])\/∃o,o≠0/\p≠[]/\v=.bI o 0 p.length 1/\H[o]?=some (.buf 5 (iL p)))
theorem ox.ex(p:ak):∃H,ox H p:=by
 by_cases h:p=[]
 ·exact⟨[.buf 217 [.fl,.aS 1]],.fl,.aS 1,rfl,.inl rfl,.inl ⟨rfl,h⟩⟩
 ·exact⟨[.buf 217 [.fl,.bI 1 0 p.length 1],.buf 5 (iL p)],.fl,.bI 1 0 p.length 1,rfl,.inl rfl,.inr ⟨1,dw,h,rfl,rfl⟩⟩
variable {H:List ay}
theorem Gl{a v:AV}(h:H[0]?=some (.buf 217 [a,v]))(aG:a=.fl\/a=.ptr 0 0) :
  bB ν aD 215 [.ptr 0 0] H λr H'=>r=.bg []/\H'=H.set 0 (.buf 217 [.ptr 0 0,v]):=by
 refine bB.intro (D:=ml) aqm ?_;unfold abN;rcases aG with rfl|rfl
 ·refine bU @h ?_;exact⟨_,rfl,rfl⟩
 ·refine bU @h ?_;refine⟨_,rfl,rfl,?_⟩;apply List.ext_getElem?;intro i;by_cases al:0=i
  ·subst al;rw[h,dV (dq h)]
  ·rw[cj al]
variable {p:ak}
theorem ahS{q:ak}(h:ox H p)(e:p.length+q.length<=M) :
  bB ν aD 196 [.ptr 0 0,.str q] H λr H'=>r=.bg [.int .i64 q.length,.k5]/\ox H' (p++q):=by
 have i:M=1099511627776:=rfl;obtain⟨a,v,b,d,c⟩:=h;have g:=dq b;refine bB.intro (D:=ml) aqi ?_;unfold abn;rcases c with⟨rfl,rfl⟩|⟨o,aE,ar,rfl,c⟩
 ·by_cases f:q=[]
  ·subst f
   (repeat' first|simp(disch:=first|exact ai|fail) only[go_sem,aFA]|(refine ao ?_ ?_<;>intro)|refine cA (Gl b d) ?_)
   exact⟨_,rfl,rfl,_,_,dV (by simpa using g),.inr rfl,.inl ⟨rfl,rfl⟩⟩
  ·have j:q≠[]/\q.length<=M:=⟨f,by simpa using e⟩
   (repeat' first|simp(disch:=first|exact ai|fail) only[go_sem,ahR]|(refine ao ?_ ?_<;>intro)|refine cA (Gl b d) ?_)
   exact⟨_,rfl,rfl,_,_,bv,.inr rfl,.inr ⟨H.length,am,by simp_all,rfl,bv⟩⟩
 ·have k:(H.set 0 (ay.buf 217 [AV.ptr 0 0,AV.bI o 0 p.length 1]))[o]?=some (.buf 5 (iL p))/\p.length=p.length/\p.length+q.length<=M:=⟨by rw[cj (Ne.symm aE),c],rfl,e⟩;have l:=dq c
  (repeat' first|simp(disch:=first|exact ai|fail) only[go_sem,ahQ]|(refine ao ?_ ?_<;>intro)|refine cA (Gl b d) ?_)
  exact⟨_,rfl,rfl,_,_,bv,.inr rfl,.inr ⟨H.length,am,by simp_all,rfl,bv⟩⟩
theorem Q8{c:UInt8}{n:Int}(f:n=c.toNat)(h:ox H p)(g:p.length+1<=M) :
  bB ν aD 197 [.ptr 0 0,.int .u8 n] H λr H'=>r=.k5/\ox H' (p++[c]):=by
 have i:M=1099511627776:=rfl;subst f;obtain⟨a,v,d,e,b⟩:=h;have j:=dq d;refine bB.intro (D:=ml) az5 ?_;unfold aet;have ae:[AV.int .u8 (c.toNat:Int)]=iL [c]:=rfl;rcases b with⟨rfl,rfl⟩|⟨o,aE,ar,rfl,b⟩
 ·have k:[c]≠[]/\[c].length<=M:=⟨be,by simp[i]⟩
  (repeat' first|simp(disch:=first|exact ai|fail) only[go_sem,ahR,ae,Q7]|(refine ao ?_ ?_<;>intro)|refine cA (Gl d e) ?_)
  exact⟨_,rfl,rfl,_,_,bv,.inr rfl,.inr ⟨H.length,am,by simp_all,rfl,bv⟩⟩
 ·have l:(H.set 0 (ay.buf 217 [AV.ptr 0 0,AV.bI o 0 p.length 1]))[o]?=some (.buf 5 (iL p))/\p.length=p.length/\p.length+[c].length<=M:=⟨by rw[cj (Ne.symm aE),b],rfl,g⟩;have m:=dq b
  (repeat' first|simp(disch:=first|exact ai|fail) only[go_sem,ahQ,ae,Q7]|(refine ao ?_ ?_<;>intro)|refine cA (Gl d e) ?_)
  exact⟨_,rfl,rfl,_,_,bv,.inr rfl,.inr ⟨H.length,am,by simp_all,rfl,bv⟩⟩
theorem aFD(h:ox H p)(d:p.length<=M) :
  bB ν aD 162 [.ptr 0 0] H λr H'=>r=.str p:=by
 have f:M=1099511627776:=rfl;obtain⟨a,v,b,g,c⟩:=h;have i:=dq b;refine bB.intro (D:=ml) azI ?_;unfold adw;rcases c with⟨rfl,rfl⟩|⟨o,aE,ar,rfl,c⟩
 ·refine bU @b ?_;exact⟨_,rfl,rfl⟩
 ·have e:0<p.length:=List.length_pos_iff.2 ar;have j:H[o]?=some (ay.buf 5 (iL p))/\p.length=p.length/\0<p.length/\p.length<=M:=⟨c,rfl,e,d⟩;refine gS @b @aFw ?_;exact⟨_,rfl,rfl⟩
variable {f:Nat}{vs:List AV}{K:AV->List ay->Prop}{tg:aN K}{r:AV}
theorem yL(h:bB ν aD f vs H λr' H'=>r'=r/\ox H' p)(hk:∀H',ox H' p->K r H'):mZ ν aD f vs H K tg :=
 iJ ⟨h,by obtain⟨H',a⟩:=ox.ex p;exact⟨_,_,rfl,a⟩⟩ λr' H' ⟨b,c⟩=>by rw[b];exact hk H' c
theorem aFE(h:bB ν aD f vs H λr' _=>r'=r)(hk:∀H',K r H'):mZ ν aD f vs H K tg :=
 iJ ⟨h,_,[],rfl⟩ λr' H' a=>by rw[a];exact hk H'
variable {l:List I}{i:Nat}
theorem aFF(h:i<l.length):kH (l.take (i+1))=if i=0 then c4 l[i]! else kH (l.take i)++44::c4 l[i]!:=by
 rw[bL h];by_cases a:i=0
 ·subst a;rw[if_pos rfl,aKJ,List.nil_append,aEH]
 ·rw[if_neg a,aEI];intro b;have:=congrArg List.length b;rw[aKO,aKF]at this;omega
theorem aFG(h:i<=l.length):(kH (l.take i)).length<=(kH l).length:=by
 have c:l=l.take i++l.drop i:=(List.take_append_drop i l).symm;have d:∀a b:List I,(kH a).length<=(kH (a++b)).length:=λa b=>by
  cases a with
  |nil=>simp[kH]|cons x r =>
   have:∀r b:List I,jM (r++b)=jM r++jM b:=λr b=>by
    induction r with
    |nil=>simp[jM]|cons y r ih=>simp[jM,ih]
   simp[kH,this]
 conv=>rhs;rw[c]
 exact d _ _
theorem aFH(l:List I):l.length<=(kH l).length+1:=by
 have h:∀r:List I,r.length<=(jM r).length:=λr=>by
  induction r with
  |nil=>simp|cons t r ih=>simp only[jM,aKC,aKB];omega
 cases l with
 |nil=>simp|cons t r=>have:=h r;simp only[kH,aKC,aKB];omega
theorem aFI:∀(t:I){H:List ay}{p:ak},ox H p->p.length+(c4 t).length<=M ->
  bB ν aD 161 [.ptr 0 0,t.enc] H λr H'=>r=.bg []/\ox H' (p++c4 t):=I.ind λt ih H p h b=>by
 have B:M=1099511627776:=rfl;rw[ahq]at b ⊢;refine bB.intro (D:=ml) aqh ?_;unfold abj;by_cases j:t.args.length=0
 ·rw[if_pos j]at b ⊢
  (repeat' first|simp(disch:=first|exact ai|fail) only[go_sem,j]|(refine ao ?_ ?_<;>intro)|(refine yL (ahS ‹ox _ _› b) ?_;intro s m)|fail)
  exact⟨_,rfl,rfl,m⟩
 ·rw[if_neg j]at b ⊢;simp only[aKB,aKC,aKF]at b
  (repeat' first|simp(disch:=first|exact ai|fail) only[go_sem,j]|(refine ao ?_ ?_<;>intro)|(refine yL (ahS ‹ox _ _› am) ?_;intro s m)|(refine yL (Q8 (c:=40) rfl ‹ox _ _› (by simp only[aKB];omega)) ?_;intro u v)|fail)
  refine bQ (λq:Nat×List ay=>⟨N [(0,.v (.ptr 0 0)),(17,.v (enc t.args)),(18,.v (enc t.args.length)),(19,.v (enc q.1))],q.2⟩)
   (λq=>q.1<=t.args.length/\ox q.2 (p++(t.name++40::kH (t.args.take q.1)))) (λq=>t.args.length-q.1) (0,u) ⟨aKE _,by simpa[kH]using v⟩ ew ?_
  have w:=aFH t.args;rintro⟨i,C⟩ ⟨x,d⟩;simp only at x d;by_cases al:i<t.args.length
  ·have a:=aFF al;have k:=aFG (l:=t.args) (i:=i+1) al;have n:=@ih t.args[i]! (ek al);by_cases e:i=0
   ·rw[if_pos e]at a;rw[a]at k;have y:=n d (by rw[e,aKJ,kH,<-e];simp only[aKB,aKC,aKF];omega)
    (repeat' first|simp(disch:=first|exact ai|fail) only[go_sem]|(refine ao ?_ ?_<;>intro)|(refine yL y ?_;intro o g)|fail)
    exact⟨(i+1,_),⟨ap,by simp only;rw[a];simpa[e,kH]using g⟩,ap,ci⟩
   ·rw[if_neg e]at a;rw[a]at k;simp only[aKB,aKC]at k
    (repeat' first|simp(disch:=first|exact ai|fail) only[go_sem]|(refine ao ?_ ?_<;>intro)|(refine yL (Q8 (c:=44) rfl d (by simp only[aKB,aKC];omega)) ?_;intro o g)|(refine yL (n g (by simp only[aKB,aKC,aKF];omega)) ?_;intro E z)|fail)
    exact⟨(i+1,_),⟨ap,by simp only;rw[a];simpa using z⟩,ap,ci⟩
  ·have A:t.args.take i=t.args:=aKG am;rw[A]at d
   (repeat' first|simp(disch:=first|exact ai|fail) only[go_sem]|(refine ao ?_ ?_<;>intro)|(refine yL (Q8 (c:=41) rfl d (by simp only[aKB,aKC];omega)) ?_;intro o g)|fail)
   exact⟨_,rfl,rfl,by simpa using g⟩
noncomputable def Q9:List iZ:=[(118,eh λ(t:I)=>enc (c4 t))]
noncomputable def na:bj:=ij ml (e1 Q9)
instance aOw{D:bj}[h:bt D na]:bt D ml:=h.ke
def Ra:List Nat:=[118]++Ki
theorem ahT:fq na Ra:=fq.or QR (kf Q9)
variable {F:List AV->Option AV}
theorem aFJ(h:∀xs,e1 Q9 f xs=F xs)(hk:Ki.contains f=false:=by rfl):∀xs,na f xs=F xs:=λxs=>by rw[<-h];exact kg QR hk
theorem aFK(t:I)(a:(c4 t).length<=M):aA ν aD 118 [enc t] (enc (c4 t)):=by
 have d:M=1099511627776:=rfl;refine aA.intro (D:=na) V6 cX c7 ?_;unfold yr;simp(disch:=first|exact ai|fail) only[go_sem];have b:ox [ay.buf 217 [AV.fl,AV.aS 1],ay.dead] []:=⟨_,_,rfl,.inl rfl,.inl ⟨rfl,rfl⟩⟩
 (repeat' first|simp(disch:=first|exact ai|fail) only[go_sem]|(refine ao ?_ ?_<;>intro)|(refine yL (aFI t b kO) ?_;intro e c)|(refine aFE (aFD c kO) ?_;intro g)|fail)
 all_goals rfl
variable {D:bj}{x1:AV}{t:I}{K:AV->Prop}{tg:aN K}
theorem aFL[bt D na][aT x1 t](h:(c4 t).length<=M) :b1 ν aD D 118 [x1] K tg=K (enc (c4 t)):=ec (D':=na) (F:=λ(t:I)=>enc (c4 t)) (aFJ λ_=>rfl) (aFK t h)
attribute [go_sem ↓ 2000] aFL
open Enc (enc)
theorem Rm(H:List ay):bB ν aD 80 [] H λr H'=>r=.ptr (H.length+2) 0/\H'=H++[.map 0 []]++[.map 0 []]++[.cells [.map H.length,.map (H.length+1)]]:=by
 refine bB.intro (D:=na) ayO ?_;unfold aaW;refine ag ?_;exact⟨_,rfl,be,be⟩
variable {x k b:Nat}{S:List I}
theorem aF2(h:gV 25 H x k b S)(a:I)(g:(c4 a).length<=M) :
  bB ν aD 216 [.ptr x 0,a.enc] H λr H'=>r=.bool (kI S a)/\H'=H:=by
 obtain⟨n,m,km,bu,aE,e⟩:=h;have ah:=aE.ah;have hk:=aE.hk;have ae:=aE.ae
 have c:=e.has a;refine bB.intro (D:=na) aqn ?_;unfold abR;cases d:getM km (c4 a)with
 |none =>
  rw[d]at c;refine mb @d @ah @hk @ae ?_;exact⟨_,rfl,by rw[<-c];rfl⟩
 |some u =>
  rw[d]at c;refine mb @d @ah @hk @ae ?_;exact⟨_,rfl,by rw[<-c];rfl⟩
def rK(e:Nat)(H:List ay)(k b n m:Nat)(km:List (ak×I))(bu:List (ak×List I))(S:List I)(a:I):List ay :=
 if kI S a=true then H else(H.set k (.map (n+1) (cI I.enc (fV km (c4 a) a)))).set b (.map (lo m bu a.name) (cI (lO e) (fV bu a.name (jc S a.name++[a]))))
variable {n:Nat}
theorem Kv{m:Nat}{km:List (ak×I)}{bu:List (ak×List I)}(aE:vd 25 H x k b n m km bu)(q:jN km bu S)(a:I)(E:(c4 a).length<=M)(ds:S.length+1<=M) :
  bB ν aD 81 [.ptr x 0,a.enc] H λr H'=>r=.bool (!kI S a)/\H'=rK 25 H k b n m km bu S a:=by
 have ah:=aE.ah;have hk:=aE.hk;have ae:=aE.ae
 have y:=dq ah;have G:=dq hk;have J:=dq ae
 have z:=aE.Re;have A:=aE.Rf;have B:=aE.cG
 have m1:=Ne.symm z;have O:=Ne.symm A;have P:=Ne.symm B
 have c:=q.has a;refine bB.intro (D:=na) aff ?_;unfold Pn;cases g:getM km (c4 a)with
 |some u =>
  rw[g]at c;refine mb @g @ah @hk @ae ?_;exact⟨_,rfl,by rw[<-c];rfl,by rw[rK,if_pos (show kI S a=true from c.symm)]⟩
 |none =>
  rw[g]at c;have w:lo n km (c4 a)=n+1:=by rw[lo,g]
  have d:=q.Rc a.name;have C:(jc S a.name).length<=S.length:=List.length_filter_le _ _;cases e:getM bu a.name with
  |none =>
   have j:jc S a.name=[]:=by
    rw[e]at d;by_cases h:jc S a.name=[]
    ·exact h
    ·rw[if_neg h]at d;cases d
   have o:∀{s:au}{v n id:Nat}{K:au->Prop}{t:aN K},w7 [1] s v (.str a.name) id 25 2 [a.enc] K t (some (.map n (cI (lO 25) bu)))=di { s with heap:=s.heap.set id (.map (n+1) (cI (lO 25) (fV bu a.name [a]))) } v (.list none 2 ([a].map I.enc)) K ⟨⟩:=aE3 e rfl;refine Is @g @ah @hk @ae @w @e @aEZ @o ?_;exact⟨_,rfl,by rw[<-c];rfl,by rw[rK,if_neg (by rw[<-c];simp),j,lo,e];rfl⟩
  |some L =>
   have cf:L=jc S a.name:=by
    rw[e]at d;by_cases h:jc S a.name=[]
    ·rw[if_pos h]at d;cases d
    ·rw[if_neg h]at d;exact Option.some.inj d
   have Q:L.length+1<=M:=by rw[cf];omega
   have o:∀{s:au}{v n id:Nat}{x:AV}{K:au->Prop}{t:aN K},w7 [1] s v (.str a.name) id 25 2 (L.map I.enc++[a.enc]) K t (some (.map n (jv (cI (lO 25) bu) (.str a.name) x)))=di { s with heap:=s.heap.set id (.map n (cI (lO 25) (fV bu a.name (L++[a])))) } v (.list none 2 ((L++[a]).map I.enc)) K ⟨⟩:=aE2 (by rw[e];rfl) be
   (repeat' first|simp(disch:=first|exact ai|fail) only[go_sem,g,ah,hk,ae,w,aEY e,o]|(refine ao ?_ ?_<;>intro))
   exact⟨_,rfl,by rw[<-c];rfl,by rw[rK,if_neg (by rw[<-c];simp),<-cf,lo,e];simp⟩
theorem ah1(h:gV 25 H x k b S)(ds:S.length<=M) :
  bB ν aD 84 [.ptr x 0] H λr H'=>r=enc (fx S)/\H'=H++[.dead]:=by
 have y:M=1099511627776:=rfl;obtain⟨n,m,km,bu,aE,d⟩:=h;have ah:=aE.ah;have hk:=aE.hk;have ae:=aE.ae
 have o:=dq ah;have z:=dq hk;have A:=dq ae
 have c:=d.len;refine bB.intro (D:=na) ayQ ?_;unfold aa3;refine rp @ah @hk @ae @AD @c ?_;refine bQ (λL:List I=>⟨N [(3,.v (.list (some 25) 2 (L.map I.enc))),(16,.v (.ptr H.length 0))],H++[.iter (some k) n ((L.map c4).map AV.str)]⟩)
  (λL=>(L.map c4).Nodup/\∀a∈L,a∈S) (λL=>S.length-L.length) [] ⟨.nil,λ_ h=>d6⟩ ew ?_
 rintro L ⟨j,e⟩;have s:=ahV j e;by_cases g:km.filter (λp=>!(L.map c4).contains p.1)=[]
 ·have ax:fx L=fx S:=ahb (d.all e g)
  (repeat' first|simp(disch:=first|exact ai|fail) only[go_sem,ah,hk,ae]|(refine ao ?_ ?_<;>intro)|refine Kp I.enc (l:=km) (ks:=L.map c4) (mid:=k) (n:=n) bv kr g ?_)
  exact⟨_,rfl,by rw[ax]⟩
 ·(repeat' first|simp(disch:=first|exact ai|fail) only[go_sem,ah,hk,ae]|(refine ao ?_ ?_<;>intro)|(refine Q2 I.enc (l:=km) (ks:=L.map c4) (mid:=k) (n:=n) bv kr g ?_;(rintro⟨q,a⟩ ar u);(obtain⟨aG,rfl⟩:=(d.mem q a).1 ar);(have B:=(sE d.o8).2 ar);(obtain⟨v,w,C⟩:=aFS j e aG u))|fail)
  exact⟨L++[a],⟨v,w⟩,by simp only[aKB,aKC,aKF];omega,ci⟩
open Enc (enc)
noncomputable def Rn:List iZ:=[(217,eh λ(t:I)=>enc (eJ t))]
noncomputable def sG:bj:=ij na (e1 Rn)
instance aOy{D:bj}[h:bt D sG]:bt D na:=h.ke
def Ro:List Nat:=[217]++Ra
theorem ah2:fq sG Ro:=fq.or ahT (kf Rn)
theorem aF4(h:∀xs,e1 Rn f xs=F xs)(hk:Ra.contains f=false:=by rfl):∀xs,sG f xs=F xs:=λxs=>by rw[<-h];exact kg ahT hk
theorem aF5(t:I):aA ν aD 217 [enc t] (enc (eJ t)):=by
 refine aA.intro (D:=sG) aAe cX c7 ?_;unfold aeP;simp(disch:=first|exact ai|fail) only[go_sem];by_cases h:t.args.length=0
 ·refine bU @h ?_;all_goals simp_all[eJ]
 ·refine bU @h ?_;all_goals simp_all[eJ]
theorem aF6[bt D sG][aT x1 t]  :b1 ν aD D 217 [x1] K tg=K (enc (eJ t)):=ec (D':=sG) (F:=λ(t:I)=>enc (eJ t)) (aF4 λ_=>rfl) (aF5 t)
attribute [go_sem ↓ 2000] aF6
variable {cb tid B:Nat}{σ:Sub}
theorem aF7(h:iy 9 H cb tid B σ)(v:ak)(t:I)(J:σ.length+1<=M) :
  bB ν aD 218 [.ptr cb 0,.str v,t.enc] H λr H'=>r=.bool (mn σ v t).1/\iy 9 H' cb tid B (mn σ v t).2/\jO B cb tid H H':=by
 obtain⟨ord,jd,m,h⟩:=h;have e:=Rj h.oV v t;have ae:=h.b;have d:=h.t;have cG:=h.ne;have V:=Ne.symm cG;have y:=h.Gq;have z:=h.Gr;have A:=h.Gs
 have W:=dq ae;have lt:=dq d
 have a:=h.yN v;refine bB.intro (D:=sG) aqp ?_;unfold abT;cases c:getM σ v with
 |some u =>
  rw[c]at a;have g:mn σ v t=(b6 u t==0,σ):=by rw[mn,c]
  rw[g];refine iv @ae @d @a ?_;exact⟨_,rfl,rfl,⟨ord,jd,m,h⟩,jO.refl _ _ _ _⟩
 |none =>
  rw[c]at a;have g:mn σ v t=(true,σ++[(v,t)]):=by rw[mn,c]
  rw[g]at e ⊢;have C:lo jd m v=jd+1:=by rw[lo,a]
  have E:∀s,getM (fV m v t) s=getM (σ++[(v,t)]) s:=λs=>by rw[w5,ahW c,h.yN]
  rcases h.o with⟨rfl,hk⟩|⟨o,cs,X,rfl,G,L,O⟩
  ·have P:σ=[]:=by cases σ with|nil=>rfl|cons p r=>simp[cd]at hk
   subst P
   (repeat' first|simp(disch:=first|exact ai|fail) only[go_sem,ae,d,a,C,o7]|(refine ao ?_ ?_<;>intro))
   refine⟨_,rfl,rfl,⟨_,_,_,⟨bv,bv,AE h.AH _ _,E,.inr ⟨H.length,[.str v],A,rfl,bv,by simp[cd],by simp[cd]⟩,y,z,d9,e⟩⟩,be,λi al j q=>?_⟩;have Q:=Ne.symm j;have R:=Ne.symm q
   (simp(disch:=first|exact ai|fail) only[dV,cj,dE,e5,fs,fj];try rfl)
  ·have w:(H.set tid (ay.map (jd+1) (cI I.enc (fV m v t))))[o]?=some (.buf 9 cs)/\(cd σ).length<=cs.length/\cs.take (cd σ).length=(cd σ).map AV.str/\(cd σ).length+1<=M:=⟨by rw[cj am,G],L,O,by simpa[cd]using J⟩;have bc:=dq G;have Y:o≠cb:=by omega
   have T:o≠tid:=by omega
   (repeat' first|simp(disch:=first|exact ai|fail) only[go_sem,ae,d,a,C,aFT w]|(refine ao ?_ ?_<;>intro))
   refine⟨_,rfl,rfl,⟨_,_,_,⟨bv,bv,AE h.AH _ _,E,.inr ⟨H.length,(cd σ++[v]).map AV.str,A,by rw[Gt,aKB];rfl,bv,by simp[Gt],by rw[Gt,aKG be]⟩,y,z,d9,e⟩⟩,be,λi al j q=>?_⟩;have Q:=Ne.symm j;have R:=Ne.symm q
   have Z:o≠i:=by omega
   (simp(disch:=first|exact ai|fail) only[dV,cj,dE,e5,fs,fj];try rfl)
theorem ah4(h:iy 9 H cb tid B σ)(n:Nat)(V:n<=σ.length)(bw:σ.length<=M) :
  bB ν aD 203 [.ptr cb 0,.int .i64 n] H λr H'=>r=.bg []/\iy 9 H' cb tid B (σ.take n)/\jO B cb tid H H':=by
 have cP:M=1099511627776:=rfl;obtain⟨ord,jd,m,h⟩:=h;have ae:=h.b;have a:=h.t;have cG:=h.ne;have OF:=Ne.symm cG;have L:=h.Gq;have O:=h.Gr;have P:=h.Gs
 have nF:=dq ae;have lt:=dq a
 have v:(cd σ).length=σ.length:=by simp[cd]
 have z:(cd (σ.take n)).Nodup:=by rw[Rk];exact h.oV.sublist (List.take_sublist _ _)
 refine bB.intro (D:=sG) aAb ?_;unfold aeI;rcases h.o with⟨rfl,hk⟩|⟨o,cs,W,rfl,A,X,Q⟩
 ·have Y:σ=[]:=by cases σ with|nil=>rfl|cons p r=>simp[cd]at hk
  subst Y;obtain rfl:n=0:=by simpa using V
  refine gS @ae @a ?_;refine bQ (λj:Unit=>⟨N [(0,.v (.ptr cb 0)),(1,.v (.int .i64 0)),(11,.v (.aS 1)),(12,.v (.int .i64 0)),(13,.v (.int .i64 0))],H⟩) (λ_=>True) (λ_=>0) () trivial ew ?_;intro _ _;refine gS @ae @a ?_;refine⟨_,rfl,rfl,⟨_,_,_,⟨bv,by(simp(disch:=first|exact ai|fail) only[dV,cj,dE,e5,fs,fj,a];try rfl),h.AH,h.yN,.inl ⟨rfl,rfl⟩,L,O,by simpa using P,.nil⟩⟩,be,λi al d u=>?_⟩;have Z:=Ne.symm d
  (simp(disch:=first|exact ai|fail) only[dV,cj,dE,e5,fs,fj];try rfl)
 ·have bc:=dq A;have bN:o≠cb:=by omega
  have C:o≠tid:=by omega
  have R:∀(jd:Nat)(g:List (ak×I)),(cd g).Nodup->(∀s,getM g s=if s∈(cd σ).drop n then none else getM σ s) ->
    iy 9 ((H.set tid (.map jd (cI I.enc g))).set cb (.cells [.map tid,.bI o 0 n 1])) cb tid B (σ.take n)/\jO B cb tid H ((H.set tid (.map jd (cI I.enc g))).set cb (.cells [.map tid,.bI o 0 n 1])):=λjd g aj av=>by
   have E:(cd (σ.take n)).length=n:=by rw[Rk,aKO];omega
   refine⟨⟨_,_,_,⟨bv,bv,aj,λs=>by rw[av,aFX h.oV],.inr ⟨o,cs,W,by rw[E],by have:=Ne.symm bN;have:=Ne.symm C;(simp(disch:=first|exact ai|fail) only[dV,cj,dE,e5,fs,fj,A];try rfl),by rw[E];omega,?_⟩,L,O,by simpa using P,z⟩⟩,be,λi al d u=>?_⟩
   ·rw[E,Rk,List.map_take,<-Q,List.take_take,Nat.min_eq_left am]
   ·have Z:=Ne.symm d;have ym:=Ne.symm u
    (simp(disch:=first|exact ai|fail) only[dV,cj,dE,e5,fs,fj];try rfl)
  have T:=C6 a;by_cases af:0<n/\n=σ.length
  ·obtain⟨c1,c2⟩:=af;refine iv @ae @a @v ?_;rw[if_pos am];refine bQ (λj:Unit=>⟨N [(0,.v (.ptr cb 0)),(1,.v (.int .i64 n)),(11,.v (.list none 1 [])),(12,.v (.int .i64 0)),(13,.v (.int .i64 0))],H⟩) (λ_=>True) (λ_=>0) () trivial ew ?_;intro _ _;refine iv @ae @a @v ?_;have:=R jd m h.AH (λs=>by rw[aKK am];simpa using h.yN s);rw[T]at this;simp only[false_and,if_false,Nat.sub_zero];exact⟨_,rfl,rfl,this⟩
  ·refine iv @ae @a @v ?_;rw[if_neg am];obtain⟨c,j0⟩:∃c,c=σ.length-n:=⟨_,rfl⟩;refine bQ (λq:Nat×List (ak×I)=>⟨N [(0,.v (.ptr cb 0)),(1,.v (.int .i64 n)),(11,.v (.bI o n (σ.length-n) 1)),(12,.v (.int .i64 (σ.length-n:Nat))),(13,.v (enc q.1))],H.set tid (.map jd (cI I.enc q.2))⟩)
    (λq=>q.1<=σ.length-n/\(cd q.2).Nodup/\∀s,getM q.2 s=if s∈((cd σ).drop n).take q.1 then none else getM σ s) (λq=>σ.length-n-q.1) (0,m) ⟨aKE _,h.AH,λs=>by simpa using h.yN s⟩ (by rw[T];(try simp(disch:=first|exact ai|fail) only[go_sem])<;>(exact qn @Nat.mul_one)) ?_
   rintro⟨j,g⟩ ⟨ei,y,G⟩;simp only at ei y G;by_cases a8:j<σ.length-n
   ·have oe:=aFY (e:=9) Q X (i:=n+j) am;have J:((cd σ).drop n)[j]! = (cd σ)[n+j]!:=by rw[yH,yH,List.getElem?_drop]
    have w:=bL (l:=(cd σ).drop n) (i:=j) (by rw[List.length_drop];omega);rw[J]at w;refine oX @ae @a @v @A @oe @Nat.mul_one ?_;refine⟨(j+1,mm g (cd σ)[n+j]!),⟨ap,QX y _,λs=>?_⟩,ap,by(first|rfl|(simp(disch:=first|exact aX|fail) only[b7,List.foldr_cons,List.foldr_nil,Env.ins,cp,cq,cr,ct,cu,cv,cw,cx,I.b0,aKL,Int.natCast_add,Int.natCast_one,Int.natCast_zero,aKJ,bL,List.map_append,List.map_cons,List.map_nil,cy,cz,go_sem,List.set_set];try rfl))⟩;simp only;rw[QY y,G,w];simp only[List.mem_append,List.mem_singleton];by_cases d:s=(cd σ)[n+j]!
    ·rw[if_pos d,if_pos (.inr d)]
    ·rw[if_neg d];by_cases u:s∈((cd σ).drop n).take j
     ·rw[if_pos u,if_pos (.inl u)]
     ·rw[if_neg u,if_neg (by rintro(h|h);exact u h;exact d h)]
   ·refine iv @ae @a @v ?_;simp only[false_and,if_false,Nat.sub_zero];exact⟨_,rfl,rfl,R jd g y (λs=>by rw[G,aKG (by rw[List.length_drop];omega)])⟩
theorem AI{K:AV->List ay->Prop}{tg:aN K}{a:Sub}(fN:iy 9 H cb tid B σ)(e:(cd a).Nodup)
  (h:bB ν aD f vs H λr' H'=>r'=r/\iy 9 H' cb tid B a/\jO B cb tid H H')(hk:∀H',iy 9 H' cb tid B a->jO B cb tid H H'->K r H'):mZ ν aD f vs H K tg :=
 iJ ⟨h,by obtain⟨H',c,d⟩:=fN.ex e;exact⟨_,_,rfl,c,d⟩⟩ λr' H' ⟨c,d,g⟩=>by rw[c];exact hk H' d g
theorem iy.oV{e:Nat}(h:iy e H cb tid B σ):(cd σ).Nodup:=by obtain⟨_,_,_,h⟩:=h;exact h.oV
theorem aGa:∀(p:I)(g:I){H:List ay}{cb tid B:Nat}{σ:Sub},iy 9 H cb tid B σ->σ.length+(ck p).length<=M ->
  bB ν aD 202 [.ptr cb 0,p.enc,g.enc] H λr H'=>r=.bool (eA p g σ).1/\iy 9 H' cb tid B (eA p g σ).2/\jO B cb tid H H':=I.ind λp ih g H cb tid B σ h Q=>by
 have R:M=1099511627776:=rfl;rw[Rg];refine bB.intro (D:=sG) aAa ?_;unfold aeF;by_cases d:eJ p=true
 ·rw[if_pos d];have u:(ck p).length=1:=by rw[nJ,if_pos (by simp[eJ]at d;simpa using d.1)];rfl
  (repeat' first|simp(disch:=first|exact ai|fail) only[go_sem,d]|(refine ao ?_ ?_<;>intro)|(refine AI h (Rj h.oV _ _) (aF7 h _ _ am) ?_;(intro A C E))|fail)
  exact⟨_,rfl,rfl,C,E⟩
 ·rw[if_neg d];have v:eJ p=false:=by simpa using d
  by_cases e:p.name=g.name
  ·have j:(!(p.name==g.name))=false:=by simp[e]
   by_cases u:p.args.length=g.args.length
   ·rw[if_neg (by rintro(h|h);exact h e;exact h u)];have T:(bF p.args).length<=(ck p).length:=by
     rw[nJ];split
     ·rename_i G;rw[List.eq_nil_of_length_eq_zero G];simp[bF]
     ·exact aKH _
    have V:=ahZ p.args;refine gS @v @j ?_;refine bQ (λq:Nat×List ay×Sub=>⟨N [(0,.v (.ptr cb 0)),(4,.v (.cL p.enc.cells)),(5,.v (.cL g.enc.cells)),(31,.v (enc p.args.length)),(32,.v (enc q.1))],q.2.1⟩)
     (λq=>q.1<=p.args.length/\iy 9 q.2.1 cb tid B q.2.2/\jO B cb tid H q.2.1/\gj (p.args.drop q.1) (g.args.drop q.1) q.2.2=gj p.args g.args σ/\q.2.2.length+(bF (p.args.drop q.1)).length<=M) (λq=>p.args.length-q.1) (0,H,σ)
     ⟨aKE _,h,jO.refl _ _ _ _,rfl,by simp only[List.drop_zero];omega⟩ ew ?_
    rintro⟨i,A,m⟩ ⟨J,c,o,a,L⟩;simp only at J c o a L;by_cases al:i<p.args.length
    ·have O:i<g.args.length:=by omega
     rw[aFU al O]at a;have hd:=aF1 al;have W:=Rl p.args[i]! g.args[i]! m;have s:=ih p.args[i]! (ek al) g.args[i]! c am;by_cases hm:(eA p.args[i]! g.args[i]! m).1=true
     ·rw[if_pos hm]at a;rw[hm]at s
      (repeat' first|simp(disch:=first|exact ai|fail) only[go_sem]|(refine ao ?_ ?_<;>intro)|(refine AI c (C8 _ _ c.oV) s ?_;(intro z w y))|fail)
      exact⟨(i+1,z,_),⟨ap,w,o.trans y,a,by show(eA p.args[i]! g.args[i]! m).2.length+(bF (p.args.drop (i+1))).length<=M;omega⟩,ap,ci⟩
     ·rw[if_neg hm]at a;have P:(eA p.args[i]! g.args[i]! m).1=false:=by simpa using hm
      rw[P]at s
      (repeat' first|simp(disch:=first|exact ai|fail) only[go_sem]|(refine ao ?_ ?_<;>intro)|(refine AI c (C8 _ _ c.oV) s ?_;(intro z w y))|fail)
      exact⟨_,rfl,by rw[<-a],by rw[<-a];exact w,o.trans y⟩
    ·rw[aFV am]at a;refine ag ?_;exact⟨_,rfl,by rw[<-a],by rw[<-a];exact c,o⟩
   ·rw[if_pos (.inr u)];refine gS @v @j ?_;exact⟨_,rfl,rfl,h,jO.refl _ _ _ _⟩
  ·rw[if_pos (.inl e)];have j:(!(p.name==g.name))=true:=by simpa using e
   refine gS @v @j ?_;exact⟨_,rfl,rfl,h,jO.refl _ _ _ _⟩
def ve(H:List ay)(l:List I)(i n:Nat):List ay:=H++ay.buf 25 (lL l i)::.dead::aKD n .dead
theorem ah7{H:List ay}{l:List I}{i n:Nat}:(ve H l i n)[H.length]?=some (.buf 25 (lL l i)):=e5 rfl
theorem aGb :ve H l i n++aKD k .dead=ve H l i (n+k):=by simp[ve,List.replicate_append_replicate]
theorem aGc{j:Nat}:(ve H l i n).set H.length (.buf 25 (lL l j))=ve H l j n:=fj rfl
theorem aGd{H:List ay}{l:List I}{i n:Nat}:(ve H l i n).set H.length .dead=H++aKD (n+2) .dead:=by
 rw[ve,fj rfl];simp[List.replicate_succ]
theorem Db{K:AV->List ay->Prop}{tg:aN K} 
  (h:bB ν aD f vs H λr' H'=>r'=r/\∃n,H'=H++aKD n .dead)(hk:∀n,K r (H++aKD n .dead)):mZ ν aD f vs H K tg :=
 iJ ⟨h,_,_,rfl,0,rfl⟩ λr' H' ⟨a,n,c⟩=>by rw[a,c];exact hk n
theorem ah8:∀(t:I){H:List ay}{cb tid B:Nat}{σ:Sub},iy 9 H cb tid B σ->rJ t<=100000 ->
  bB ν aD 201 [.ptr cb 0,t.enc] H λr H'=>r=(eD σ t).enc/\∃n,H'=H++aKD n .dead:=I.ind λt ih H cb tid B σ h C=>by
 have P:M=1099511627776:=rfl;have g:=h;obtain⟨ord,jd,m,h⟩:=h;have ae:=h.b;have j:=h.t
 have Q:=dq ae;have lt:=dq j
 have d:=h.yN t.name;rw[C7];refine bB.intro (D:=sG) az9 ?_;unfold aeC;by_cases a:eJ t=true
 ·rw[if_pos a];cases w:getM σ t.name with
  |none =>
   rw[w]at d;refine mb @a @ae @j @d ?_;exact⟨_,rfl,rfl,0,be⟩
  |some u =>
   rw[w]at d;refine mb @a @ae @j @d ?_;exact⟨_,rfl,rfl,0,be⟩
 ·rw[if_neg a];have y:eJ t=false:=by simpa using a
  by_cases e:t.args.length=0
  ·rw[if_pos e];refine gS @y @e ?_;exact⟨_,rfl,rfl,0,be⟩
  ·rw[if_neg e];rw[Kh]at C;have E:(0:Int)<=(t.args.length:Int)/\(t.args.length:Int)<=100000:=by omega
   obtain⟨L,cf⟩:∃L,L=t.args.map (eD σ):=⟨_,rfl⟩;have o:L.length=t.args.length:=by rw[cf,aKL]
   have G:(aKD t.args.length [AV.str [],AV.aS 2]).flatten=lL L 0:=by rw[QM,o]
   have c:H++[ay.buf 25 (lL L 0),ay.dead]=ve H L 0 0:=rfl;refine rp @y @e @E @G @c ?_;refine bQ (λq:Nat×Nat=>⟨N [(0,.v (.ptr cb 0)),(3,.v (.cL t.enc.cells)),(4,.b [.str [],.aS 2]),(7,.b [.str t.name,.bI H.length 0 t.args.length 2]),(38,.v (enc t.args.length)),(39,.v (enc q.1))],ve H L q.1 q.2⟩)
    (λq=>q.1<=t.args.length) (λq=>t.args.length-q.1) (0,0) (aKE _) (by(try simp(disch:=first|exact ai|fail) only[go_sem,c])<;>(exact bl)) ?_
   rintro⟨i,n⟩ J;simp only at J;by_cases al:i<t.args.length
   ·have s:L[i]! = eD σ t.args[i]!:=by rw[cf,yH];simp[al]
    have z:=ih t.args[i]! (ek al) (g.app (ay.buf 25 (lL L i)::.dead::aKD n .dead)) (by have:=yI (ek al);omega);rw[<-s]at z;have O:i<L.length:=by omega
    (repeat' first|simp(disch:=first|exact ai|fail) only[go_sem,ah7,aGb,aGc]|(refine ao ?_ ?_<;>intro)|(refine Db z ?_;(intro A);(refine⟨⟨A,rfl⟩,?_⟩))|fail)
    exact⟨(i+1,n+A),ap,ap,ci⟩
   ·obtain rfl:i=t.args.length:=by omega
    have R:L.length=t.args.length/\t.args.length<=M:=⟨o,am⟩;have v:lL L t.args.length=c3 L:=by rw[<-o,QN]
    refine mb @ah7 @v @aFQ @aGd ?_;exact⟨_,rfl,by rw[I.qC,cf];rfl,n+2,rfl⟩
open Enc (enc)
noncomputable def Rw:List iZ:=[(198,eh λ(l:Lit)=>enc (dB l))]
noncomputable def pW:bj:=ij sG (e1 Rw)
instance aOA{D:bj}[h:bt D pW]:bt D sG:=h.ke
def Rx:List Nat:=[198]++Ro
theorem aif:fq pW Rx:=fq.or ah2 (kf Rw)
theorem aGm(h:∀xs,e1 Rw f xs=F xs)(hk:Ro.contains f=false:=by rfl):∀xs,pW f xs=F xs:=λxs=>by rw[<-h];exact kg ah2 hk
theorem aGn(l:Lit):aA ν aD 198 [enc l] (enc (dB l)):=by
 refine aA.intro (D:=pW) az6 cX c7 ?_;unfold aev;simp(disch:=first|exact ai|fail) only[go_sem];cases a:l.neg
 ·refine bU @a ?_;all_goals simp_all[dB,eG]
 ·refine bU @a ?_;all_goals simp_all[dB,eG]
theorem aGo[bt D pW]{l:Lit}[aT x1 l]  :b1 ν aD D 198 [x1] K tg=K (enc (dB l)):=ec (D':=pW) (F:=λ(l:Lit)=>enc (dB l)) (aGm λ_=>rfl) (aGn l)
attribute [go_sem ↓ 2000] aGo
theorem aGp(g:gV 25 H x k b S)(fN:iy 9 H cb tid B σ)(l:Lit)(m:rJ l.atom<=100000)(j:(c4 (eD σ l.atom)).length<=M) :
  bB ν aD 200 [.agg [.ptr x 0],l.enc,.ptr cb 0] H λr H'=>r=.bool (o9 S σ l)/\∃n,H'=H++aKD n .dead:=by
 have w:M=1099511627776:=rfl;refine bB.intro (D:=pW) az8 ?_;unfold aez;have d:=ah8 l.atom fN m;have ah:=g;obtain⟨a,aG⟩:∃a,a=eD σ l.atom:=⟨_,rfl⟩;rw[<-aG]at d j;rw[o9,<-aG];by_cases h:(a.name==eG&&decide (a.args.length=2))=true
 ·rw[if_pos h];simp only[Bool.and_eq_true,beq_iff_eq,decide_eq_true_eq]at h;obtain⟨o,q⟩:=h;have s:(a.name==[100,105,115,116,105,110,99,116])=true:=by rw[o];rfl
  have u:((a.args.length:Int)==2)=true:=by rw[q];rfl
  have v:∀e f:Bool,(e != f) = !(e==f):=by intro e f;rfl
  (repeat' first|simp(disch:=first|exact ai|fail) only[go_sem,s,u,v]|(refine ao ?_ ?_<;>intro)|(refine Db d ?_;(intro c);(refine⟨⟨c,rfl⟩,?_⟩))|fail)
  exact⟨_,rfl,rfl,c,rfl⟩
 ·rw[if_neg h]
  (repeat' first|simp(disch:=first|exact ai|fail) only[go_sem]|(refine ao ?_ ?_<;>intro)|(refine Db d ?_;(intro c);(refine⟨⟨c,rfl⟩,?_⟩))|refine cA (aF2 (g.app _) a j) ?_|fail)
  all_goals first
   |exact⟨_,rfl,rfl,c,rfl⟩|(exfalso;apply h;simp only[Bool.and_eq_true,decide_eq_true_eq];exact⟨mu,am⟩)
structure AR(y:Nat)(jq:List AV)(W:Nat->Prop)(Y:List I->List ay->Prop)(Good:I->Prop)(kK:Nat):Prop where
 c:∀acc H a,acc.length+1<=kK->Y acc H->Good a->kv ν aD y (a.enc::jq) H λr H'=>r=.bg []/\Y (acc++[a]) H'/\mq W H H'
 s:∀acc H H',Y acc H->(∀i,W i->H'[i]?=H[i]?)->Y acc H'
 n:nI jq=some jq
 lt:∀acc H i,Y acc H->W i->i<H.length
def tX(r:aU)(gF rs gN fb gO dm:Nat):AV:=.fn 199 [.ptr gF 0,.ptr rs 0,.ptr gN 0,.ptr fb 0,.ptr gO 0,.cL r.enc.cells,.ptr dm 0]
theorem aih{y:Nat}{jq:List AV}{W:Nat->Prop}{Y:List I->List ay->Prop}{Good:I->Prop}{kK:Nat}(j:AR y jq W Y Good kK){rM bE m:Nat}{df o:List Lit}{E4 dP:AV}{A q rs s fb u v:Nat}
  (c:∀i,W i->i<A/\i≠x/\i≠k/\i≠b) :∀(l:List I)(acc:List I)(H:List ay),(∀a∈l,Good a)->nM rM bE m S df o E4 dP A B x k b q rs s fb u v cb tid H->iy bE H cb tid B σ->Y acc H->(acc++l).length<=kK ->
  ∃H',nM rM bE m S df o E4 dP A B x k b q rs s fb u v cb tid H'/\iy bE H' cb tid B σ/\Y (acc++l) H'/\mr A W H H'
 |[],acc,H,_,h1,d,e,_=>⟨H,h1,d,by rw[aKI];exact e,mr.refl _ _ _⟩|a::l,acc,H,z,h1,d,e,E=>by
  rw[aKB,aKC]at E;obtain⟨_,r,G,rfl,J,g⟩:=j.c acc H a am e (z a (List.mem_cons_self ..));obtain⟨V,X,Z,lA,pA,AL,AN,AO,yQ,m1,m2,m3,m4,m5,m6,L,m8,O,h⟩:=h1.yP;obtain⟨P,Q,R,C,T⟩:=aih j c l (acc++[a]) G (λb ae=>z b (List.mem_cons_of_mem _ ae)) (h1.Gy g c) (d.Gy g (λi w=>(c i w).1) O h L) J (by simp only[aKB,aKC,aKF];omega);exact⟨P,Q,R,by rw[aKM]at C;exact C,(g.AQ am).trans T⟩
section
variable {y:Nat}{jq:List AV}{W:Nat->Prop}{Y:List I->List ay->Prop}{Good:I->Prop}{kK:Nat}{pb:Sub->Prop}{S:List I}{r:aU}{df dG:List Lit}{A B x k b gF rs gN fb gO dm cb tid:Nat}
def Ry(W:Nat->Prop)(y:Nat)(jq:List AV)(Y:List I->List ay->Prop)(S:List I)(r:aU)(df dG:List Lit)(A B x k b gF rs gN fb gO dm cb tid:Nat)(σ:Sub)(acc:List I)(H:List ay)(tY:AV)(H':List ay):Prop :=
 tY=.bg []/\nM 25 9 63 S df dG (.fn y jq) (tX r gF rs gN fb gO dm) A B x k b gF rs gN fb gO dm cb tid H'/\iy 9 H' cb tid B σ/\Y acc H'/\mr A W H H'
theorem aGq(e:AR y jq W Y Good kK)(T:∀i,W i->i<A/\i≠x/\i≠k/\i≠b)(iH:Gz S df dG r.head Good pb){acc:List I}(a:nM 25 9 63 S df dG (.fn y jq) (tX r gF rs gN fb gO dm) A B x k b gF rs gN fb gO dm cb tid H)
  (fN:iy 9 H cb tid B σ)(o:Y acc H)(aE:pb σ)(V:(acc++h5 S dG r.head [] σ).length<=kK) :
  bB ν aD 199 [.int .i64 (df.length:Nat),.ptr gF 0,.ptr rs 0,.ptr gN 0,.ptr fb 0,.ptr gO 0,.cL r.enc.cells,.ptr dm 0] H (Ry W y jq Y S r df dG A B x k b gF rs gN fb gO dm cb tid σ (acc++h5 S dG r.head [] σ) H):=by
 have cP:M=1099511627776:=rfl;obtain⟨cV,cH,eX,lA,pA,AL,AN,AO,yQ,m1,m2,m3,m4,m5,m6,m7,m8,m9,z⟩:=a.yP;obtain⟨nN,Rz,g,C⟩:=a.KA;obtain⟨jE,RA,aw,ov⟩:=a.aia;have he:=a.ce;have ae:=a.AK;have E:=a.aib;have aW:=a.Rs
 have KC:=C.no;have KD:=C.Ky;have KE:=C.len
 have G:=ov.no;have J:=ov.Ky;have L:=ov.len
 have II:=iH.II;refine bB.intro (D:=pW) az7 ?_;unfold aew
 (repeat' first|simp(disch:=first|exact ai|fail) only[go_sem,g,aw,he,ae,E,aW,KC,KD,KE,G,J,L]|(refine ao ?_ ?_<;>intro))
 have KF:=iH.t σ;have Ru:=iH.Ru;have aOB:=dq he;have aOC:=dq ae;have aOD:=dq E
 refine bQ (λq:Nat×Nat=>⟨N [(3,.v (.ptr gN 0)),(4,.v (.ptr fb 0)),(5,.v (.ptr gO 0)),(6,.v (.cL r.enc.cells)),(18,.v RA),(19,.v (enc dG.length)),(20,.v (enc q.1))],H++aKD q.2 .dead⟩)
  (λq=>q.1<=dG.length/\(dG.drop q.1).all (o9 S σ)=dG.all (o9 S σ)) (λq=>dG.length-q.1) (0,0) ⟨aKE _,rfl⟩ (Ir @List.replicate_zero.{0} @aKI.{0}) ?_
 rintro⟨i,n⟩ ⟨i1,c⟩;simp only at i1 c;have h:nM 25 9 63 S df dG (.fn y jq) (tX r gF rs gN fb gO dm) A B x k b gF rs gN fb gO dm cb tid (H++aKD n .dead):=a.AP (jO.app m8 _);have s:=fN.app (aKD n .dead);by_cases al:i<dG.length
 ·have X:=ov.lV i al;have Z:=ek al;have u:=aGp h.Rr s dG[i]! (Ru _ Z) (KF _ aE Z);rw[fi al,List.all_cons]at c;cases v:o9 S σ dG[i]! with
  |true =>
   rw[v,Bool.true_and]at c;rw[v]at u
   (repeat' first|simp(disch:=first|exact ai|fail) only[go_sem,he,ae,X]|(refine ao ?_ ?_<;>intro)|(refine Db u ?_;(intro d))|fail)
   exact⟨(i+1,n+d),⟨ap,c⟩,ap,by(exact og @aKM.{0} @List.replicate_append_replicate.{0})⟩
  |false =>
   rw[v,Bool.false_and]at c;rw[v]at u
   (repeat' first|simp(disch:=first|exact ai|fail) only[go_sem,he,ae,X]|(refine ao ?_ ?_<;>intro)|(refine Db u ?_;(intro d))|fail)
   have O:h5 S dG r.head [] σ=[]:=by rw[h5,<-c];rfl
   refine⟨_,rfl,rfl,h.AP (jO.app h.yP.2.2.2.2.2.2.2.2.2.2.2.2.2.2.2.2.1 _),s.app _,?_,(mr.app am _).trans (mr.app (by simp only[aKB];omega) _)⟩;rw[O,aKI];refine e.s _ _ _ o λj g=>?_;have:=e.lt _ _ _ o g
   (simp(disch:=first|exact ai|fail) only[dV,cj,dE,e5,fs,fj];try rfl)
 ·have m:h5 S dG r.head [] σ=[eD σ r.head]:=by
   rw[aKK am]at c;rw[h5,<-c];rfl
  have pX:=ah8 r.head s iH.hm;have RC:acc.length+1<=kK:=by rw[m]at V;simpa using V
  have aF:=iH.h σ aE;have P:∀d,Y acc (H++aKD n .dead++aKD d .dead):=λd=>e.s _ _ _ o λj g=>by
   have:=e.lt _ _ _ o g
   (simp(disch:=first|exact ai|fail) only[dV,cj,dE,e5,fs,fj];try rfl)
  (repeat' first|simp(disch:=first|exact ai|fail) only[go_sem,he,ae,E,e.n,jL]|(refine ao ?_ ?_<;>intro)|(refine Db pX ?_;(intro d);(refine⟨⟨d,rfl⟩,?_⟩))|(refine iJ (e.c acc _ _ RC (P _) aF) ?_;(rintro r' yM ⟨rfl,fQ,Q⟩))|fail)
  have R:nM 25 9 63 S df dG (.fn y jq) (tX r gF rs gN fb gO dm) A B x k b gF rs gN fb gO dm cb tid (H++aKD n .dead++aKD d .dead):=h.AP (jO.app h.yP.2.2.2.2.2.2.2.2.2.2.2.2.2.2.2.2.1 _);refine⟨_,rfl,rfl,R.Gy Q T,(s.app _).Gy Q (λi w=>(T i w).1) m9 z m7,by rw[m];exact fQ,((mr.app am _).trans (mr.app (by simp only[aKB];omega) _)).trans (Q.AQ (by simp only[aKB];omega))⟩
theorem aij(fv:AR y jq W Y Good kK)(eY:∀i,W i->i<A/\i≠x/\i≠k/\i≠b)(iH:Gz S df dG r.head Good pb):∀(d i:Nat){σ:Sub}{acc:List I}{H:List ay},i+d=df.length ->
  nM 25 9 63 S df dG (.fn y jq) (tX r gF rs gN fb gO dm) A B x k b gF rs gN fb gO dm cb tid H->iy 9 H cb tid B σ->Y acc H->pb σ->(acc++h5 S dG r.head (df.drop i) σ).length<=kK ->
  kv ν aD 199 [.int .i64 i,.ptr gF 0,.ptr rs 0,.ptr gN 0,.ptr fb 0,.ptr gO 0,.cL r.enc.cells,.ptr dm 0] H (Ry W y jq Y S r df dG A B x k b gF rs gN fb gO dm cb tid σ (acc++h5 S dG r.head (df.drop i) σ) H)
 |d,i,σ,acc,H,al,c,fN,u,aE,v=>by
  refine⟨?_,by
   obtain⟨H',aj,av,aQ,bG⟩:=aih fv eY (h5 S dG r.head (df.drop i) σ) acc H (Rv iH _ _ (λl aC=>List.mem_of_mem_drop aC) aE) c fN u v;exact⟨_,H',rfl,aj,av,aQ,bG⟩⟩
  cases d with
  |zero =>
   obtain rfl:i=df.length:=by omega
   rw[List.drop_length]at v ⊢;exact aGq fv eY iH c fN u aE v
  |succ d =>
   have cP:M=1099511627776:=rfl;have ih:=λ{σ acc H}=>aij fv eY iH d (i+1) (σ:=σ) (acc:=acc) (H:=H) am;have C:i<df.length:=by omega
   obtain⟨cV,cH,eX,lA,pA,AL,AN,AO,yQ,m1,m2,m3,m4,m5,m6,m7,m8,m9,g⟩:=c.yP;obtain⟨nN,Rz,a8,yR⟩:=c.KA;have he:=c.ce;have ae:=c.AK
   have KC:=yR.no;have KD:=yR.Ky;have KE:=yR.len
   have yS:=yR.lV i C;obtain⟨fn,jQ,km,bu,eO,dP⟩:=c.Rr;have ah:=eO.ah;have hk:=eO.hk;have sj:=eO.ae
   obtain⟨ord,jd,m,bM⟩:=fN;have E:=bM.b;have J:=bM.o.len;have O:=J.1;have P:=J.2
   have gb:(cd σ).length=σ.length:=by simp[cd]
   have aid:=iH.aid;have aie:=iH.aie
   have cG:((i:Int)==(df.length:Int))=false:=by simp;omega
   refine bB.intro (D:=pW) az7 ?_;unfold aew;have Q:=dP.Rc df[i]!.atom.name;have R:h5 S dG r.head (df.drop i) σ=(jc S df[i]!.atom.name).flatMap λa=>if(eA df[i]!.atom a σ).1=true then h5 S dG r.head (df.drop (i+1)) (eA df[i]!.atom a σ).2 else[]:=by rw[fi C,h5]
   by_cases Dc:jc S df[i]!.atom.name=[]
   ·rw[if_pos Dc]at Q
    (repeat' first|simp(disch:=first|exact ai|fail) only[go_sem,a8,he,ae,ah,hk,sj,KC,KD,KE,yS,cG,E,O,P,Q]|(refine ao ?_ ?_<;>intro))
    refine bQ (λj:Unit=>⟨N [(0,.v (.int .i64 i)),(1,.v (.ptr gF 0)),(4,.v (.ptr fb 0)),(7,.v (.ptr dm 0)),(11,.v (.int .i64 (cd σ).length)),(52,.v (.aS 2)),(53,.v (.int .i64 0)),(54,.v (.int .i64 0))],H⟩) (λ_=>True) (λ_=>0) () trivial ew ?_;intro _ _;refine ag ?_;exact⟨_,rfl,rfl,c,⟨ord,jd,m,bM⟩,by rw[R,Dc];simpa using u,mr.refl _ _ _⟩
   ·rw[if_neg Dc]at Q;obtain⟨L,cf⟩:∃L,L=jc S df[i]!.atom.name:=⟨_,rfl⟩;have rL:L.length<=S.length:=by rw[cf];exact aGl _ _
    have aGx:∀a∈L,a∈S:=λa aG=>KB (by rw[cf]at aG;exact aG);rw[<-cf]at Q R;obtain⟨G,wY⟩:∃G:I->List I,G=λa=>if(eA df[i]!.atom a σ).1=true then h5 S dG r.head (df.drop (i+1)) (eA df[i]!.atom a σ).2 else[]:=⟨_,rfl⟩;rw[<-wY]at R;have KJ:∀{acc:List I}{H1 H2:List ay},Y acc H1->jO B cb tid H1 H2->Y acc H2:=λu aW=>fv.s _ _ _ u λj a8=>by
     have:=eY j a8;exact aW.2 j am am am
    have aH:((i+1:Nat):Int)=(i:Int)+1:=by omega
    simp only[aH]at ih;have AS:=iH.l;have aOE:=iH.aGk _ (ek C);have Dd:=AS σ aE
    (repeat' first|simp(disch:=first|exact ai|fail) only[go_sem,a8,he,ae,ah,hk,sj,KC,KD,KE,yS,cG,E,O,P,Q]|(refine ao ?_ ?_<;>intro))
    refine bQ (λq:Nat×List ay=>⟨N [(0,.v (.int .i64 i)),(1,.v (.ptr gF 0)),(4,.v (.ptr fb 0)),(7,.v (.ptr dm 0)),(11,.v (.int .i64 σ.length)),(52,.v (enc L)),(53,.v (enc L.length)),(54,.v (enc q.1))],q.2⟩)
     (λq=>q.1<=L.length/\nM 25 9 63 S df dG (.fn y jq) (tX r gF rs gN fb gO dm) A B x k b gF rs gN fb gO dm cb tid q.2/\iy 9 q.2 cb tid B σ/\Y (acc++(L.take q.1).flatMap G) q.2/\mr A W H q.2) (λq=>L.length-q.1) (0,H)
     ⟨aKE _,c,⟨ord,jd,m,bM⟩,by simpa using u,mr.refl _ _ _⟩ (rm @gb) ?_
    rintro⟨j,H1⟩ ⟨ei,w,h,T,g1⟩;simp only at ei w h T g1;by_cases l3:j<L.length
    ·have sf:=ek l3;have RD:(L.take (j+1)).flatMap G=(L.take j).flatMap G++G L[j]!:=by rw[bL l3,List.flatMap_append];simp
     obtain⟨aOF,aOG,V,RE⟩:=w.KA;have ed:=w.AK;have X:=RE.no;have Z:=RE.Ky
     have air:=RE.lV i C;have KK:=aGa df[i]!.atom L[j]! h am;have ais:=C8 df[i]!.atom L[j]! h.oV;have rk:=Rl df[i]!.atom L[j]! σ;have B7:=Kz df[i]!.atom L[j]! σ;have qJ:=aGi df[i]!.atom L[j]! σ;by_cases hm:(eA df[i]!.atom L[j]! σ).1=true
     ·have KL:G L[j]! = h5 S dG r.head (df.drop (i+1)) (eA df[i]!.atom L[j]! σ).2:=by rw[wY];simp only[hm,if_true]
      have aGy:=iH.m σ _ _ aE (ek C) (aGx _ sf) hm;have RC:(acc++(L.take j).flatMap G++h5 S dG r.head (df.drop (i+1)) (eA df[i]!.atom L[j]! σ).2).length<=kK:=by
       rw[R]at v;rw[<-KL,aKM,<-RD];have e:L.flatMap G=(L.take (j+1)).flatMap G++(L.drop (j+1)).flatMap G:=by rw[<-List.flatMap_append,List.take_append_drop]
       rw[e]at v;simp only[aKB]at v ⊢;omega
      rw[hm]at KK;refine rp @V @ed @X @Z @air ?_;refine AI h ais KK ?_;intro H2 ab o;have z:=w.AP o;have aGz:=z.Rs;have dX:=z.AK
      (repeat' first|simp(disch:=first|exact ai|fail) only[go_sem,aGz,dX,tX,jL]|(refine ao ?_ ?_<;>intro))
      refine iJ (ih z ab (KJ T o) aGy RC) ?_;rintro r' yM ⟨rfl,gv,lD,fQ,g3⟩;have tk:=gv.AK
      (repeat' first|refine bU @tk ?_|(refine ao ?_ ?_<;>intro))
      refine AI lD (by rw[B7];exact h.oV) (ah4 lD σ.length qJ am) ?_;intro pV a6 s;rw[B7]at a6;refine ag ?_;refine⟨(j+1,pV),⟨ap,gv.AP s,a6,KJ (by rw[RD,KL,<-aKM];exact fQ) s,((g1.trans (o.AQ m9 g m7 W)).trans g3).trans (s.AQ m9 g m7 W)⟩,ap,ci⟩
     ·have jf:(eA df[i]!.atom L[j]! σ).1=false:=by simpa using hm
      have KL:G L[j]! = []:=by rw[wY];simp only[jf];rfl
      rw[jf]at KK;refine rp @V @ed @X @Z @air ?_;refine AI h ais KK ?_;intro H2 ab o;have z:=w.AP o;have dX:=z.AK;refine bU @dX ?_;refine AI ab (by rw[B7];exact h.oV) (ah4 ab σ.length qJ am) ?_;intro pV a6 s;rw[B7]at a6;refine ag ?_;refine⟨(j+1,pV),⟨ap,z.AP s,a6,KJ (KJ (by rw[RD,KL,aKI];exact T) o) s,(g1.trans (o.AQ m9 g m7 W)).trans (s.AQ m9 g m7 W)⟩,ap,ci⟩
    ·obtain rfl:j=L.length:=by omega
     refine ag ?_;exact⟨_,rfl,rfl,w,h,by rw[R];rw[List.take_length]at T;exact T,g1⟩
end
open Enc (enc)
def pc(l:List Lit):AV:=if l=[]then .aS 3 else .list (some 63) 3 (l.map Lit.enc)
theorem ait(l:List Lit):∃w,jP (pc l) w l:=by
 by_cases h:l=[]
 ·subst h;exact⟨_,jP.nil⟩
 ·rw[pc,if_neg h];exact⟨_,jP.list _ _⟩
def oz(H:List ay)(x:Nat)(y nN jE:AV):List ay:=H++[.cells [.ptr x 0],.cells [y],.cells [nN],.cells [jE]]
theorem aGA(H:List ay)(x:Nat)(y a c:AV):H++[.cells [.ptr x 0]]++[.cells [y]]++[.cells [a]]++[.cells [c]]=oz H x y a c:=by simp[oz]
theorem aGB(H:List ay)(x:Nat)(y a c:AV):(oz H x y a c).length=H.length+4:=by simp[oz]
theorem KM{H:List ay}{x:Nat}{y a c:AV}:(oz H x y a c)[H.length+2]?=some (.cells [a]):=by simp[oz]
theorem KN{H:List ay}{x:Nat}{y c a:AV}:(oz H x y c a)[H.length+3]?=some (.cells [a]):=by simp[oz]
theorem KO{H:List ay}{x:Nat}{y c a v:AV}:(oz H x y c a).set (H.length+2) (.cells [v])=oz H x y v a:=by
 rw[oz,aKP _ _ am,show H.length+2-H.length=2 by omega];rfl
theorem KP{H:List ay}{x:Nat}{y a c v:AV}:(oz H x y a c).set (H.length+3) (.cells [v])=oz H x y a v:=by
 rw[oz,aKP _ _ am,show H.length+3-H.length=3 by omega];rfl
variable {y:Nat}{jq:List AV}{W:Nat->Prop}{Y:List I->List ay->Prop}{Good:I->Prop}{kK:Nat}
theorem aiu(c:AR y jq W Y Good kK):∀(l:List I)(acc:List I)(H:List ay),(∀a∈l,Good a)->Y acc H->(acc++l).length<=kK->∃H',Y (acc++l) H'/\mq W H H'
 |[],acc,H,_,h,_=>⟨H,by rw[aKI];exact h,mq.refl _ _⟩|a::l,acc,H,d,h,g=>by
  rw[aKB,aKC]at g;obtain⟨_,r,j,rfl,m,o⟩:=c.c acc H a am h (d a (List.mem_cons_self ..));obtain⟨q,e,s⟩:=aiu c l (acc++[a]) j (λb ae=>d b (List.mem_cons_of_mem _ ae)) m (by simp only[aKB,aKC,aKF];omega);exact⟨q,by rw[aKM]at e;exact e,o.trans s⟩
theorem KQ(l:List Lit)(a:Lit):pc (l++[a])=.list (some 63) 3 (l.map Lit.enc++[a.enc]):=by rw[pc,if_neg be];simp
theorem yT{α:Type}[Inhabited α]{p:α->Bool}{l:List α}(h:i<l.length):(l.take (i+1)).filter p=if p l[i]! = true then(l.take i).filter p++[l[i]!]else(l.take i).filter p:=by
 rw[bL h,List.filter_append];cases ar:p l[i]! with
 |true=>rw[if_pos rfl,List.filter_cons,if_pos ar];rfl|false=>rw[if_neg be,List.filter_cons,if_neg (by rw[ar];simp),List.filter_nil,aKI]
theorem GC{p:Lit->Bool}{l:List Lit} :((l.take i).filter p).length<=l.length:=Nat.le_trans (List.length_filter_le _ _) (by rw[aKO];omega)
variable {acc:List I}
theorem aiv{pb:Sub->Prop}{r:aU}(o:AR y jq W Y Good kK) 
  (eY:∀i,W i->i≠x/\i≠k/\i≠b)(iH:Gz S (r.body.filter dB) (r.body.filter λl=>!dB l) r.head Good pb)(ae:r.body.length<=100000)(X:gV 25 H x k b S)(s:Y acc H)(aE:pb [])(v:(acc++nc S r).length<=kK) :
  kv ν aD 163 [.agg [.ptr x 0],r.enc,.fn y jq] H λZ H'=>Z=.bg []/\Y (acc++nc S r) H'/\mq W H H':=by
 have cP:M=1099511627776:=rfl;refine⟨?_,?_⟩
 ·refine bB.intro (D:=pW) azJ ?_;unfold ady
  (repeat' first|refine mb @aGA @aKB.{0} @aKC.{0} @aKF.{0} ?_|(refine ao ?_ ?_<;>intro))
  refine bQ (λi:Nat=>⟨N [(3,.v (.ptr H.length 0)),(4,.v (.cL r.enc.cells)),(5,.v (.ptr (H.length+1) 0)),(6,.v (.ptr (H.length+2) 0)),(7,.v (.ptr (H.length+3) 0)),(13,.v (.list none 3 (r.body.map Lit.enc))),(14,.v (enc r.body.length)),(15,.v (enc i))],oz H x (.fn y jq) (pc ((r.body.take i).filter dB)) (pc ((r.body.take i).filter λl=>!dB l))⟩)
   (λi=>i<=r.body.length) (λi=>r.body.length-i) 0 (aKE _) dl ?_
  intro i al;by_cases h:i<r.body.length
  ·have g:=yT (p:=dB) h;have j:=yT (p:=λl=>!dB l) h;have ee:=GC (p:=dB) (l:=r.body) (i:=i);have c9:=GC (p:=λl=>!dB l) (l:=r.body) (i:=i);generalize (r.body.take i).filter dB=df at *;generalize (r.body.take i).filter (λl=>!dB l)=a at *;cases m:dB r.body[i]! with
   |true =>
    simp only[m,if_true,Bool.not_true,Bool.not_false,Bool.false_eq_true,if_false]at g j;by_cases he:df=[]
    ·have e:pc df=.aS 3:=by rw[he];rfl
     refine oX @m @e @KM @KN @KO @KP ?_;exact⟨i+1,am,am,by rw[g,j,KQ,he];(exact bl)⟩
    ·have e:pc df=.list (some 63) 3 (df.map Lit.enc):=if_neg he;refine oX @m @e @KM @KN @KO @KP ?_;exact⟨i+1,am,am,by rw[g,j,KQ];(exact bl)⟩
   |false =>
    simp only[m,if_true,Bool.not_true,Bool.not_false,Bool.false_eq_true,if_false]at g j;by_cases he:a=[]
    ·have e:pc a=.aS 3:=by rw[he];rfl
     refine oX @m @e @KM @KN @KO @KP ?_;exact⟨i+1,am,am,by rw[g,j,KQ,he];(exact bl)⟩
    ·have e:pc a=.list (some 63) 3 (a.map Lit.enc):=if_neg he;refine oX @m @e @KM @KN @KO @KP ?_;exact⟨i+1,am,am,by rw[g,j,KQ];(exact bl)⟩
  ·obtain rfl:i=r.body.length:=by omega
   rw[List.take_length];obtain⟨df,z⟩:∃df,df=r.body.filter dB:=⟨_,rfl⟩;obtain⟨a,A⟩:∃a,a=r.body.filter λl=>!dB l:=⟨_,rfl⟩;rw[nc,<-z,<-A]at v;rw[<-z,<-A]at iH ⊢;obtain⟨u,C⟩:∃u,u=oz H x (.fn y jq) (pc df) (pc a):=⟨_,rfl⟩;have E:u.length=H.length+4:=by rw[C,aGB]
   rw[<-C]
   (repeat' first|refine rp @aKB.{0} @aKC.{0} @aKF.{0} @E @jL ?_|(refine ao ?_ ?_<;>intro))
   have q:u++[ay.map 0 []]++[ay.cells [AV.map (H.length+4),AV.aS 1]]++[ay.cells [AV.ptr (H.length+5) 0]]++[ay.cells [tX r (H.length+2) (H.length+3) H.length (H.length+6) (H.length+1) (H.length+7)]]=H++[.cells [.ptr x 0],.cells [.fn y jq],.cells [pc df],.cells [pc a],.map 0 [],.cells [AV.map (H.length+4),AV.aS 1],.cells [AV.ptr (H.length+5) 0],.cells [tX r (H.length+2) (H.length+3) H.length (H.length+6) (H.length+1) (H.length+7)]]:=by
    rw[C,oz];simp
   obtain⟨d,c⟩:∃d,d=H++[.cells [.ptr x 0],.cells [.fn y jq],.cells [pc df],.cells [pc a],.map 0 [],.cells [AV.map (H.length+4),AV.aS 1],.cells [AV.ptr (H.length+5) 0],.cells [tX r (H.length+2) (H.length+3) H.length (H.length+6) (H.length+1) (H.length+7)]]:=⟨_,rfl⟩;rw[<-c]at q;have G:gV 25 d x k b S:=by rw[c];exact X.app _
   have aOH:d.length=H.length+8:=by rw[c];simp
   have By:∀i,i<H.length->d[i]?=H[i]?:=λi al=>by rw[c];exact dE al
   have xa:x<H.length/\k<H.length/\b<H.length:=by obtain⟨_,_,_,_,J,_⟩:=X;exact⟨dq J.ah,dq J.hk,dq J.ae⟩
   obtain⟨Rz,L⟩:=ait df;obtain⟨RA,O⟩:=ait a;have P:nM 25 9 63 S df a (.fn y jq) (tX r (H.length+2) (H.length+3) H.length (H.length+6) (H.length+1) (H.length+7)) H.length (H.length+8) x k b (H.length+2) (H.length+3) H.length (H.length+6) (H.length+1) (H.length+7) (H.length+5) (H.length+4) d :=
    ⟨G,⟨_,Rz,mt,L⟩,⟨_,RA,mt,O⟩,mt,mt,mt,mt,am,am⟩
   have Q:iy 9 d (H.length+5) (H.length+4) (H.length+8) []:=⟨.aS 1,0,[],mt,by rw[c];simp[cI],.nil,λ_=>rfl,.inl ⟨rfl,rfl⟩,am,am,am,.nil⟩;have R:Y acc d:=o.s _ _ _ s λi T=>By i (o.lt _ _ _ s T);refine iJ (K':=Ry W y jq Y S r df a H.length (H.length+8) x k b (H.length+2) (H.length+3) H.length (H.length+6) (H.length+1) (H.length+7) (H.length+5) (H.length+4) [] (acc++h5 S a r.head df []) d) ?_ ?_
   ·have:=aij o (λi w=>⟨o.lt _ _ _ s w,eY i w⟩) iH df.length 0 (Nat.zero_add _) P Q R aE v;rw[<-q]at this ⊢;exact this
   ·rintro Z aOI ⟨rfl,aOJ,aOK,V,g9⟩
    (repeat' first|refine ag ?_|(refine ao ?_ ?_<;>intro))
    refine⟨_,rfl,rfl,by rw[nc,<-z,<-A];exact V,by have:=g9.1;omega,λi al T=>?_⟩;rw[g9.2 i al T,By i al]
 ·obtain⟨H',h1,ab⟩:=aiu o (nc S r) acc H (Rv iH _ _ (λl aC=>aC) aE) s v;exact⟨_,H',rfl,h1,ab⟩
open Enc (enc)
def xc(jQ dm ft:Nat)(acc:List I)(H:List ay):Prop:=∃n m,H[jQ]?=some (.map n (cI I.enc m))/\H[dm]?=some (.cells [.map jQ])/\H[ft]?=some (.cells [.bool (acc.any λa=>decide (4<cc a))])/\qL m acc
variable {jQ dm ft:Nat}{a:I}
theorem aGX(q:xc jQ dm ft acc H)(o:cD 8 a true=true) :
  bB ν aD 164 [a.enc,.ptr ft 0,.ptr dm 0] H λr H'=>r=.bg []/\xc jQ dm ft (acc++[a]) H'/\mq (λi=>i=jQ\/i=dm\/i=ft) H H':=by
 have J:M=1099511627776:=rfl;obtain⟨n,m,d,g,c,s⟩:=q;have L:=dq d;have O:=dq g;have P:=dq c
 have u:jQ≠dm:=λe=>by rw[e,g]at d;cases d
 have v:jQ≠ft:=λe=>by rw[e,c]at d;cases d
 have w:ft≠dm:=λe=>by rw[e,g]at c;simp at c
 have z:=Ne.symm u;have A:=Ne.symm v;have C:=Ne.symm w
 have Q:=Dh o (aKH _);have R:=GH o;have h:=s.put a;refine bB.intro (D:=pW) V9 ?_;unfold Ct;cases hd:acc.any λa=>decide (4<cc a)with
 |true =>
  rw[hd]at c
  (repeat' first|refine iv @d @g @c ?_|(refine ao ?_ ?_<;>intro))
  refine⟨_,rfl,rfl,⟨_,_,bv,kw,by(simp(disch:=first|exact ai|fail) only[dV,cj,dE,e5,fs,fj];try rfl);rw[List.any_append,hd];rfl,h⟩,be,λi al j=>?_⟩;have ba:jQ≠i:=λe=>j (.inl e.symm);have E:ft≠i:=λe=>j (.inr (.inr e.symm))
  (simp(disch:=first|exact ai|fail) only[dV,cj,dE,e5,fs,fj];try rfl)
 |false =>
  rw[hd]at c
  (repeat' first|refine iv @d @g @c ?_|(refine ao ?_ ?_<;>intro))
  refine⟨_,rfl,rfl,⟨_,_,bv,kw,?_,h⟩,be,λi al j=>?_⟩
  ·have G:decide ((cc a:Int)>4)=decide (4<cc a):=by rw[aKN];simp;omega
   rw[List.any_append,hd,Bool.false_or,List.any_cons,List.any_nil,Bool.or_false,<-G]
   (simp(disch:=first|exact ai|fail) only[dV,cj,dE,e5,fs,fj];try rfl)
  ·have ba:jQ≠i:=λe=>j (.inl e.symm);have E:ft≠i:=λe=>j (.inr (.inr e.symm))
   (simp(disch:=first|exact ai|fail) only[dV,cj,dE,e5,fs,fj];try rfl)
theorem xc.ex(j:xc jQ dm ft acc H):∃H',xc jQ dm ft (acc++[a]) H'/\mq (λi=>i=jQ\/i=dm\/i=ft) H H':=by
 obtain⟨n,m,c,d,g,o⟩:=j;have q:=dq c;have z:=dq d;have s:=dq g
 have u:jQ≠dm:=λe=>by rw[e,d]at c;cases c
 have v:jQ≠ft:=λe=>by rw[e,g]at c;cases c
 have w:ft≠dm:=λe=>by rw[e,d]at g;simp at g
 refine⟨(H.set ft (.cells [.bool ((acc++[a]).any λa=>decide (4<cc a))])).set jQ (.map 0 (cI I.enc (fV m (c4 a) a))),⟨0,_,dV (by simpa using q),by rw[cj u,cj w,d],by rw[cj v,dV s],o.put a⟩,be,λi al h=>?_⟩;rw[cj (λe=>h (.inl e.symm)),cj (λe=>h (.inr (.inr e.symm)))]
theorem aGY(jQ dm ft kK:Nat):AR 164 [.ptr ft 0,.ptr dm 0] (λi=>i=jQ\/i=dm\/i=ft) (xc jQ dm ft) (λa=>cD 8 a true=true) kK:=by
 refine⟨λacc H a _ c q=>⟨aGX c q,by obtain⟨j,d,e⟩:=xc.ex (a:=a) c;exact⟨_,j,rfl,d,e⟩⟩,λacc H j c h=>?_,rfl,λacc H i c s=>?_⟩
 ·obtain⟨n,m,d,e,g,o⟩:=c;exact⟨n,m,by rw[h jQ (.inl rfl)];exact d,by rw[h dm (.inr (.inl rfl))];exact e,by rw[h ft (.inr (.inr rfl))];exact g,o⟩
 ·obtain⟨n,m,d,e,g,o⟩:=c;rcases s with rfl|rfl|rfl
  ·exact dq d
  ·exact dq e
  ·exact dq g
variable {l:List aU}
theorem aGZ(P:gV 25 H x k b S)(ds:gX S)(Dk:S.length<=100000)(aw:∀r∈l,RV1 r)(aC:l.length<=100000) :
  bB ν aD 119 [.agg [.ptr x 0],enc l] H λr H'=>r=.bg [.map H.length,.bool ((eB l S).any λa=>decide (4<cc a))]/\(∃n m,H'[H.length]?=some (.map n (cI I.enc m))/\vg m (eB l S) S)/\mq (λ_=>False) H H':=by
 have cP:M=1099511627776:=rfl;refine bB.intro (D:=pW) V7 ?_;unfold Ah
 (repeat' first|refine iv @aKB.{0} @aKC.{0} @aKF.{0} ?_|(refine ao ?_ ?_<;>intro))
 have yW:((H++[ay.map 0 []]++[ay.cells [AV.ha]]++[ay.cells [AV.bool false]]).set (H.length+1) (ay.cells [AV.map H.length])).set (H.length+1+1) (ay.cells [AV.bool false])=H++[.map 0 [],.cells [.map H.length],.cells [.bool false]]:=by
  rw[show H++[ay.map 0 []]++[ay.cells [AV.ha]]++[ay.cells [AV.bool false]]=H++[ay.map 0 [],ay.cells [AV.ha],ay.cells [AV.bool false]] by simp];rw[aKP _ _ am,aKP _ _ am,show H.length+1-H.length=1 by omega,show H.length+1+1-H.length=2 by omega];rfl
 rw[yW];obtain⟨h,A⟩:∃h,h=H++[ay.map 0 [],.cells [.map H.length],.cells [.bool false]]:=⟨_,rfl⟩;rw[<-A];have RR:xc H.length (H.length+1) (H.length+2) [] h:=by rw[A];exact⟨0,[],by simp[cI],be,be,qL.nil⟩
 have Fj:∀i,i<H.length->h[i]?=H[i]?:=λi al=>by rw[A];exact dE al
 have Dl:h.length=H.length+3:=by rw[A];simp
 have J:x<H.length/\k<H.length/\b<H.length:=by obtain⟨_,_,_,_,o,_⟩:=P;exact⟨dq o.ah,dq o.hk,dq o.ae⟩
 have L:=λkK=>aGY H.length (H.length+1) (H.length+2) kK;refine bQ (λq:Nat×List ay=>⟨N [(2,.b [.ptr x 0]),(6,.v (.ptr (H.length+1) 0)),(7,.v (.ptr (H.length+2) 0)),(14,.v (enc l)),(15,.v (enc l.length)),(16,.v (enc q.1))],q.2⟩)
  (λq=>q.1<=l.length/\xc H.length (H.length+1) (H.length+2) (eB (l.take q.1) S) q.2/\H.length+3<=q.2.length/\∀i,i<H.length->q.2[i]?=H[i]?) (λq=>l.length-q.1) (0,h) ⟨aKE _,RR,ap,Fj⟩ dl ?_
 rintro⟨i,s⟩ ⟨i1,C,i3,v⟩;simp only at i1 C i3 v;have Q:gV 25 s x k b S:=P.of (v x J.1) (v k J.2.1) (v b J.2.2);by_cases al:i<l.length
 ·have R:=aw _ (ek al);have af:=aiv (r:=l[i]!) (L (eB (l.take i) S++nc S l[i]!).length) (λj E=>am) (aiO ds Dk R) (by have:=R.b;omega) Q C ⟨.nil,λk hk=>(by cases hk),λp ar=>(by cases ar)⟩ (aKH _);have wo:eB (l.take (i+1)) S=eB (l.take i) S++nc S l[i]!:=by rw[eB,bL al,List.flatMap_append];simp[eB]
  (repeat' first|simp(disch:=first|exact ai|fail) only[go_sem]|(refine ao ?_ ?_<;>intro)|(refine iJ af ?_;(rintro tY H2 ⟨rfl,d,T⟩))|fail)
  exact⟨(i+1,H2),⟨ap,by simp only;rw[wo];exact d,by have:=T.1;simp only;omega,λj E=>(T.2 j am am).trans (v j E)⟩,ap,ci⟩
 ·have bJ:l.take i=l:=aKG am;rw[bJ]at C;obtain⟨n,m,g,d,w,V⟩:=C;obtain⟨fn,jQ,km,bu,o,dP⟩:=Q;have ah:=o.ah;have hk:=o.hk
  (repeat' first|refine rp @g @d @w @ah @hk ?_|(refine ao ?_ ?_<;>intro))
  have q8:=C6 g;have cV:=dq g;have cH:=dq d;have eX:=dq w
  have dz:H.length≠x:=by omega
  have zZ:H.length≠k:=by omega
  have aOO:H.length≠H.length+1:=by omega
  have nb:H.length≠H.length+2:=by omega
  have ah0:=dq ah;have C9:=dq hk
  refine bQ (λq:List ak×List (ak×I)=>⟨N [(2,.b [.ptr x 0]),(6,.v (.ptr (H.length+1) 0)),(7,.v (.ptr (H.length+2) 0)),(26,.v (.ptr s.length 0))],s.set H.length (.map n (cI I.enc q.2))++[.iter (some H.length) n (q.1.map AV.str)]⟩)
   (λq=>qM km m q.1 q.2) (λq=>m.length-q.1.length) ([],m) (qM.start V.n) (by(try simp(disch:=first|exact ai|fail) only[go_sem])<;>(first|rfl|(simp(disch:=first|exact aX|fail) only[b7,List.foldr_cons,List.foldr_nil,Env.ins,cp,cq,cr,ct,cu,cv,cw,cx,I.b0,aKL,Int.natCast_add,Int.natCast_one,Int.natCast_zero,aKJ,bL,List.map_append,List.map_cons,List.map_nil,cy,cz,go_sem,q8];try rfl))) ?_
  rintro⟨ks,e⟩ gq;simp only at gq;have gb:=gq.len;by_cases O:e.filter (λp=>!ks.contains p.1)=[]
  ·have mO:=gq.done O dP V
   (repeat' first|simp(disch:=first|exact ai|fail) only[go_sem,g,d,w,ah,hk]|(refine ao ?_ ?_<;>intro)|refine Kp I.enc (l:=e) (ks:=ks) (mid:=H.length) (n:=n) bv bv O ?_)
   refine⟨_,rfl,rfl,⟨n,e,bv,mO⟩,d9,λj E _=>?_⟩;have aOP:H.length≠j:=by omega
   have aOQ:j<s.length:=by omega
   have:=v j E
   (simp(disch:=first|exact ai|fail) only[dV,cj,dE,e5,fs,fj,this];try rfl)
  ·(repeat' first|simp(disch:=first|exact ai|fail) only[go_sem,g,d,w,ah,hk]|(refine ao ?_ ?_<;>intro)|(refine Q2 I.enc (l:=e) (ks:=ks) (mid:=H.length) (n:=n) bv bv O ?_;(rintro⟨q,a⟩ ar Z);(have aF:=(sE gq.n).2 ar))|fail)
   have No:∀X Y,(s.set H.length X++[Y]).set H.length (.map n (cI I.enc (mm e q)))=s.set H.length (.map n (cI I.enc (mm e q)))++[Y]:=λX Y=>by
    rw[List.set_append_left _ _ (by rw[List.length_set];exact cV),List.set_set]
   cases G:getM km q with
   |none =>
    have z:=gq.RQ ar Z G;have c:=z.len;rw[aKB]at c
    (repeat' first|refine EG @g @d @w @ah @hk @G @Option.map_none.{0,0} ?_|(refine ao ?_ ?_<;>intro))
    exact⟨(ks++[q],e),z,by simp only[aKB,aKC,aKF]at *;omega,ci⟩
   |some u =>
    have z:=gq.del ar Z G;have c:=z.len;rw[aKB]at c
    (repeat' first|refine EG @g @d @w @ah @hk @G @Option.map_some.{0,0} ?_|(refine ao ?_ ?_<;>intro))
    exact⟨(ks++[q],mm e q),z,by simp only[aKB,aKC,aKF]at *;omega,by(first|rfl|(simp(disch:=first|exact aX|fail) only[b7,List.foldr_cons,List.foldr_nil,Env.ins,cp,cq,cr,ct,cu,cv,cw,cx,I.b0,aKL,Int.natCast_add,Int.natCast_one,Int.natCast_zero,aKJ,bL,List.map_append,List.map_cons,List.map_nil,cy,cz,go_sem,No];try rfl))⟩
open Enc (enc)
variable {e:Nat}
theorem gV.add{m:Nat}{km:List (ak×I)}{bu:List (ak×List I)}(aE:vd e H x k b n m km bu)(c:jN km bu S)(a:I):gV e (rK e H k b n m km bu S a) x k b (kJ S a)/\(rK e H k b n m km bu S a).length=H.length/\∀i,i≠k->i≠b->(rK e H k b n m km bu S a)[i]?=H[i]?:=by
 unfold rK kJ;by_cases h:kI S a=true
 ·rw[if_pos h,if_pos h];exact⟨⟨n,m,km,bu,aE,c⟩,rfl,λ_ _ _=>rfl⟩
 ·rw[if_neg h,if_neg h];have d:=dq aE.hk;have g:=dq aE.ae
  refine⟨⟨n+1,lo m bu a.name,fV km (c4 a) a,fV bu a.name (jc S a.name++[a]),⟨?_,?_,?_,aE.cG⟩,c.add f8⟩,be,λi j o=>by rw[cj (Ne.symm o),cj (Ne.symm j)]⟩
  ·rw[cj (Ne.symm aE.Rf),cj (Ne.symm aE.Re)];exact aE.ah
  ·rw[cj (Ne.symm aE.cG),dV d]
  ·rw[dV (by simpa using g)]
variable {A A':List I}
theorem aG2(db:gV 25 H x k b S)(ds:gX S)(aG3:∀a,a∈S↔a∈A)(Dk:S.length<=100000)(aw:∀r∈l,RV1 r)(aC:l.length<=100000)(aW:xe f l A=some (e,A')) :
  bB ν aD 82 [.agg [.ptr x 0],enc l] H λr H'=>r=.int .i64 e/\(e=0->∃h6,gV 25 H' x k b h6/\gX h6/\(∀a,a∈h6↔a∈A')/\h6.length<=100000)/\H.length<=H'.length/\∀i,i<H.length->i≠k->i≠b->H'[i]?=H[i]?:=by
 have cP:M=1099511627776:=rfl;refine bB.intro (D:=pW) ayP ?_;unfold aaY;refine ag ?_;refine bQ (λq:List ay×List I×List I×Nat=>⟨N [(1,.v (enc l)),(2,.b [.ptr x 0])],q.1⟩)
  (λq=>gV 25 q.1 x k b q.2.1/\gX q.2.1/\(∀a,a∈q.2.1↔a∈q.2.2.1)/\q.2.1.length<=100000/\xe q.2.2.2 l q.2.2.1=some (e,A')/\H.length<=q.1.length/\∀i,i<H.length->i≠k->i≠b->q.1[i]?=H[i]?) (λq=>q.2.2.2) (H,S,A,f) ⟨db,ds,aG3,Dk,aW,aKH _,λ_ _ _ _=>rfl⟩ ew ?_
 rintro⟨g,hU,w,f1⟩ ⟨T,L,O,i4,c,i6,i7⟩;simp only at T L O i4 c i6 i7;have K3:=aGZ T L i4 aw aC;have xa:x<g.length/\k<g.length/\b<g.length:=by obtain⟨_,_,_,_,u,_⟩:=T;exact⟨dq u.ah,dq u.hk,dq u.ae⟩
 have z:∃r H',r=AV.bg [.map g.length,.bool ((eB l hU).any λa=>decide (4<cc a))]/\(∃n m,H'[g.length]?=some (ay.map n (cI I.enc m))/\vg m (eB l hU) hU)/\mq (λ_=>False) g H':=by
  obtain⟨m,hm⟩:=vg.ex l hU;exact⟨_,g++[.map 0 (cI I.enc m)],rfl,⟨0,m,e5 rfl,hm⟩,be,λi al _=>dE al⟩
 have V:jR (eB l hU)=jR (eB l w):=aiR (RS O l);have vV:kZ l hU=[]↔kZ l w=[]:=aG1 (RT O l);cases f1 with
 |zero=>cases c|succ f1 =>
  rw[xe]at c;cases hd:(eB l hU).any λa=>decide (4<cc a)with
  |true =>
   rw[hd]at K3 z;have RV:jR (eB l w)=true:=by rw[<-V];exact hd
   rw[if_pos RV]at c;simp only[Option.some.injEq,Prod.mk.injEq]at c;obtain⟨rfl,rfl⟩:=c
   (repeat' first|simp(disch:=first|exact ai|fail) only[go_sem]|(refine ao ?_ ?_<;>intro)|(refine iJ ⟨K3,z⟩ ?_;(rintro tY d ⟨rfl,⟨n,m,E,G⟩,f2⟩))|fail)
   exact⟨_,rfl,rfl,λh=>h.elim,by have:=f2.1;omega,λi v j o=>(f2.2 i am (λh=>h)).trans (i7 i v j o)⟩
  |false =>
   rw[hd]at K3 z;have RV:¬jR (eB l w)=true:=by rw[<-V];unfold jR;rw[hd];simp
   rw[if_neg RV]at c
   (repeat' first|simp(disch:=first|exact ai|fail) only[go_sem]|(refine ao ?_ ?_<;>intro)|(refine iJ ⟨K3,z⟩ ?_;(rintro tY d ⟨rfl,⟨n,m,E,G⟩,f2⟩))|fail)
   have g2:∀i,i<H.length->i≠k->i≠b->d[i]?=H[i]?:=λi v j o=>(f2.2 i am (λh=>h)).trans (i7 i v j o);have X:gV 25 d x k b hU:=T.of (f2.2 x xa.1 (λh=>h)) (f2.2 k xa.2.1 (λh=>h)) (f2.2 b xa.2.2 (λh=>h));have iU:=f2.1;have aOS:=dq E;by_cases aI:kZ l w=[]
   ·rw[if_pos aI]at c;simp only[Option.some.injEq,Prod.mk.injEq]at c;obtain⟨rfl,rfl⟩:=c;have GI:m.length=0:=G.nil.2 (vV.2 aI);refine iv @E @AD @GI ?_;exact⟨_,rfl,rfl,λ_=>⟨hU,X,L,O,i4⟩,am,g2⟩
   ·rw[if_neg aI]at c;have GI:((m.length:Int)==0)=false:=by
     have:m.length≠0:=λh=>aI (vV.1 (G.nil.1 h));have j:((m.length:Int)==0)≠true:=by simp only[beq_iff_eq,ne_eq];omega
     simpa using j
    have Dn:¬100000<(fx (w++kZ l w)).length:=λh=>by rw[if_pos h]at c;cases c
    rw[if_neg Dn]at c;refine iv @E @AD @GI ?_;have ahU:(hU.map c4).Nodup:=by obtain⟨_,_,_,_,_,dP⟩:=T;exact dP.jn
    refine bQ (λq:List ak×List I×List ay=>⟨N [(1,.v (enc l)),(2,.b [.ptr x 0]),(20,.v (.ptr d.length 0))],q.2.2⟩)
     (λq=>vh l hU m q.1 q.2.1/\gV 25 q.2.2 x k b q.2.1/\q.2.2[g.length]?=some (.map n (cI I.enc m))/\q.2.2[d.length]?=some (.iter (some g.length) n (q.1.map AV.str))/\d.length+1<=q.2.2.length/\∀i,i<H.length->i≠k->i≠b->q.2.2[i]?=H[i]?) (λq=>m.length-q.1.length) ([],hU,d++[.iter (some g.length) n []])
     ⟨⟨.nil,λs h=>d6,L,λa=>be,ahU⟩,X.app _,by(simp(disch:=first|exact ai|fail) only[dV,cj,dE,e5,fs,fj,E];try rfl),bv,be,λi v j o=>by rw[dE am];exact g2 i v j o⟩ ew ?_
    rintro⟨ks,P,Z⟩ ⟨Q,dy,J,e4,hF,fJ⟩;simp only at Q dy J e4 hF fJ;have gb:=Q.len;have hg:=Q.eS O;have eX:=dq J;have lA:=dq e4
    have n34:g.length≠d.length:=by omega
    have n43:=Ne.symm n34;by_cases j1:m.filter (λp=>!ks.contains p.1)=[]
    ·obtain⟨aj,av⟩:=Q.done G O j1;obtain⟨fn,jQ,km,bu,u,dP⟩:=dy;have ah:=u.ah;have hk:=u.hk;have ae:=u.ae
     have aOT:=dq ah;have aOU:=dq hk;have aOV:=dq ae
     have xY:=dP.len;have dz:d.length≠x:=by omega
     have zZ:d.length≠k:=by omega
     have nb:d.length≠b:=by omega
     have RW:gV 25 (Z.set d.length .dead) x k b P:=gV.of ⟨fn,jQ,km,bu,u,dP⟩ (cj dz) (cj zZ) (cj nb);have g4:∀i,i<H.length->i≠k->i≠b->(Z.set d.length .dead)[i]?=H[i]?:=λi v j o=>by rw[cj am];exact fJ i v j o
     by_cases aiW:512<(fx (w++kZ l w)).length
     ·rw[if_pos aiW]at c;simp only[Option.some.injEq,Prod.mk.injEq]at c;obtain⟨rfl,rfl⟩:=c
      (repeat' first|simp(disch:=first|exact ai|fail) only[go_sem,E,AD,ah,hk,xY]|(refine ao ?_ ?_<;>intro)|refine Kp I.enc (l:=m) (ks:=ks) (mid:=g.length) (n:=n) hq hR j1 ?_)
      exact⟨_,rfl,rfl,λh=>h.elim,am,g4⟩
     ·rw[if_neg aiW]at c
      (repeat' first|simp(disch:=first|exact ai|fail) only[go_sem,E,AD,ah,hk,xY]|(refine ao ?_ ?_<;>intro)|refine Kp I.enc (l:=m) (ks:=ks) (mid:=g.length) (n:=n) hq hR j1 ?_)
      exact⟨(Z.set d.length .dead,P,_,f1),⟨RW,Q.v,aj,ap,c,by simp only[List.length_set];omega,g4⟩,ap,ci⟩
    ·(repeat' first|simp(disch:=first|exact ai|fail) only[go_sem,J]|(refine ao ?_ ?_<;>intro)|(refine Q2 I.enc (l:=m) (ks:=ks) (mid:=g.length) (n:=n) hq hR j1 ?_;(rintro⟨q,a⟩ ar Da);(have aF:=(sE G.n).2 ar))|fail)
     obtain⟨aG4,aOW,aOX⟩:=G.g q a aF;have eF:=Dm aw L hd aG4;have dz:d.length≠x:=by omega
     have zZ:d.length≠k:=by omega
     have nb:d.length≠b:=by omega
     obtain⟨C,R⟩:∃C,C=Z.set d.length (.iter (some g.length) n ((ks++[q]).map AV.str)):=⟨_,rfl⟩;have RW:gV 25 C x k b P:=by rw[R];exact dy.of (cj dz) (cj zZ) (cj nb)
     have QF:C.length=Z.length:=by rw[R,List.length_set]
     have aH:C[g.length]?=some (.map n (cI I.enc m)):=by rw[R,cj n43];exact J
     have aR:C[d.length]?=some (.iter (some g.length) n ((ks++[q]).map AV.str)):=by rw[R,dV lA]
     have fe:∀i,i<H.length->i≠k->i≠b->C[i]?=H[i]?:=λi v j o=>by rw[R,cj am];exact fJ i v j o
     rw[<-R];obtain⟨fn,jQ,km,bu,u,dP⟩:=RW;obtain⟨ca,dK,fp⟩:=gV.add u dP a;have aG5:((kJ P a).map c4).Nodup:=by obtain⟨_,_,_,_,_,dP⟩:=ca;exact dP.jn
     have yX:=Q.step aw L hd G ar Da aG5;have aiX:=yX.len;rw[aKB]at aiX;have pX:=Kv u dP a (Dh eF am) am;obtain⟨oy,w8⟩:∃oy,oy=rK 25 C k b fn jQ km bu P a:=⟨_,rfl⟩;rw[<-w8]at pX ca dK fp;refine cA pX ?_;refine ag ?_;exact⟨(ks++[q],kJ P a,oy),⟨yX,ca,by simp only;rw[fp _ am am];exact aH,by simp only;rw[fp _ zZ nb];exact aR,ap,λi v j o=>(fp i j o).trans (fe i v j o)⟩,by simp only[aKB,aKC,aKF]at *;omega,ci⟩
open Enc (enc)
def rP(l:List aU):AV:=.bg [.list none 1 ((oC l).1.map ue),.int .i64 (oC l).2]
def j8(r:Option (List I×Nat)):AV:=match r with|some (A,e)=>.bg [enc A,.int .i64 e]|none=>.bg []
noncomputable def RZ:List iZ:=[(36,eh λ(r:aU)=>enc (fK r)),
 (78,eh λ(l:List aU)=>rP l),
 (77,eh λ(l:List aU)=>enc (hG l)),
 (79,eh λ(l:List I)=>enc (rO l)),
 (42,hj λ(l:List aU)(a:List I)=>j8 (iz l a))]
noncomputable def jS:bj:=ij pW (e1 RZ)
instance aOY{D:bj}[h:bt D jS]:bt D pW:=h.ke
def R0:List Nat:=[36,78,77,79,42]++Rx
theorem ai6:fq jS R0:=fq.or aif (kf RZ)
theorem GM(h:∀xs,e1 RZ f xs=F xs)(hk:Rx.contains f=false:=by rfl):∀xs,jS f xs=F xs:=λxs=>by rw[<-h];exact kg aif hk
theorem aHe[bt D jS]{r:aU}[aT x1 r](h:aA ν aD 36 [enc r] (enc (fK r))):b1 ν aD D 36 [x1] K tg=K (enc (fK r)):=ec (D':=jS) (F:=λ(r:aU)=>enc (fK r)) (GM λ_=>rfl) h
theorem aHf[bt D jS][aT x1 l](h:aA ν aD 78 [enc l] (rP l)):b1 ν aD D 78 [x1] K tg=K (rP l):=ec (D':=jS) (F:=λ(l:List aU)=>rP l) (GM λ_=>rfl) h
theorem ai7[bt D jS][aT x1 l](h:aA ν aD 77 [enc l] (enc (hG l))):b1 ν aD D 77 [x1] K tg=K (enc (hG l)):=ec (D':=jS) (F:=λ(l:List aU)=>enc (hG l)) (GM λ_=>rfl) h
theorem K5[bt D jS]{x2:AV}{a:List I}[aT x1 l][aT x2 a](h:aA ν aD 42 [enc l,enc a] (j8 (iz l a))):b1 ν aD D 42 [x1,x2] K tg=K (j8 (iz l a)):=ik (D':=jS) (F:=λ(l:List aU)(a:List I)=>j8 (iz l a)) (GM λ_=>rfl) h
theorem aHg(p:I->Bool)(d:kR ν f=true)(l:List I)(h:∀t∈l,aA ν aD f [enc t] (enc (p t)))(g:l.length<=M) :
  bB ν aD 160 [enc l,.fn f []] H λr H'=>r=.int .i64 (lN p l)/\H'=H:=by
 have j:M=1099511627776:=rfl;refine bB.intro (D:=jS) azH ?_;unfold adu;refine ag ?_;refine bQ (λi:Nat=>⟨N [(0,.v (enc l)),(1,.v (.fn f [])),(7,.v (enc l.length)),(8,.v (enc i))],H⟩) (λi=>i<=l.length/\j7 p (l.drop i) i=lN p l) (λi=>l.length-i) 0 ⟨aKE _,rfl⟩ ew ?_;rintro i ⟨m,c⟩;by_cases al:i<l.length
 ·have hd:=h l[i]! (ek al);rw[fi al,j7]at c;cases ar:p l[i]! with
  |true =>
   rw[ar]at hd c
   (repeat' first|simp(disch:=first|exact ai|fail) only[go_sem,jL]|(refine ao ?_ ?_<;>intro)|refine agB d hd ?_)
   exact⟨_,rfl,by rw[<-c];rfl⟩
  |false =>
   rw[ar]at hd c
   (repeat' first|simp(disch:=first|exact ai|fail) only[go_sem,jL]|(refine ao ?_ ?_<;>intro)|refine agB d hd ?_)
   exact⟨i+1,⟨am,c⟩,am,ci⟩
 ·rw[aKK am,j7]at c;refine ag ?_;exact⟨_,rfl,by rw[<-c]⟩
theorem R1(p:I->Bool)(c:kR ν f=true)(l:List I)(h:∀t∈l,aA ν aD f [enc t] (enc (p t)))(d:l.length<=M) :
  bB ν aD 116 [enc l,.fn f []] H λr H'=>r=.bool (l.any p)/\H'=H:=by
 refine bB.intro (D:=jS) aza ?_;unfold ace;have g:=QU p l 0;have ae:decide (lN p l>=0)=l.any p:=by rw[aKN,<-g];simp[lN]
 (repeat' first|simp(disch:=first|exact ai|fail) only[go_sem,ae]|(refine ao ?_ ?_<;>intro)|refine cA (aHg p c l h d) ?_)
 exact⟨_,rfl,rfl⟩
theorem aHh(a:I):aA ν aD 117 [enc a] (enc (!A0 a)):=by
 have c:((a.args.length:Int)==1)=decide (a.args.length=1):=by rw[aKN];simp;omega
 have d:((a.args.length:Int)==2)=decide (a.args.length=2):=by rw[aKN];simp;omega
 have g:A0 a=((a.name==[116,114,117,101]&&decide (a.args.length=1)||a.name==[100,111,101,115]&&decide (a.args.length=2))&&cD 4 a false):=rfl;refine aA.intro (D:=jS) azb cX c7 ?_;unfold acg;simp(disch:=first|exact ai|fail) only[go_sem];rw[g];cases h:a.name==[116,114,117,101]<;>cases j:a.name==[100,111,101,115]<;>cases m:cD 4 a false<;>cases o:decide (a.args.length=1)<;>cases q:decide (a.args.length=2);all_goals (repeat' first|simp(disch:=first|exact ai|fail) only[go_sem,h,j,m,c,d,o,q]|(refine ao ?_ ?_<;>intro))
 all_goals rfl
theorem aHi(l:List I):aA ν aD 79 [enc l] (enc (rO l)):=by
 refine aA.h4 λae=>?_;obtain⟨ae,_⟩:=ae;have j:M=1099511627776:=rfl;refine aA.intro (D:=jS) ayN cX c7 ?_;unfold aaV;simp(disch:=first|exact ai|fail) only[go_sem];by_cases c:l.length<=512
 ·have d:=R1 (H:=[]) (λa=>!A0 a) (yh azb).1 l (λt _=>aHh t) am
  (repeat' first|simp(disch:=first|exact ai|fail) only[go_sem]|(refine ao ?_ ?_<;>intro)|refine cA d ?_)
  show some (AV.bool _)=some (AV.bool _);have g:rO l = !(l.any λa=>!A0 a):=by
   rw[rO,decide_eq_true c,Bool.true_and,aKN,List.all_eq_true];simp
  rw[g]
 ·have h:rO l=false:=by rw[rO,decide_eq_false c,Bool.false_and]
  rw[h]
  (repeat' first|simp(disch:=first|exact ai|fail) only[go_sem]|(refine ao ?_ ?_<;>intro))
theorem aHj[bt D jS]{l:List I}[aT x1 l]  :b1 ν aD D 79 [x1] K tg=K (enc (rO l)):=ec (D':=jS) (F:=λ(l:List I)=>enc (rO l)) (GM λ_=>rfl) (aHi l)
attribute [go_sem ↓ 2000] aHj
theorem aHk(h:l.length<=128):hG l=((l.find? λr=>!(fK r==0)).map fK).getD 0:=if_neg am
theorem ai8(l:List aU)(de:∀r∈l,aA ν aD 36 [enc r] (enc (fK r))):aA ν aD 77 [enc l] (enc (hG l)):=by
 refine aA.h4 λae=>?_;obtain⟨ae,_⟩:=ae;have q:M=1099511627776:=rfl;by_cases j:l.length<=128
 ·refine aA.intro (D:=jS) ayL cX c7 ?_;unfold aaR;simp(disch:=first|exact ai|fail) only[go_sem];rw[aHk j]
  (repeat' first|refine ag ?_|(refine ao ?_ ?_<;>intro))
  refine bQ (λi:Nat=>⟨N [(9,.v (enc l)),(10,.v (enc l.length)),(11,.v (enc i))],[]⟩) (λi=>i<=l.length/\(((l.drop i).find? λr=>!(fK r==0)).map fK).getD 0=((l.find? λr=>!(fK r==0)).map fK).getD 0) (λi=>l.length-i) 0 ⟨aKE _,rfl⟩ ew ?_;rintro i ⟨s,c⟩;by_cases al:i<l.length
  ·have g:=λ{K:AV->Prop}{tg:aN K}(m:i<l.length)=>aHe (D:=jS) (K:=K) (tg:=tg) (x1:=l[i]!.enc) (de _ (ek m));rw[fi al,List.find?_cons]at c;cases d:fK l[i]! ==0 with
   |true =>
    rw[d]at c;have h:((fK l[i]! : Nat):Int)=0:=by simpa using d
    refine gS @g @h ?_;exact⟨i+1,⟨am,c⟩,am,ci⟩
   |false =>
    rw[d]at c;have h:((fK l[i]! : Nat):Int)≠0:=by
     have:fK l[i]!≠0:=by simpa using d
     omega
    refine bU @g ?_;show some (AV.int _ _)=some (AV.int _ _);rw[<-c];rfl
  ·rw[aKK am]at c;refine ag ?_;show some (AV.int _ _)=some (AV.int _ _);rw[<-c];rfl
 ·have o:hG l=2:=if_pos am;rw[o];refine aA.intro (D:=jS) ayL cX c7 ?_;unfold aaR;simp(disch:=first|exact ai|fail) only[go_sem]
  (repeat' first|refine ag ?_|(refine ao ?_ ?_<;>intro))
theorem pd(e:Nat):bx (.bg [.aS 2,.int .i64 e]) (j8 (some ([],e))):=Qb (by
 rw[af2];simp only[List.map_cons,List.map_nil,Qa,AV.can];rfl)
theorem aHl(g:gV 25 H x k b S)(cE:jo A)(j:gX A)(m:A.length<=100000)(o:∀r∈l,RV1 r)(q:xe f l A=some (e,A')) :
  ∃r H',r=AV.int .i64 e/\(e=0->∃c,gV 25 H' x k b c/\gX c/\(∀a,a∈c↔a∈A')/\c.length<=100000)/\H.length<=H'.length/\∀i,i<H.length->i≠k->i≠b->H'[i]?=H[i]?:=by
 by_cases he:e=0
 ·obtain⟨s,d,u⟩:=RX o cE j m q he;obtain⟨H',v,z,w⟩:=g.ex (aG8 (K1 s) d);exact⟨_,H',rfl,λ_=>⟨A',v,d,λ_=>Iff.rfl,u⟩,am,λi _ a b=>w i a b⟩
 ·exact⟨_,H,rfl,λh=>absurd h he,aKH _,λ_ _ _ _=>rfl⟩
theorem aHm(l:List I)(c:l.length<=100000)(d:kh l<=100000):bB ν aD 83 [enc l] H λr H'=>r=.bI H.length 0 l.length 2/\H'=H++[.buf 25 (c3 l),.dead]:=by
 have g:M=1099511627776:=rfl;refine bB.intro (D:=jS) aqv ?_;unfold acD;refine ag ?_;refine bQ (λi:Nat=>⟨N [(3,.v (.bI H.length 0 l.length 2)),(9,.v (enc l)),(10,.v (enc l.length)),(11,.v (enc i))],H++[.buf 25 (lL l i),.dead]⟩) (λi=>i<=l.length) (λi=>l.length-i) 0 (aKE _) (rm @QM) ?_;intro i al;by_cases h:i<l.length
 ·have hm:kh l[i]!.args<=100000/\l[i]!.args.length<=100000:=by have:=yI (ek h);rw[Kh]at this;omega
  refine ag ?_;exact⟨i+1,am,am,ci⟩
 ·obtain rfl:i=l.length:=by omega
  refine bU @QN ?_;exact⟨_,rfl,d8⟩
theorem ai9{c:List I}(ed:l.length<=M)(dX:c.length<=M)(de:∀r∈l,aA ν aD 36 [enc r] (enc (fK r)))(hO:hG l=0->aA ν aD 78 [enc l] (rP l)){v:List I}{z:Nat}(o:iz l c=some (v,z)) :
  bB ν aD 42 [enc l,enc c] [] λky H'=>(z≠0/\bx ky (.bg [enc v,.int .i64 z]))\/∃id,ky=.bg [.bI id 0 v.length 2,.int .i64 z]/\H'[id]?=some (.buf 25 (c3 v))/\v.length<=M:=by
 have cP:M=1099511627776:=rfl;have oe:=ai8 l de;have C:=λ{K:AV->Prop}{tg:aN K}=>ai7 (D:=jS) (K:=K) (tg:=tg) (x1:=enc l) oe;have R:=λ{K:AV->Prop}{tg:aN K}(h:hG l=0)=>aHf (D:=jS) (K:=K) (tg:=tg) (x1:=enc l) (hO h);have GN:(enc l:AV)=.list none 3 (l.map aU.enc):=rfl;have aOZ:(enc c:AV)=.list none 2 (c.map I.enc):=rfl;rw[GN]at C R;refine bB.intro (D:=jS) aqt ?_;unfold acA;unfold iz at o;by_cases T:hG l=0
 ·rw[if_neg (by simpa using T)]at o;have V:((hG l:Nat):Int)=0:=by omega
  obtain⟨K7,vj⟩:=xi T;obtain⟨d,E⟩:∃d,d=(oC l).1:=⟨_,rfl⟩;obtain⟨u,H7⟩:∃u,u=(oC l).2:=⟨_,rfl⟩;have R2:rP l=.bg [.list none 1 (d.map ue),.int .i64 u]:=by rw[rP,E,H7]
  have oA:∀g∈d,∀k∈g,k<l.length:=λg h k hk=>aG7 (E▸h) hk;rw[<-E,<-H7]at o;by_cases ab:u=0
  ·rw[if_neg (by simpa using ab)]at o;have R3:((u:Nat):Int)=0:=by omega
   by_cases X:rO c=true
   ·rw[X]at o;simp only[Bool.not_true,Bool.false_eq_true,if_false]at o;obtain⟨aO0,eF⟩:=aHa X
    (repeat' first|simp(disch:=first|exact ai|fail) only[go_sem,C,V,R,R2,R3,X]|(refine ao ?_ ?_<;>intro)|refine cA (Rm []) ?_)
    refine bQ (λq:Nat×List I×List ay=>⟨N [(0,.v (enc l)),(7,.v (.list none 1 (d.map ue))),(9,.b [.ptr 2 0]),(36,.v (enc c)),(37,.v (enc c.length)),(38,.v (enc q.1))],q.2.2⟩)
     (λq=>q.1<=c.length/\gV 25 q.2.2 2 0 1 q.2.1/\gX q.2.1/\(∀a,a∈q.2.1↔a∈c.take q.1)/\q.2.1.length<=q.1) (λq=>c.length-q.1) (0,[],[ay.map 0 [],ay.map 0 [],ay.cells [AV.map 0,AV.map 1]])
     ⟨aKE _,⟨0,0,[],[],⟨rfl,rfl,rfl,dw⟩,jN.nil⟩,λa h=>d6,λa=>be,aKH _⟩ ew ?_
    rintro⟨i,S,H⟩ ⟨i1,i2,Z,i4,i5⟩;simp only at i1 i2 Z i4 i5;by_cases al:i<c.length
    ·have R4:=eF _ (ek al);obtain⟨n,m,km,bu,eO,dP⟩:=i2;have pX:=Kv eO dP c[i]! (Dh R4 am) am;obtain⟨ca,dK,fp⟩:=gV.add eO dP c[i]!;have qi:=aiZ S c[i]!;have wT:=aiY Z R4;obtain⟨oy,w8⟩:∃oy,oy=rK 25 H 0 1 n m km bu S c[i]!:=⟨_,rfl⟩;rw[<-w8]at pX ca
     (repeat' first|simp(disch:=first|exact ai|fail) only[go_sem]|(refine ao ?_ ?_<;>intro)|refine cA pX ?_)
     exact⟨(i+1,kJ S c[i]!,oy),⟨ap,ca,λa aG=>((wT a).1 aG).elim (Z a) (λe=>e▸R4),λa=>by simp only;rw[wT,i4,bL al];simp,ap⟩,ap,ci⟩
    ·have sH:c.take i=c:=aKG am;rw[sH]at i4;have aO1:d.length<=100000:=by rw[E];exact ai4 K7 λr aw=>(vj r aw).b
     refine ag ?_;refine bQ (λq:Nat×List I×List I×List ay=>⟨N [(0,.v (enc l)),(9,.b [.ptr 2 0]),(47,.v (.list none 1 (d.map ue))),(48,.v (enc d.length)),(49,.v (enc q.1))],q.2.2.2⟩)
      (λq=>q.1<=d.length/\gV 25 q.2.2.2 2 0 1 q.2.1/\gX q.2.1/\(∀a,a∈q.2.1↔a∈q.2.2.1)/\q.2.1.length<=100000/\jo q.2.2.1/\q.2.2.1.length<=100000/\GJ l (d.drop q.1) q.2.2.1=some (v,z)) (λq=>d.length-q.1) (0,S,fx c,H)
      ⟨aKE _,i2,Z,λa=>by rw[i4,rI],ap,wZ _,by have:=Kf c;simp only;omega,o⟩ ew ?_
     rintro⟨j,hU,w,H1⟩ ⟨ei,dy,dO,e4,hF,fJ,K8,s⟩;simp only at ei dy dO e4 hF fJ K8 s;have Du:gX w:=λa aG=>dO a ((e4 a).2 aG);by_cases a8:j<d.length
     ·have G:=ek a8;have aHn:d[j]!.length<=128:=Nat.le_trans (aHb (E▸G)) K7;obtain⟨g,fc⟩:∃g,g=d[j]!:=⟨_,rfl⟩;have J:∀k∈g,k<l.length:=λk hk=>oA _ G k (fc▸hk);rw[fi a8,GJ,<-fc]at s;rw[<-fc]at aHn
      (repeat' first|simp(disch:=first|exact ai|fail) only[go_sem,ue,<-fc]|(refine ao ?_ ?_<;>intro))
      refine bQ (λi:Nat=>⟨N [(0,.v (enc l)),(9,.b [.ptr 2 0]),(14,.v (.list (some 61) 3 (((g.take i).map (l[·]!)).map aU.enc))),(47,.v (.list none 1 (d.map ue))),(48,.v (enc d.length)),(49,.v (enc j)),(56,.v (.list none 1 (g.map qO))),(57,.v (enc g.length)),(58,.v (enc i))],H1⟩)
       (λi=>i<=g.length) (λi=>g.length-i) 0 (aKE _) dl ?_
      intro i al;by_cases aHo:i<g.length
      ·have hk:=J _ (ek aHo);have aHp:∀r:aU,r.enc.pure=true:=λr=>rfl;have yZ:(g.take i).length=i:=by rw[aKO];omega
       (repeat' first|simp(disch:=first|exact ai|fail) only[go_sem,qO,aHp,yZ]|(refine ao ?_ ?_<;>intro))
       exact⟨i+1,am,am,ci⟩
      ·have AW:g.take i=g:=aKG am;obtain⟨L,cf⟩:∃L,L=g.map (l[·]!):=⟨_,rfl⟩;rw[AW,<-cf];rw[<-cf]at s;have R5:∀r∈L,RV1 r:=λr aw=>by
        rw[cf]at aw;obtain⟨k,hk,rfl⟩:=List.mem_map.1 aw;exact vj _ (ek (J k hk))
       have rL:L.length<=100000:=by rw[cf,aKL];omega
       cases O:xe 600 L w with
       |none=>rw[O]at s;cases s|some p =>
        obtain⟨e,zD⟩:=p;rw[O]at s;simp only at s;have P:=aG2 dy dO e4 hF R5 rL O;have KF:=aHl dy fJ Du K8 R5 O;by_cases he:e=0
        ·rw[if_pos he]at s;have xW:((e:Nat):Int)=0:=by omega
         obtain⟨aj,av,aQ⟩:=RX R5 fJ Du K8 O he
         (repeat' first|simp(disch:=first|exact ai|fail) only[go_sem,xW]|(refine ao ?_ ?_<;>intro)|(refine iJ ⟨P,KF⟩ ?_;(rintro tY H2 ⟨rfl,bS,g1,g2⟩))|fail)
         obtain⟨yY,ca,dK,fp,o1⟩:=bS he;exact⟨(j+1,yY,zD,H2),⟨ap,ca,dK,fp,o1,aj,aQ,s⟩,ap,ci⟩
        ·rw[if_neg he]at s;have xW:((e:Nat):Int)≠0:=by omega
         simp only[Option.some.injEq,Prod.mk.injEq]at s;obtain⟨rfl,rfl⟩:=s
         (repeat' first|simp(disch:=first|exact ai|fail) only[go_sem]|(refine ao ?_ ?_<;>intro)|(refine iJ ⟨P,KF⟩ ?_;(rintro tY H2 ⟨rfl,bS,g1,g2⟩))|fail)
         exact⟨_,rfl,.inl ⟨he,pd e⟩⟩
     ·rw[aKK am,GJ]at s;simp only[Option.some.injEq,Prod.mk.injEq]at s;obtain⟨rfl,rfl⟩:=s;have aHq:fx hU=w:=(QJ fJ λa=>(e4 a).symm).symm;have uB:=ah1 dy am;rw[aHq]at uB;have R6:w.length<=100000/\kh w<=100000:=⟨K8,Gf λt aB=>by have:=GD (Du t aB);omega⟩
      (repeat' first|simp(disch:=first|exact ai|fail) only[go_sem]|(refine ao ?_ ?_<;>intro)|refine cA uB ?_|refine cA (aHm w R6.1 R6.2) ?_)
      exact⟨_,rfl,.inr ⟨_,rfl,bv,am⟩⟩
   ·have Q:rO c=false:=by simpa using X
    rw[Q]at o;simp only[Bool.not_false,if_true,Option.some.injEq,Prod.mk.injEq]at o;obtain⟨rfl,rfl⟩:=o;refine oX @C @V @R @R2 @R3 @Q ?_;exact⟨_,rfl,.inl (pd 13)⟩
  ·rw[if_pos (by simpa using ab)]at o;have R3:((u:Nat):Int)≠0:=by omega
   simp only[Option.some.injEq,Prod.mk.injEq]at o;obtain⟨rfl,rfl⟩:=o;refine mb @C @V @R @R2 ?_;exact⟨_,rfl,.inl ⟨ab,pd u⟩⟩
 ·rw[if_pos (by simpa using T)]at o;have V:((hG l:Nat):Int)≠0:=by omega
  simp only[Option.some.injEq,Prod.mk.injEq]at o;obtain⟨rfl,rfl⟩:=o;refine bU @C ?_;exact⟨_,rfl,.inl ⟨T,pd (hG l)⟩⟩
theorem aHr(l:List aU)(c:List I)(de:∀r∈l,aA ν aD 36 [enc r] (enc (fK r)))(hO:hG l=0->aA ν aD 78 [enc l] (rP l))(ds:(iz l c).isSome=true) :
  aA ν aD 42 [enc l,enc c] (j8 (iz l c)):=by
 refine aA.sy λd g=>?_;obtain⟨d,_⟩:=d;obtain⟨g,_⟩:=g;obtain⟨R,j⟩:=Option.isSome_iff_exists.1 ds;rw[j];obtain⟨m,o⟩:=R;exact aA.of_heap co ((ai9 d g de hO j).mono λ_ _ h=>h.imp And.right _root_.id) (by simp only[List.all_cons,List.all_nil,Enc.arg,Bool.and_self])
end AM
