/- What functions of the given program do, as calls of the machine. Conditions: names and lists are bounded where that is said. -/
import Derived.Test.YtclmmldjogkhoaaGreatDoorE1
import Derived.Test.YtclmmldjogkhoaaGreatDoorAm17
set_option linter.unusedSimpArgs false
set_option maxRecDepth 100000
set_option maxHeartbeats 4000000
set_option linter.unusedVariables false
namespace AM
open Nat renaming zero_le -> I9
open List renaming drop_eq_nil_of_le -> Ja,take_of_length_le -> fM
open Bool renaming eq_iff_iff -> LW,false_eq_true -> TH,not_false -> aeZ
open Go Go.Proofs
open Tryz renaming prog -> ν
open Enc (enc)
def qS(l:List aU):AV:=.a8 [.list none 1 ((kd l).1.map s3),.int .i64 (kd l).2]
def nK(r:Option (List I×Nat)):AV:=match r with|some (A,e)=>.a8 [enc A,.int .i64 e]|none=>.a8 []
noncomputable def Pq:List kX:=[(46,fO fun(r:aU)=>enc (h6 r)),
 (18,fO fun(l:List aU)=>qS l),
 (17,fO fun(l:List aU)=>enc (hY l)),
 (19,fO fun(l:List I)=>enc (k5 l)),
 (6,jo fun(l:List aU)(a:List I)=>nK (fq l a))]
noncomputable def ir:bc:=jV ot (fT Pq)
instance aHM{D:bc}[h:bq D ir]:bq D ot:=h.nA
theorem aej:gC ir ([46,18,17,19,6]++([64]++([96]++([51]++([23,16]++([45]++([43,126,107,77,106]++[58,88,120,94,57,40,71,99,101,25,7,74]))))))):=gC.or adq (nB Pq)
variable {f:Nat}{F:List AV->Option AV}
theorem EW(h:∀xs,fT Pq f xs=F xs)(hk:(([64]++([96]++([51]++([23,16]++([45]++([43,126,107,77,106]++[58,88,120,94,57,40,71,99,101,25,7,74])))))):List Nat).contains f=false:=by rfl):∀xs,ir f xs=F xs:=fun xs=>by rw[<-h];exact mS adq hk
variable {D:bc}{x1:AV}{r:aU}{K:AV->Prop}{tg:aM K}
theorem aAS[bq D ir][aT x1 r](h:aF ν aB 46 [enc r] (enc (h6 r))):bT ν aB D 46 [x1] K tg=K (enc (h6 r)):=gN (D':=ir) (F:=fun(r:aU)=>enc (h6 r)) (EW fun _=>rfl) h
variable {l:List aU}
theorem aAT[bq D ir][aT x1 l](h:aF ν aB 18 [enc l] (qS l)):bT ν aB D 18 [x1] K tg=K (qS l):=gN (D':=ir) (F:=fun(l:List aU)=>qS l) (EW fun _=>rfl) h
theorem aek[bq D ir][aT x1 l](h:aF ν aB 17 [enc l] (enc (hY l))):bT ν aB D 17 [x1] K tg=K (enc (hY l)):=gN (D':=ir) (F:=fun(l:List aU)=>enc (hY l)) (EW fun _=>rfl) h
theorem aAU[bq D ir]{l:List I}[aT x1 l](h:aF ν aB 19 [enc l] (enc (k5 l))):bT ν aB D 19 [x1] K tg=K (enc (k5 l)):=gN (D':=ir) (F:=fun(l:List I)=>enc (k5 l)) (EW fun _=>rfl) h
variable {x2:AV}
theorem EX[bq D ir]{a:List I}[aT x1 l][aT x2 a](h:aF ν aB 6 [enc l,enc a] (nK (fq l a))):bT ν aB D 6 [x1,x2] K tg=K (nK (fq l a)):=lI (D':=ir) (F:=fun(l:List aU)(a:List I)=>nK (fq l a)) (EW fun _=>rfl) h
variable {H:List ax}
theorem aAV(p:I->Bool)(b:j6 ν f=true)(l:List I)(h:∀t∈l,aF ν aB f [enc t] (enc (p t)))(c:l.length<=M) :
  bn ν aB 59 [enc l,.fn f []] H fun r H'=>r=.int .i64 (k0 p l)/\H'=H:=by
 have d:M=1099511627776:=rfl;refine bn.intro (D:=ir) aau ?_;unfold M9
 (repeat' first|simp(disch:=first|exact aq|fail) only[go_sem]|(apply av<;>intro))
 refine b9 (fun i:Nat=>⟨N [(0,.v (enc l)),(1,.v (.fn f [])),(7,.v (enc l.length)),(8,.v (enc i))],H⟩) (fun i=>i<=l.length/\jq p (l.drop i) i=k0 p l) (fun i=>l.length-i) 0 ⟨I9 _,rfl⟩ (by(try simp(disch:=first|exact aq|fail) only[go_sem])<;>(exact bG)) ?_;rintro i ⟨e,a⟩;by_cases ak:i<l.length
 ·have hd:=h l[i]! (ft ak);rw[fY ak,jq]at a;cases ao:p l[i]! with
  |true =>
   rw[ao]at hd a
   (repeat' first|simp(disch:=first|exact aq|fail) only[go_sem,iV]|(apply av<;>intro)|refine abG b hd ?_)
   exact⟨_,rfl,by rw[<-a];rfl⟩
  |false =>
   rw[ao]at hd a
   (repeat' first|simp(disch:=first|exact aq|fail) only[go_sem,iV]|(apply av<;>intro)|refine abG b hd ?_)
   exact⟨i+1,⟨by omega,a⟩,by omega,by(exact bG)⟩
 ·rw[Ja (by omega),jq]at a
  (repeat' first|simp(disch:=first|exact aq|fail) only[go_sem]|(apply av<;>intro))
  exact⟨_,rfl,by rw[<-a]⟩
theorem Pr(p:I->Bool)(a:j6 ν f=true)(l:List I)(h:∀t∈l,aF ν aB f [enc t] (enc (p t)))(b:l.length<=M) :
  bn ν aB 49 [enc l,.fn f []] H fun r H'=>r=.bool (l.any p)/\H'=H:=by
 refine bn.intro (D:=ir) asL ?_;unfold Xd;have c:=Oo p l 0;have ae:decide (k0 p l>=0)=l.any p:=by rw[LW,<-c];simp[k0]
 (repeat' first|simp(disch:=first|exact aq|fail) only[go_sem,ae]|(apply av<;>intro)|refine b6 (aAV p a l h b) ?_)
 exact⟨_,rfl,rfl⟩
theorem aAW(a:I):aF ν aB 50 [enc a] (enc (!zI a)):=by
 have U:((a.args.length:Int)==1)=decide (a.args.length=1):=by rw[LW];simp;omega
 have b:((a.args.length:Int)==2)=decide (a.args.length=2):=by rw[LW];simp;omega
 have c:zI a=((a.name==[116,114,117,101]&&decide (a.args.length=1)||a.name==[100,111,101,115]&&decide (a.args.length=2))&&ct 4 a false):=rfl;refine aF.intro (D:=ir) aar fp fg ?_;unfold Xf;simp(disch:=first|exact aq|fail) only[go_sem];rw[c];cases d:a.name==[116,114,117,101]<;>cases e:a.name==[100,111,101,115]<;>cases g:ct 4 a false<;>cases h:decide (a.args.length=1)<;>cases i:decide (a.args.length=2);all_goals (repeat' first|simp(disch:=first|exact aq|fail) only[go_sem,d,e,g,U,b,h,i]|(apply av<;>intro))
 all_goals rfl
theorem aAX(l:List I):aF ν aB 19 [enc l] (enc (k5 l)):=by
 refine aF.l9 fun ae=>?_;obtain⟨ae,_⟩:=ae;have g:M=1099511627776:=rfl;refine aF.intro (D:=ir) asn fp fg ?_;unfold VZ;simp(disch:=first|exact aq|fail) only[go_sem];by_cases b:l.length<=512
 ·have c:=Pr (H:=[]) (fun a=>!zI a) (w9 aar).1 l (fun t _=>aAW t) (by omega)
  (repeat' first|simp(disch:=first|exact aq|fail) only[go_sem]|(apply av<;>intro)|refine b6 c ?_)
  show some (AV.bool _)=some (AV.bool _);have d:k5 l = !(l.any fun a=>!zI a):=by
   rw[k5,decide_eq_true b,Bool.true_and,LW,List.all_eq_true];simp
  rw[d]
 ·have e:k5 l=false:=by rw[k5,decide_eq_false b,Bool.false_and]
  rw[e]
  (repeat' first|simp(disch:=first|exact aq|fail) only[go_sem]|(apply av<;>intro))
theorem aAY[bq D ir]{l:List I}[aT x1 l]  :bT ν aB D 19 [x1] K tg=K (enc (k5 l)):=aAU (aAX l)
attribute [go_sem ↓ 2000] aAY
theorem aAZ(h:l.length<=128):hY l=((l.find? fun r=>!(h6 r==0)).map h6).getD 0:=if_neg (by omega)
theorem ael(l:List aU)(dN:∀r∈l,aF ν aB 46 [enc r] (enc (h6 r))):aF ν aB 17 [enc l] (enc (hY l)):=by
 refine aF.l9 fun ae=>?_;obtain⟨ae,_⟩:=ae;have j:M=1099511627776:=rfl;by_cases e:l.length<=128
 ·refine aF.intro (D:=ir) aaj fp fg ?_;unfold MV;simp(disch:=first|exact aq|fail) only[go_sem];rw[aAZ e]
  (repeat' first|simp(disch:=first|exact aq|fail) only[go_sem]|(apply av<;>intro))
  refine b9 (fun i:Nat=>⟨N [(9,.v (enc l)),(10,.v (enc l.length)),(11,.v (enc i))],[]⟩) (fun i=>i<=l.length/\(((l.drop i).find? fun r=>!(h6 r==0)).map h6).getD 0=((l.find? fun r=>!(h6 r==0)).map h6).getD 0) (fun i=>l.length-i) 0 ⟨I9 _,rfl⟩ (by(try simp(disch:=first|exact aq|fail) only[go_sem])<;>(exact bG)) ?_;rintro i ⟨k,a⟩;by_cases ak:i<l.length
  ·have c:=fun{K:AV->Prop}{tg:aM K}(g:i<l.length)=>aAS (D:=ir) (K:=K) (tg:=tg) (x1:=l[i]!.enc) (dN _ (ft g));rw[fY ak,List.find?_cons]at a;cases b:h6 l[i]! ==0 with
   |true =>
    rw[b]at a;have d:((h6 l[i]! : Nat):Int)=0:=by simpa using b
    (repeat' first|simp(disch:=first|exact aq|fail) only[go_sem,c,d]|(apply av<;>intro))
    exact⟨i+1,⟨by omega,a⟩,by omega,by(exact bG)⟩
   |false =>
    rw[b]at a;have d:((h6 l[i]! : Nat):Int)≠0:=by
     have:h6 l[i]!≠0:=by simpa using b
     omega
    (repeat' first|simp(disch:=first|exact aq|fail) only[go_sem,c]|(apply av<;>intro))
    show some (AV.int _ _)=some (AV.int _ _);rw[<-a];rfl
  ·rw[Ja (by omega)]at a
   (repeat' first|simp(disch:=first|exact aq|fail) only[go_sem]|(apply av<;>intro))
   show some (AV.int _ _)=some (AV.int _ _);rw[<-a];rfl
 ·have h:hY l=2:=if_pos (by omega);rw[h];refine aF.intro (D:=ir) aaj fp fg ?_;unfold MV;simp(disch:=first|exact aq|fail) only[go_sem]
  (repeat' first|simp(disch:=first|exact aq|fail) only[go_sem]|(apply av<;>intro))
theorem ue(e:Nat):bQ (.a8 [.aV 2,.int .i64 e]) (nK (some ([],e))):=NK (by
 rw[aa5];simp only[List.map_cons,List.map_nil,NJ,AV.can];rfl)
theorem aA0{x k b e:Nat}{S A d:List I}(j:gq 30 H x k b S)(cq:jy A)(m:iq A)(n:A.length<=100000)(o:∀r∈l,mj r)(p:nH f l A=some (e,d)) :
  ∃r H',r=AV.int .i64 e/\(e=0->∃c,gq 30 H' x k b c/\iq c/\(∀a,a∈c↔a∈d)/\c.length<=100000)/\H.length<=H'.length/\∀i,i<H.length->i≠k->i≠b->H'[i]?=H[i]?:=by
 by_cases he:e=0
 ·obtain⟨q,g,s⟩:=Pn o cq m n p he;obtain⟨H',t,U,u⟩:=j.ex (aAK (ET q) g);exact⟨_,H',rfl,fun _=>⟨d,t,g,fun _=>Iff.rfl,s⟩,by omega,fun i _ a b=>u i a b⟩
 ·exact⟨_,H,rfl,fun h=>absurd h he,Nat.le_refl _,fun _ _ _ _=>rfl⟩
theorem aA1(l:List I)(U:l.length<=100000)(a:jz l<=100000):bn ν aB 23 [enc l] H fun r H'=>r=.bs H.length 0 l.length 2/\H'=H++[.buf 30 (cM l),.dead]:=by
 have b:M=1099511627776:=rfl;refine bn.intro (D:=ir) atQ ?_;unfold aae
 (repeat' first|simp(disch:=first|exact aq|fail) only[go_sem]|(apply av<;>intro))
 refine b9 (fun i:Nat=>⟨N [(3,.v (.bs H.length 0 l.length 2)),(9,.v (enc l)),(10,.v (enc l.length)),(11,.v (enc i))],H++[.buf 30 (kZ l i),.dead]⟩) (fun i=>i<=l.length) (fun i=>l.length-i) 0 (I9 _) (by(try simp(disch:=first|exact aq|fail) only[go_sem])<;>(first|rfl|(simp(disch:=first|exact a6|fail) only[cj,List.foldr_cons,List.foldr_nil,Env.ins,cE,cF,cG,cH,cI,cJ,cK,cL,I.b8,List.length_map,Int.natCast_add,Int.natCast_one,Int.natCast_zero,List.take_zero,bZ,List.map_append,List.map_cons,List.map_nil,cS,cT,go_sem,Og];try rfl))) ?_;intro i ak;by_cases h:i<l.length
 ·have hm:jz l[i]!.args<=100000/\l[i]!.args.length<=100000:=by have:=xw (ft h);rw[H9]at this;omega
  (repeat' first|simp(disch:=first|exact aq|fail) only[go_sem]|(apply av<;>intro))
  exact⟨i+1,by omega,by omega,by(exact bG)⟩
 ·obtain rfl:i=l.length:=by omega
  (repeat' first|simp(disch:=first|exact aq|fail) only[go_sem,Oh]|(apply av<;>intro))
  exact⟨_,rfl,by first|exact⟨rfl,rfl⟩|rfl⟩
theorem aem{b:List I}(ep:l.length<=M)(eh:b.length<=M)(dN:∀r∈l,aF ν aB 46 [enc r] (enc (h6 r)))(hO:hY l=0->aF ν aB 18 [enc l] (qS l)){u:List I}{w:Nat}(g:fq l b=some (u,w)) :
  bn ν aB 6 [enc l,enc b] [] fun jM H'=>(w≠0/\bQ jM (.a8 [enc u,.int .i64 w]))\/∃id,jM=.a8 [.bs id 0 u.length 2,.int .i64 w]/\H'[id]?=some (.buf 30 (cM u))/\u.length<=M:=by
 have dh:M=1099511627776:=rfl;have pC:=ael l dN;have x:=fun{K:AV->Prop}{tg:aM K}=>aek (D:=ir) (K:=K) (tg:=tg) (x1:=enc l) pC;have E:=fun{K:AV->Prop}{tg:aM K}(h:hY l=0)=>aAT (D:=ir) (K:=K) (tg:=tg) (x1:=enc l) (hO h);have EY:(enc l:AV)=.list none 3 (l.map aU.enc):=rfl;have aHN:(enc b:AV)=.list none 2 (b.map I.enc):=rfl;rw[EY]at x E;refine bn.intro (D:=ir) atP ?_;unfold aab;unfold fq at g;by_cases G:hY l=0
 ·rw[if_neg (by simpa using G)]at g;have J:((hY l:Nat):Int)=0:=by omega
  obtain⟨Ps,EZ⟩:=zJ G;obtain⟨c,y⟩:∃c,c=(kd l).1:=⟨_,rfl⟩;obtain⟨s,Gh⟩:∃s,s=(kd l).2:=⟨_,rfl⟩;have Pt:qS l=.a8 [.list none 1 (c.map s3),.int .i64 s]:=by rw[qS,y,Gh]
  have k2:∀d∈c,∀k∈d,k<l.length:=fun d h k hk=>aea (y▸h) hk;rw[<-y,<-Gh]at g;by_cases U:s=0
  ·rw[if_neg (by simpa using U)]at g;have Pu:((s:Nat):Int)=0:=by omega
   by_cases O:k5 b=true
   ·rw[O]at g;simp only[Bool.not_true,TH,if_false]at g;obtain⟨aHO,dZ⟩:=aAL O
    (repeat' first|simp(disch:=first|exact aq|fail) only[go_sem,x,J,E,Pt,Pu,O]|(apply av<;>intro)|refine b6 (OQ []) ?_)
    refine b9 (fun q:Nat×List I×List ax=>⟨N [(0,.v (enc l)),(7,.v (.list none 1 (c.map s3))),(9,.b [.ptr 2 0]),(36,.v (enc b)),(37,.v (enc b.length)),(38,.v (enc q.1))],q.2.2⟩)
     (fun q=>q.1<=b.length/\gq 30 q.2.2 2 0 1 q.2.1/\iq q.2.1/\(∀a,a∈q.2.1↔a∈b.take q.1)/\q.2.1.length<=q.1) (fun q=>b.length-q.1) (0,[],[ax.map 0 [],ax.map 0 [],ax.cells [AV.map 0,AV.map 1]])
     ⟨I9 _,⟨0,0,[],[],⟨rfl,rfl,rfl,by decide⟩,iZ.nil⟩,fun a h=>(by cases h),fun a=>by simp,Nat.le_refl _⟩ (by(try simp(disch:=first|exact aq|fail) only[go_sem])<;>(exact bG)) ?_
    rintro⟨i,S,H⟩ ⟨i1,i2,P,Q,i5⟩;simp only at i1 i2 P Q i5;by_cases ak:i<b.length
    ·have Pv:=dZ _ (ft ak);obtain⟨n,m,km,bj,ek,dy⟩:=i2;have pa:=Io ek dy b[i]! (BS Pv (by omega)) (by omega);obtain⟨R,dt,eW⟩:=gq.add ek dy b[i]!;have rf:=aec S b[i]!;have E1:=aAM P Pv;obtain⟨nF,vR⟩:∃nF,nF=qO 30 H 0 1 n m km bj S b[i]!:=⟨_,rfl⟩;rw[<-vR]at pa R
     (repeat' first|simp(disch:=first|exact aq|fail) only[go_sem]|(apply av<;>intro)|refine b6 pa ?_)
     exact⟨(i+1,mg S b[i]!,nF),⟨by simp only;omega,R,fun a aE=>((E1 a).1 aE).elim (P a) (fun e=>e▸Pv),fun a=>by simp only;rw[E1,Q,bZ ak];simp,by simp only;omega⟩,by simp only;omega,by(exact bG)⟩
    ·have sT:b.take i=b:=fM (by omega);rw[sT]at Q;have aHP:c.length<=100000:=by rw[y];exact aeh Ps fun r T=>(EZ r T).b
     (repeat' first|simp(disch:=first|exact aq|fail) only[go_sem]|(apply av<;>intro))
     refine b9 (fun q:Nat×List I×List I×List ax=>⟨N [(0,.v (enc l)),(9,.b [.ptr 2 0]),(47,.v (.list none 1 (c.map s3))),(48,.v (enc c.length)),(49,.v (enc q.1))],q.2.2.2⟩)
      (fun q=>q.1<=c.length/\gq 30 q.2.2.2 2 0 1 q.2.1/\iq q.2.1/\(∀a,a∈q.2.1↔a∈q.2.2.1)/\q.2.1.length<=100000/\jy q.2.2.1/\q.2.2.1.length<=100000/\vZ l (c.drop q.1) q.2.2.1=some (u,w)) (fun q=>c.length-q.1) (0,S,fu b,H)
      ⟨I9 _,i2,P,fun a=>by rw[Q,oi],by simp only;omega,sR _,by have:=Od b;simp only;omega,g⟩ (by(try simp(disch:=first|exact aq|fail) only[go_sem])<;>(exact bG)) ?_
     rintro⟨j,hn,v,H1⟩ ⟨dM,V,dx,W,gX,X,Y,o⟩;simp only at dM V dx W gX X Y o;have BZ:iq v:=fun a aE=>dx a ((W a).2 aE);by_cases aZ:j<c.length
     ·have I4:=ft aZ;have aA2:c[j]!.length<=128:=Nat.le_trans (aAN (y▸I4)) Ps;obtain⟨d,Z⟩:∃d,d=c[j]!:=⟨_,rfl⟩;have z:∀k∈d,k<l.length:=fun k hk=>k2 _ I4 k (Z▸hk);rw[fY aZ,vZ,<-Z]at o;rw[<-Z]at aA2
      (repeat' first|simp(disch:=first|exact aq|fail) only[go_sem,s3,<-Z]|(apply av<;>intro))
      refine b9 (fun i:Nat=>⟨N [(0,.v (enc l)),(9,.b [.ptr 2 0]),(14,.v (.list (some 33) 3 (((d.take i).map (l[·]!)).map aU.enc))),(47,.v (.list none 1 (c.map s3))),(48,.v (enc c.length)),(49,.v (enc j)),(56,.v (.list none 1 (d.map p3))),(57,.v (enc d.length)),(58,.v (enc i))],H1⟩)
       (fun i=>i<=d.length) (fun i=>d.length-i) 0 (I9 _) (by(try simp(disch:=first|exact aq|fail) only[go_sem])<;>(exact bG)) ?_
      intro i ak;by_cases aA3:i<d.length
      ·have hk:=z _ (ft aA3);have aA4:∀r:aU,r.enc.pure=true:=fun r=>rfl;have xQ:(d.take i).length=i:=by rw[List.length_take];omega
       (repeat' first|simp(disch:=first|exact aq|fail) only[go_sem,p3,aA4,xQ]|(apply av<;>intro))
       exact⟨i+1,by omega,by omega,by(exact bG)⟩
      ·have zF:d.take i=d:=fM (by omega);obtain⟨L,cg⟩:∃L,L=d.map (l[·]!):=⟨_,rfl⟩;rw[zF,<-cg];rw[<-cg]at o;have Pw:∀r∈L,mj r:=fun r T=>by
        rw[cg]at T;obtain⟨k,hk,rfl⟩:=List.mem_map.1 T;exact EZ _ (ft (z k hk))
       have tY:L.length<=100000:=by rw[cg,List.length_map];omega
       cases A:nH 600 L v with
       |none=>rw[A]at o;cases o|some p =>
        obtain⟨e,yu⟩:=p;rw[A]at o;simp only at o;have B:=aAE V dx W gX Pw tY A;have Iy:=aA0 V X BZ Y Pw A;by_cases he:e=0
        ·rw[if_pos he]at o;have wR:((e:Nat):Int)=0:=by omega
         obtain⟨al,au,aS⟩:=Pn Pw X BZ Y A he
         (repeat' first|simp(disch:=first|exact aq|fail) only[go_sem,wR]|(apply av<;>intro)|(refine iW ⟨B,Iy⟩ ?_;(rintro sW dS ⟨rfl,bJ,g1,g2⟩)))
         obtain⟨xO,R,dt,eW,oe⟩:=bJ he;exact⟨(j+1,xO,yu,dS),⟨by simp only;omega,R,dt,eW,oe,al,aS,o⟩,by simp only;omega,by(exact bG)⟩
        ·rw[if_neg he]at o;have wR:((e:Nat):Int)≠0:=by omega
         simp only[Option.some.injEq,Prod.mk.injEq]at o;obtain⟨rfl,rfl⟩:=o
         (repeat' first|simp(disch:=first|exact aq|fail) only[go_sem]|(apply av<;>intro)|(refine iW ⟨B,Iy⟩ ?_;(rintro sW dS ⟨rfl,bJ,g1,g2⟩)))
         exact⟨_,rfl,.inl ⟨he,ue e⟩⟩
     ·rw[Ja (by omega),vZ]at o;simp only[Option.some.injEq,Prod.mk.injEq]at o;obtain⟨rfl,rfl⟩:=o;have aA5:fu hn=v:=(Oe X fun a=>(W a).symm).symm;have tm:=ada V (by omega);rw[aA5]at tm;have Px:v.length<=100000/\jz v<=100000:=⟨Y,Es fun t ay=>by have:=EP (BZ t ay);omega⟩
      (repeat' first|simp(disch:=first|exact aq|fail) only[go_sem]|(apply av<;>intro)|refine b6 tm ?_|refine b6 (aA1 v Px.1 Px.2) ?_)
      exact⟨_,rfl,.inr ⟨_,rfl,by(simp(disch:=first|exact aq|fail) only[dD,b5,dp,eE,eY,eN];try rfl),by omega⟩⟩
   ·have C:k5 b=false:=by simpa using O
    rw[C]at g;simp only[aeZ,if_true,Option.some.injEq,Prod.mk.injEq]at g;obtain⟨rfl,rfl⟩:=g
    (repeat' first|simp(disch:=first|exact aq|fail) only[go_sem,x,J,E,Pt,Pu,C]|(apply av<;>intro))
    exact⟨_,rfl,.inl (ue 13)⟩
  ·rw[if_pos (by simpa using U)]at g;have Pu:((s:Nat):Int)≠0:=by omega
   simp only[Option.some.injEq,Prod.mk.injEq]at g;obtain⟨rfl,rfl⟩:=g
   (repeat' first|simp(disch:=first|exact aq|fail) only[go_sem,x,J,E,Pt]|(apply av<;>intro))
   exact⟨_,rfl,.inl ⟨U,ue s⟩⟩
 ·rw[if_pos (by simpa using G)]at g;have J:((hY l:Nat):Int)≠0:=by omega
  simp only[Option.some.injEq,Prod.mk.injEq]at g;obtain⟨rfl,rfl⟩:=g
  (repeat' first|simp(disch:=first|exact aq|fail) only[go_sem,x]|(apply av<;>intro))
  exact⟨_,rfl,.inl ⟨G,ue (hY l)⟩⟩
theorem aA6(l:List aU)(a:List I)(dN:∀r∈l,aF ν aB 46 [enc r] (enc (h6 r)))(e:hY l=0->aF ν aB 18 [enc l] (qS l))(dg:(fq l a).isSome=true) :
  aF ν aB 6 [enc l,enc a] (nK (fq l a)):=by
 refine aF.zf fun b c=>?_;obtain⟨b,_⟩:=b;obtain⟨c,_⟩:=c;obtain⟨R,d⟩:=Option.isSome_iff_exists.1 dg;rw[d];obtain⟨g,i⟩:=R;exact aF.of_heap (by kernel_rfl) ((aem b c dN e d).mono fun _ _ h=>h.imp And.right _root_.id) (by simp only[List.all_cons,List.all_nil,Enc.arg,Bool.and_self])
open Enc (enc)
def pe(s:aj):AV:=match xy s with|some k=>.a8 [k.enc,.bool true]|none=>.a8 [.agg [.str [],.int .i64 0,.bool false,.bool false],.bool false]
noncomputable def Py:List kX:=[(103,fO fun(t:I)=>enc (lK t)),
 (105,fO fun(t:I)=>enc (me t)),
 (104,fO fun(s:aj)=>pe s),
 (76,jo fun(t:I)(hd:Bool)=>enc (mf t hd)),
 (75,fO fun(r:aU)=>enc (fU r)),
 (78,fO fun(r:aU)=>enc (rN r))]
noncomputable def gk:bc:=jV ir (fT Py)
instance aHQ{D:bc}[h:bq D gk]:bq D ir:=h.nA
theorem aeq:gC gk ([103,105,104,76,75,78]++([46,18,17,19,6]++([64]++([96]++([51]++([23,16]++([45]++([43,126,107,77,106]++[58,88,120,94,57,40,71,99,101,25,7,74])))))))):=gC.or aej (nB Py)
theorem B0(h:∀xs,fT Py f xs=F xs)(hk:(([46,18,17,19,6]++([64]++([96]++([51]++([23,16]++([45]++([43,126,107,77,106]++[58,88,120,94,57,40,71,99,101,25,7,74]))))))):List Nat).contains f=false:=by rfl):∀xs,gk f xs=F xs:=fun xs=>by rw[<-h];exact mS aej hk
variable {t:I}
theorem aA7[bq D gk][aT x1 t](h:aF ν aB 103 [enc t] (enc (lK t))):bT ν aB D 103 [x1] K tg=K (enc (lK t)):=gN (D':=gk) (F:=fun(t:I)=>enc (lK t)) (B0 fun _=>rfl) h
theorem aA8[bq D gk][aT x1 t](h:aF ν aB 105 [enc t] (enc (me t))):bT ν aB D 105 [x1] K tg=K (enc (me t)):=gN (D':=gk) (F:=fun(t:I)=>enc (me t)) (B0 fun _=>rfl) h
variable {s:aj}
theorem aA9[bq D gk][aT x1 s](h:aF ν aB 104 [enc s] (pe s)):bT ν aB D 104 [x1] K tg=K (pe s):=gN (D':=gk) (F:=fun(s:aj)=>pe s) (B0 fun _=>rfl) h
variable {hd:Bool}
theorem aBa[bq D gk][aT x1 t][aT x2 hd](h:aF ν aB 76 [enc t,enc hd] (enc (mf t hd))):bT ν aB D 76 [x1,x2] K tg=K (enc (mf t hd)):=lI (D':=gk) (F:=fun(t:I)(hd:Bool)=>enc (mf t hd)) (B0 fun _=>rfl) h
theorem aBb[bq D gk][aT x1 r](h:aF ν aB 75 [enc r] (enc (fU r))):bT ν aB D 75 [x1] K tg=K (enc (fU r)):=gN (D':=gk) (F:=fun(r:aU)=>enc (fU r)) (B0 fun _=>rfl) h
theorem aBc[bq D gk][aT x1 r](h:aF ν aB 78 [enc r] (enc (rN r))):bT ν aB D 78 [x1] K tg=K (enc (rN r)):=gN (D':=gk) (F:=fun(r:aU)=>enc (rN r)) (B0 fun _=>rfl) h
variable {n:Nat}
theorem aer(h:n≠0):((n:Int)==0)=false:=by
 have U:((n:Int)==0)≠true:=by simp only[beq_iff_eq,ne_eq];omega
 simpa using U
theorem aBd:∀t:I,aF ν aB 105 [enc t] (enc (me t)):=I.ind fun t ih=>by
 refine aF.l9 fun ae=>?_;obtain⟨_,ae,_⟩:=(I.o4 t).1 ae;have b:M=1099511627776:=rfl;refine aF.intro (D:=gk) aaE fp fg ?_;unfold Y9;simp(disch:=first|exact aq|fail) only[go_sem];rw[acx];by_cases h:4<t.args.length
 ·rw[decide_eq_true h,Bool.true_or]
  (repeat' first|simp(disch:=first|exact aq|fail) only[go_sem]|(apply av<;>intro))
  all_goals rfl
 ·rw[decide_eq_false h,Bool.false_or];have a:=Pr (H:=[]) me (w9 aaE).1 t.args ih ae
  (repeat' first|simp(disch:=first|exact aq|fail) only[go_sem]|(apply av<;>intro)|refine b6 a ?_)
  all_goals rfl
theorem aBe[bq D gk][aT x1 t]  :bT ν aB D 105 [x1] K tg=K (enc (me t)):=aA8 (aBd t)
attribute [go_sem ↓ 2000] aBe
theorem aBf:∀t:I,aF ν aB 103 [enc t] (enc (lK t)):=I.ind fun t ih=>by
 refine aF.l9 fun ae=>?_;obtain⟨_,ae,_⟩:=(I.o4 t).1 ae;have e:M=1099511627776:=rfl;refine aF.intro (D:=gk) aaD fp fg ?_;unfold Y5;simp(disch:=first|exact aq|fail) only[go_sem];rw[acw];by_cases h:t.args.length=0
 ·rw[if_pos h];have ak:((t.args.length:Int)==0)=true:=by simp[h]
  cases b:hh t.name with
  |some n =>
   (repeat' first|simp(disch:=first|exact aq|fail) only[go_sem,ak,Nw b]|(apply av<;>intro))
   all_goals rfl
  |none =>
   cases a:fo t.name<;>cases c:e9 t.name;all_goals (repeat' first|simp(disch:=first|exact aq|fail) only[go_sem,ak,Nv b,a,c]|(apply av<;>intro))
   all_goals rfl
 ·rw[if_neg h];have ak:=aer h;have d:=Pr (H:=[]) lK (w9 aaD).1 t.args ih ae;cases a:fo t.name
  ·(repeat' first|simp(disch:=first|exact aq|fail) only[go_sem,ak,a]|(apply av<;>intro))
   all_goals rfl
  ·(repeat' first|simp(disch:=first|exact aq|fail) only[go_sem,ak,a]|(apply av<;>intro)|refine b6 d ?_)
   all_goals rfl
theorem aBg[bq D gk][aT x1 t]  :bT ν aB D 103 [x1] K tg=K (enc (lK t)):=aA7 (aBf t)
attribute [go_sem ↓ 2000] aBg
theorem aBh(k:fZ)(s:aj){H:List ax}:bn ν aB 125 [k.enc,.db [.str s]] H fun r H'=>r=.bool (k.name==s)/\H'=H:=by
 refine bn.intro (D:=gk) atG ?_;unfold ZN
 (repeat' first|simp(disch:=first|exact aq|fail) only[go_sem]|(apply av<;>intro))
 exact⟨_,rfl,rfl⟩
theorem aBi(s:aj):bn ν aB 124 [.list none 4 (pW.map fZ.enc),.fn 125 [.db [.str s]]] H fun r H'=>r=.int .i64 (k0 (fun k=>k.name==s) pW)/\H'=H:=by
 have c:M=1099511627776:=rfl;have d:pW.length=10:=rfl;generalize pW=l at *;refine bn.intro (D:=gk) atF ?_;unfold ZL
 (repeat' first|simp(disch:=first|exact aq|fail) only[go_sem]|(apply av<;>intro))
 refine b9 (fun i:Nat=>⟨N [(0,.v (.list none 4 (l.map fZ.enc))),(1,.v (.fn 125 [.db [.str s]])),(7,.v (enc l.length)),(8,.v (enc i))],H⟩) (fun i=>i<=l.length/\jq (fun k:fZ=>k.name==s) (l.drop i) i=k0 (fun k=>k.name==s) l) (fun i=>l.length-i) 0 ⟨I9 _,rfl⟩ (by(try simp(disch:=first|exact aq|fail) only[go_sem])<;>(exact bG)) ?_;rintro i ⟨e,a⟩;by_cases ak:i<l.length
 ·rw[fY ak,jq]at a;have b:=@aBh l[i]! s H;cases ao:l[i]!.name==s with
  |true =>
   rw[ao]at b a
   (repeat' first|simp(disch:=first|exact aq|fail) only[go_sem,iV]|(apply av<;>intro)|refine b6 b ?_)
   exact⟨_,rfl,by rw[<-a];rfl⟩
  |false =>
   rw[ao]at b a
   (repeat' first|simp(disch:=first|exact aq|fail) only[go_sem,iV]|(apply av<;>intro)|refine b6 b ?_)
   exact⟨i+1,⟨by omega,a⟩,by omega,by(exact bG)⟩
 ·rw[Ja (by omega),jq]at a
  (repeat' first|simp(disch:=first|exact aq|fail) only[go_sem]|(apply av<;>intro))
  exact⟨_,rfl,by rw[<-a]⟩
def B1:List AV:=(pW.map fun k=>k.enc.cells).flatten
theorem aBj:aB 0=some (.db B1):=rfl
variable {s:an}{d:Nat}{K:an->Prop}{t:aM K}
theorem aBk :bV ν aB D s K t (.qg d (.g 0) 10 4 none none)=c7 s d (.list none 4 (pW.map fZ.enc)) K ⟨⟩:=by
 rw[UZ];rfl
def Pz(s:an)(d n sz:Nat)(cs:List AV)(K:an->Prop)(_:aM K):AV->Prop
 |.int _ k=>if 0<=k/\k<n/\n*sz<=cs.length then c7 s d (.db (cs.drop (k.toNat*sz))) K ⟨⟩else False|_=>False
variable {sz:Nat}
theorem aBl{cs:List AV}{q:IntKind}{k:Int}:Pz s d n sz cs K t (.int q k)=if 0<=k/\k<n/\n*sz<=cs.length then c7 s d (.db (cs.drop (k.toNat*sz))) K ⟨⟩else False:=_root_.id rfl
theorem aBm{i:aI} :bV ν aB D s K t (.nQ d (.g 0) n sz i)=bK (bg aB s.env i) (fun v=>Pz s d n sz B1 K ⟨⟩ v) ⟨⟩:=by
 rw[UR];simp only[aH,eo,aBj];cases bg aB s.env i with
 |none=>rfl|some v=>cases v with
  |int q k =>
   simp only[ec,Pz];by_cases h:0<=k/\k<n/\n*sz<=B1.length
   ·rw[if_pos h,if_pos h];rfl
   ·rw[if_neg h,if_neg h];rfl
  |_=>rfl
attribute [go_sem ↓ 9000] aBk aBm
theorem aBn:∀k:Nat,k<10->(B1.drop (k*4)).take 4=(pW[k]!).enc.cells/\4<=(B1.drop (k*4)).length:=by
 intro k hk
 match k,hk with
 |0,_=>exact⟨rfl,by decide⟩|1,_=>exact⟨rfl,by decide⟩|2,_=>exact⟨rfl,by decide⟩|3,_=>exact⟨rfl,by decide⟩|4,_=>exact⟨rfl,by decide⟩|5,_=>exact⟨rfl,by decide⟩|6,_=>exact⟨rfl,by decide⟩|7,_=>exact⟨rfl,by decide⟩|8,_=>exact⟨rfl,by decide⟩|9,_=>exact⟨rfl,by decide⟩
theorem aBo(s:aj):aF ν aB 104 [enc s] (pe s):=by
 refine aF.intro (D:=gk) atp rfl (by unfold pe;split<;>rfl) ?_;unfold Y7;have b:=aBi (H:=[]) s;cases a:pW.any fun k=>k.name==s with
 |true =>
  obtain⟨k,g,U,o,i⟩:=acv _ pW 0 a;have c:k<10:=g;have e:pe s=.a8 [pW[k]!.enc,.bool true]:=by unfold pe xy;rw[i]
  have ak:k0 (fun k=>k.name==s) pW=(k:Int):=by rw[k0,U];omega
  rw[ak]at b;obtain⟨j,p⟩:=aBn k c;have q:(0:Int)<=(k:Int)/\(k:Int)<((10:Nat):Int)/\10*4<=B1.length:=⟨by omega,by omega,by decide⟩;rw[e]
  (repeat' first|simp(disch:=first|exact aq|fail) only[go_sem,aBl,j]|(apply av<;>intro)|refine b6 b ?_)
 |false =>
  have e:pe s=.a8 [.agg [.str [],.int .i64 0,.bool false,.bool false],.bool false]:=by
   have:xy s=none:=by rw[xy,List.find?_eq_none];intro x ah;rw[List.any_eq_false]at a;exact a x ah
   unfold pe;rw[this]
  have u:¬0<=k0 (fun k=>k.name==s) pW:=fun h=>by rw[k0,Oo,a]at h;cases h
  have m:decide (k0 (fun k=>k.name==s) pW<0)=true:=decide_eq_true (by omega);rw[e]
  (repeat' first|simp(disch:=first|exact aq|fail) only[go_sem,m]|(apply av<;>intro)|refine b6 b ?_)
variable {K:AV->Prop}{tg:aM K}
theorem aBq[bq D gk]{s:aj}[aT x1 s]  :bT ν aB D 104 [x1] K tg=K (pe s):=aA9 (aBo s)
attribute [go_sem ↓ 2000] aBq
theorem aBr(t:I)(hd:Bool)(o:c0 t<=1000000):aF ν aB 76 [enc t,enc hd] (enc (mf t hd)):=by
 refine aF.l9 fun ae=>?_;obtain⟨_,ae,_⟩:=(I.o4 t).1 ae;have p:M=1099511627776:=rfl;refine aF.intro (D:=gk) as0 fp fg ?_;unfold X7;simp(disch:=first|exact aq|fail) only[go_sem];unfold mf;cases a:fo t.name
 ·(repeat' first|simp(disch:=first|exact aq|fail) only[go_sem,a]|(apply av<;>intro))
  all_goals rfl
 ·cases b:lK t
  ·cases j:xy t.name with
   |none =>
    have c:pe t.name=.a8 [.agg [.str [],.int .i64 0,.bool false,.bool false],.bool false]:=by unfold pe;rw[j]
    cases e:me t
    ·by_cases g:4<c0 t
     ·(repeat' first|simp(disch:=first|exact aq|fail) only[go_sem,a,b,c,e]|(apply av<;>intro))
      all_goals simp[g]
     ·(repeat' first|simp(disch:=first|exact aq|fail) only[go_sem,a,b,c,e]|(apply av<;>intro))
      all_goals simp[g]
    ·(repeat' first|simp(disch:=first|exact aq|fail) only[go_sem,a,b,c,e]|(apply av<;>intro))
     all_goals rfl
   |some k =>
    have c:pe t.name=.a8 [k.enc,.bool true]:=by unfold pe;rw[j]
    cases e:me t
    ·by_cases h:(t.args.length:Int)=k.args
     ·by_cases g:4<c0 t
      ·(repeat' first|simp(disch:=first|exact aq|fail) only[go_sem,a,b,c,e,h]|(apply av<;>intro))
       all_goals simp[g,h]
      ·cases hd<;>cases m:k.head<;>cases i:k.body;all_goals (repeat' first|simp(disch:=first|exact aq|fail) only[go_sem,a,b,c,e,h,m,i]|(apply av<;>intro))
       all_goals simp[g,h,m,i]
     ·(repeat' first|simp(disch:=first|exact aq|fail) only[go_sem,a,b,c,e]|(apply av<;>intro))
      all_goals simp[h]
    ·(repeat' first|simp(disch:=first|exact aq|fail) only[go_sem,a,b,c,e]|(apply av<;>intro))
     all_goals rfl
  ·(repeat' first|simp(disch:=first|exact aq|fail) only[go_sem,a,b]|(apply av<;>intro))
   all_goals rfl
theorem aBs[bq D gk]{t:I}[aT x1 t][aT x2 hd](h:c0 t<=1000000) :bT ν aB D 76 [x1,x2] K tg=K (enc (mf t hd)):=aBa (aBr t hd h)
attribute [go_sem ↓ 2000] aBs
theorem aBt(r:aU)(b:r.body.length<=100000):aF ν aB 75 [enc r] (enc (fU r)):=by
 have c:M=1099511627776:=rfl;refine aF.jl (D:=gk) asZ rfl (by first|rfl|exact Enc.res _) (Enc.jP _) ?_;unfold X5
 (repeat' first|simp(disch:=first|exact aq|fail) only[go_sem]|(apply av<;>intro))
 refine b9 (fun i:Nat=>⟨N [(3,.v (.list (some 30) 2 ((r.head::(r.body.take i).map Lit.atom).map I.enc))),(10,.v (.list none 3 (r.body.map Lit.enc))),(11,.v (enc r.body.length)),(12,.v (enc i))],[]⟩) (fun i=>i<=r.body.length) (fun i=>r.body.length-i) 0 (I9 _) (by(try simp(disch:=first|exact aq|fail) only[go_sem])<;>(exact bG)) ?_;intro i ak;by_cases h:i<r.body.length
 ·have a:(r.body.take i).length=i:=by rw[List.length_take];omega
  (repeat' first|simp(disch:=first|exact aq|fail) only[go_sem,a]|(apply av<;>intro))
  exact⟨i+1,by omega,by omega,by(exact bG)⟩
 ·have a:r.body.take i=r.body:=fM (by omega)
  (repeat' first|simp(disch:=first|exact aq|fail) only[go_sem,a]|(apply av<;>intro))
  exact⟨_,rfl,bQ.disown _ _ _⟩
theorem aBu[bq D gk][aT x1 r](h:r.body.length<=100000) :bT ν aB D 75 [x1] K tg=K (enc (fU r)):=aBb (aBt r h)
attribute [go_sem ↓ 2000] aBu
theorem aBv(r:aU)(y:r.body.length<=100000)(z:(cw (fU r)).length<=1000000):aF ν aB 78 [enc r] (enc (rN r)):=by
 have A:M=1099511627776:=rfl;refine aF.intro (D:=gk) as2 fp fg ?_;unfold Yf;simp(disch:=first|exact aq|fail) only[go_sem];refine b9 (fun i:Nat=>⟨N [(3,.v (.list (some 30) 2 ((r.head::((r.body.take i).filter fun l=>!eX l).map Lit.atom).map I.enc))),(4,.v (.list (some 30) 2 ((((r.body.take i).filter eX).map Lit.atom).map I.enc))),(14,.v (.list none 3 (r.body.map Lit.enc))),(15,.v (enc r.body.length)),(16,.v (enc i))],[]⟩) (fun i=>i<=r.body.length) (fun i=>r.body.length-i) 0 (I9 _) (by(try simp(disch:=first|exact aq|fail) only[go_sem])<;>(exact bG)) ?_;intro i ak;by_cases h:i<r.body.length
 ·have b:=IJ (p:=eX) h;have c:=IJ (p:=fun l=>!eX l) h;have B:=IK (p:=eX) (l:=r.body) (i:=i);have C:=IK (p:=fun l=>!eX l) (l:=r.body) (i:=i);have e:eX r.body[i]! = (!r.body[i]!.neg&&!(r.body[i]!.atom.name==[100,105,115,116,105,110,99,116])):=rfl;generalize (r.body.take i).filter eX=c3 at *;generalize (r.body.take i).filter (fun l=>!eX l)=E at *;cases g:r.body[i]!.neg with
  |true =>
   rw[g]at e;simp only[e,Bool.not_true,Bool.false_and,aeZ,if_true,TH,if_false]at b c
   (repeat' first|simp(disch:=first|exact aq|fail) only[go_sem,g]|(apply av<;>intro))
   exact⟨i+1,by omega,by omega,by rw[b,c];(exact bG)⟩
  |false =>
   cases j:r.body[i]!.atom.name==[100,105,115,116,105,110,99,116]with
   |true =>
    rw[g,j]at e;simp only[e,Bool.not_true,Bool.and_false,aeZ,if_true,TH,if_false]at b c
    (repeat' first|simp(disch:=first|exact aq|fail) only[go_sem,g,j]|(apply av<;>intro))
    exact⟨i+1,by omega,by omega,by rw[b,c];(exact bG)⟩
   |false =>
    rw[g,j]at e;simp only[e,Bool.not_true,Bool.and_self,aeZ,if_true,TH,if_false]at b c
    (repeat' first|simp(disch:=first|exact aq|fail) only[go_sem,g,j]|(apply av<;>intro))
    exact⟨i+1,by omega,by omega,by rw[b,c];(exact bG)⟩
 ·have o:r.body.take i=r.body:=fM (by omega);rw[o];have u:(r.head::(r.body.filter fun l=>!eX l).map Lit.atom)=zm r:=rfl;have w:(r.body.filter eX).map Lit.atom=Eu r:=rfl;rw[u,w];have G:(cw (zm r)).length<=1000000:=by have:=aAO r;omega
  have J:(cw (Eu r)).length<=1000000:=by have:=aAP r;omega
  (repeat' first|simp(disch:=first|exact aq|fail) only[go_sem]|(apply av<;>intro))
  have x:=aAQ (zm r);obtain⟨V,m⟩:∃V,V=nD (zm r):=⟨_,rfl⟩;obtain⟨W,q⟩:∃W,W=nD (Eu r):=⟨_,rfl⟩;have az:rN r=V.all fun v=>W.contains v:=by rw[m,q];rfl
  rw[az,<-m,<-q];rw[<-m]at x;refine b9 (fun i:Nat=>⟨N [(7,.v (.list none 1 (W.map AV.str))),(42,.v (.list none 1 (V.map AV.str))),(43,.v (enc V.length)),(44,.v (enc i))],[]⟩) (fun i=>i<=V.length/\((V.drop i).all fun v=>W.contains v)=V.all fun v=>W.contains v) (fun i=>V.length-i) 0 ⟨I9 _,rfl⟩ (by(try simp(disch:=first|exact aq|fail) only[go_sem])<;>(exact bG)) ?_;clear h ak o;rintro i ⟨L,a⟩;by_cases h:i<V.length
  ·rw[fY h,List.all_cons]at a;cases k:W.contains V[i]! with
   |true =>
    rw[k,Bool.true_and]at a
    (repeat' first|simp(disch:=first|exact aq|fail) only[go_sem,k]|(apply av<;>intro))
    exact⟨i+1,⟨by omega,a⟩,by omega,by(exact bG)⟩
   |false =>
    rw[k,Bool.false_and]at a
    (repeat' first|simp(disch:=first|exact aq|fail) only[go_sem,k]|(apply av<;>intro))
    show some (AV.bool _)=some (AV.bool _);rw[<-a]
  ·rw[Ja (by omega)]at a
   (repeat' first|simp(disch:=first|exact aq|fail) only[go_sem]|(apply av<;>intro))
   show some (AV.bool _)=some (AV.bool _);rw[<-a];rfl
theorem aBw[bq D gk][aT x1 r](h:r.body.length<=100000/\(cw (fU r)).length<=1000000) :bT ν aB D 78 [x1] K tg=K (enc (rN r)):=aBc (aBv r h.1 h.2)
attribute [go_sem ↓ 2000] aBw
theorem PB(r:aU)(w:∀a∈fU r,c0 a<=1000000):aF ν aB 46 [enc r] (enc (h6 r)):=by
 have Q:M=1099511627776:=rfl;refine aF.intro (D:=gk) asJ fp fg ?_;unfold W6;simp(disch:=first|exact aq|fail) only[go_sem];by_cases g:8<r.body.length
 ·have x:h6 r=2:=if_pos g;rw[x]
  (repeat' first|simp(disch:=first|exact aq|fail) only[go_sem]|(apply av<;>intro))
  all_goals rfl
 ·have j:r.body.length<=100000:=by omega
  obtain⟨L,cg⟩:∃L,L=fU r:=⟨_,rfl⟩;have y:L.length<=9:=by rw[cg];simp only[fU,List.length_cons,List.length_map];omega
  have z:rO L true≠0->h6 r=rO L true:=fun h=>by rw[h6,if_neg g,<-cg,if_pos h]
  (repeat' first|simp(disch:=first|exact aq|fail) only[go_sem]|(apply av<;>intro))
  rw[<-cg];refine b9 (fun i:Nat=>⟨N [(1,.v (.db r.enc.cells)),(3,.v (.list none 2 (L.map I.enc))),(14,.v (.list none 2 (L.map I.enc))),(15,.v (enc L.length)),(16,.v (enc i))],[]⟩) (fun i=>i<=L.length/\rO (L.drop i) ((i:Int)==0)=rO L true) (fun i=>L.length-i) 0 ⟨I9 _,rfl⟩ (by(try simp(disch:=first|exact aq|fail) only[go_sem])<;>(exact bG)) ?_;rintro i ⟨R,c⟩;by_cases h:i<L.length
  ·have S:=w _ (by rw[<-cg];exact ft h);rw[fY h,rO]at c;have A:(((i:Int)+1)==0)=false:=by have:=aer (n:=i+1) (by omega);rwa[show((i+1:Nat):Int)=(i:Int)+1 by omega]at this
   by_cases he:mf L[i]! ((i:Int)==0)=0
   ·rw[if_pos he]at c;have k:((mf L[i]! ((i:Int)==0):Nat):Int)=0:=by omega
    (repeat' first|simp(disch:=first|exact aq|fail) only[go_sem,k]|(apply av<;>intro))
    exact⟨i+1,⟨by omega,by rw[show((i+1:Nat):Int)=(i:Int)+1 by omega,A];exact c⟩,by omega,by(exact bG)⟩
   ·rw[if_neg he]at c;have k:((mf L[i]! ((i:Int)==0):Nat):Int)≠0:=by omega
    (repeat' first|simp(disch:=first|exact aq|fail) only[go_sem]|(apply av<;>intro))
    show some (AV.int _ _)=some (AV.int _ _);rw[z (by rw[<-c];exact he),c]
  ·rw[Ja (by omega),rO]at c;have B:=fun a(aE:a∈L)=>(Pa c.symm a aE);have C:(cw L).length<=1000000:=by
    have T:=IQ (b:=256) L fun u E=>by obtain⟨_,q⟩:=B u E;exact IS (n:=4) (adQ q).1
    have U:L.length*256<=9*256:=Nat.mul_le_mul_right _ y;omega
   have G:r.body.length<=100000/\(cw (fU r)).length<=1000000:=⟨j,by rw[<-cg];exact C⟩;have J:h6 r=if 5<(nD L).length then 11 else if !rN r then 7 else if r.head.name==BF&&(decide (0<r.body.length)||decide (0<r.head.args[0]!.args.length)||!fo r.head.args[0]!.name)then 8 else 0:=by
    rw[h6,if_neg g,<-cg,if_neg (by rw[<-c];simp)]
   rw[J];by_cases m:5<(nD L).length
   ·rw[if_pos m]
    (repeat' first|simp(disch:=first|exact aq|fail) only[go_sem]|(apply av<;>intro))
    all_goals rfl
   ·rw[if_neg m];cases az:rN r with
    |false =>
     (repeat' first|simp(disch:=first|exact aq|fail) only[go_sem,az]|(apply av<;>intro))
     all_goals rfl
    |true =>
     cases e:r.head.name==[114,111,108,101]with
     |false =>
      (repeat' first|simp(disch:=first|exact aq|fail) only[go_sem,az,e]|(apply av<;>intro))
      all_goals simp[BF,e]
     |true =>
      have V:r.head.args.length=1:=by
       have O:mf r.head true=0:=by
        have:L=r.head::r.body.map Lit.atom:=cg;rw[this,rO]at c;by_cases ah:mf r.head true=0
        ·exact ah
        ·rw[if_neg ah]at c;exact c.symm
       exact aAR O (beq_iff_eq.1 e)
      have W:0<r.head.args.length:=by omega
      have P:(r.head.name==BF)=true:=e;rw[P];by_cases o:0<r.body.length
      ·rw[decide_eq_true o]
       (repeat' first|simp(disch:=first|exact aq|fail) only[go_sem,az,e]|(apply av<;>intro))
       all_goals rfl
      ·rw[decide_eq_false o];by_cases p:0<r.head.args[0]!.args.length
       ·rw[decide_eq_true p]
        (repeat' first|simp(disch:=first|exact aq|fail) only[go_sem,az,e]|(apply av<;>intro))
        all_goals rfl
       ·rw[decide_eq_false p];cases v:fo r.head.args[0]!.name
        ·(repeat' first|simp(disch:=first|exact aq|fail) only[go_sem,az,e,v]|(apply av<;>intro))
         all_goals rfl
        ·(repeat' first|simp(disch:=first|exact aq|fail) only[go_sem,az,e,v]|(apply av<;>intro))
         all_goals rfl
end AM
