/- What functions of the given program do, as calls of the machine. Conditions: names and lists are bounded where that is said. -/
import Derived.Test.YtanepioeppghhaaGreatDoorE29
import Derived.Test.YtanepioeppghhaaGreatDoorAm20
import Derived.Test.YtanepioeppghhaaGreatDoorW1
import Derived.Test.YtanepioeppghhaaGreatDoorT1
set_option linter.unusedSimpArgs false
set_option maxRecDepth 100000
set_option maxHeartbeats 4000000
set_option linter.unusedVariables false
namespace AM
open List renaming length_map -> aKg,map_cons -> aKh,take_zero -> aKi,map_append -> aKj,foldr_cons -> aKk,foldr_nil -> aKl,map_nil -> aKp,length_append -> aKr,drop_eq_nil_of_le -> aKt,length_cons -> aKu,length_nil -> aKw,all_cons -> aKz,all_nil -> aKA,length_set -> aKD,all_eq_true -> aKE,length_take -> aKH,getElem?_cons_zero -> aKK,set_cons_zero -> aKL,mem_cons_of_mem -> aKM,filterMap_nil -> aKN,append_nil -> aKO,length_filterMap_le -> aKP,take_length -> aKQ
open Int renaming natCast_add -> aKm,natCast_one -> aKn,natCast_zero -> aKo,lt_or_le -> aKJ
open Nat renaming lt_or_ge -> aKq,zero_le -> aKs,le_refl -> aKC
open Bool renaming false_and -> aKv,and_eq_true -> aKx,true_and -> aKy,and_self -> aKB,false_eq_true -> aKF,eq_iff_iff -> aKG,false_or -> aKI
open Go Go.Proofs
open Tryz renaming prog -> ν
open Enc (enc)
def oA(fP:Bool)(out:List (List ba)):List AV:=if fP then[.aV 3]else out.map enc
def pg(fP:Bool):Option Nat:=if fP then some 80 else none
theorem k7(a:Bool)(sz:Nat)(xs:List AV):AV.aW (.list (pg a) sz xs)=.list none sz xs:=by cases a<;>rfl
variable {fP:Bool}{out:List (List ba)}
theorem Qs(h:fP=true->out=[[]]):(oA fP out).length=out.length:=by
 cases fP with
 |true=>rw[h rfl];rfl|false=>simp[oA]
variable {k:Nat}
theorem Qt(h:fP=true->out=[[]])(hk:k<out.length):(oA fP out)[k]?=some (if fP then .aV 3 else enc out[k]!):=by
 cases fP with
 |true =>
  have:=h rfl;subst this;obtain rfl:k=0:=by simpa using hk
  rfl
 |false=>simp[oA,hk]
variable {a:I}{s:List ba}{A:List I}
theorem aDA{j:Nat}(h:j<A.length)(b:List (List ba))(left:Int):kg a s (A.drop j) b left=if A[j]!.name != a.name||decide (A[j]!.args.length≠a.args.length)then kg a s (A.drop (j+1)) b left
  else if decide (left-1<0)||decide ((if(eO a A[j]! s).2 then b++[(eO a A[j]! s).1]else b).length>5000)then none
  else kg a s (A.drop (j+1)) (if(eO a A[j]! s).2 then b++[(eO a A[j]! s).1]else b) (left-1):=by
 rw[fY h,kg]
def gu(H:List ax)(w:Nat)(left:Int):List ax:=H.set w (.cells [.int .i64 left])
variable {H:List ax}{left:Int}
theorem Qu{w:Nat}(h:w<H.length):(gu H w left)[w]?=some (.cells [.int .i64 left]):=by simp[gu,h]
theorem Fj(H:List ax)(w:Nat)(l b:Int):(gu H w l).set w (.cells [.int .i64 b])=gu H w b:=by simp[gu]
def Qv(H:List ax)(w:Nat)(R:Option (List (List ba)×Int))(r:AV)(H':List ax):Prop:=match R with
 |none=>r=.a8 [.aV 1,.bool false]/\∃l,H'=gu H w l|some (out,l)=>(∃fP,(fP=true->out=[[]])/\r=.a8 [.list none 1 (oA fP out),.bool true])/\H'=gu H w l
def Qw(H:List ax)(w:Nat)(jt:AV)(A:List I):Prop:=(jt=.aV 2/\A=[])\/∃id,jt=.bs id 0 A.length 2/\H[id]?=some (.buf 32 (cM A))/\id≠w
theorem aDB{w:Nat}{L:AV}(B:List Lit)(A:List I)(hw:H[w]?=some (.cells [.int .i64 left]))(rk:Qw H w L A)(aD:0<=left/\left<=1000000)(fl:B.length<=8)(afP:∀x∈B,(dG x.atom).length<=1000)(cq:A.length<=M) :
  bn ν aB 39 [.ptr w 0,enc B,L] H (Qv H w (j2 A B [[]] left)):=by
 have dh:M=1099511627776:=rfl;have aDC:=dd hw;have xM:gu H w left=H:=by rw[gu];exact zr hw
 obtain⟨R,dN⟩:∃R,R=j2 A B [[]] left:=⟨_,rfl⟩;rw[<-dN];rcases rk with⟨b,FN⟩|⟨id,b,bM,cc⟩
 ·have BZ:A.length=0:=by rw[FN];rfl
  have g:(A.length:Int)=0:=by omega
  refine bn.intro (D:=fV) aan ?_;unfold M0
  (repeat' first|simp(disch:=first|exact aq|fail) only[go_sem,b]|(apply av<;>intro))
  refine b9 (fun q:Nat×Bool×List (List ba)×Int=>⟨N [(0,.v (.ptr w 0)),(1,.v (enc B)),(2,.v L),(8,.v (.list (pg q.2.1) 1 (oA q.2.1 q.2.2.1))),(18,.v (enc B.length)),(19,.v (enc q.1))],gu H w q.2.2.2⟩)
   (fun q=>q.1<=B.length/\(q.2.1=true->q.2.2.1=[[]])/\(0<=q.2.2.2/\q.2.2.2<=1000000)/\q.2.2.1.length<=5000/\p8 (1000*q.1) q.2.2.1/\j2 A (B.drop q.1) q.2.2.1 q.2.2.2=R) (fun q=>B.length-q.1) (0,true,[[]],left) ⟨aKs _,fun _=>rfl,aD,by simp,fun s az=>by simp at az;rw[az];simp,dN.symm⟩ (by(try simp(disch:=first|exact aq|fail) only[go_sem,b])<;>(first|rfl|(simp(disch:=first|exact a6|fail) only[cj,aKk,aKl,Env.ins,go_sem,xM,oA,pg];try rfl))) ?_
  rintro⟨i,fP,out,z⟩ ⟨i1,m,C,T,E,e⟩;simp only at i1 m C T E e;have BO:=Qs m;rcases aKq i B.length with ak|ak
  ·obtain⟨x,ah⟩:∃x,x=B[i]!:=⟨_,rfl⟩;have na:=afP B[i]! (ft ak);rw[<-ah]at na;rw[fY ak,j2,<-ah]at e;cases n:(x.neg||x.atom.name==hW)with
   |true =>
    rw[n,if_pos rfl]at e;cases o:x.neg with
    |true =>
     (repeat' first|simp(disch:=first|exact aq|fail) only[go_sem,b,<-ah,o]|(apply av<;>intro))
     exact⟨(i+1,fP,out,z),⟨by simp only;omega,m,C,T,fun s az=>by have:=E s az;simp only;omega,e⟩,by simp only;omega,by(first|rfl|(simp(disch:=first|exact a6|fail) only[cj,aKk,aKl,Env.ins,aKm,aKn,go_sem];try rfl))⟩
    |false =>
     have p:(x.atom.name==[100,105,115,116,105,110,99,116])=true:=by rw[o,aKI]at n;exact n
     (repeat' first|simp(disch:=first|exact aq|fail) only[go_sem,b,<-ah,o,p]|(apply av<;>intro))
     exact⟨(i+1,fP,out,z),⟨by simp only;omega,m,C,T,fun s az=>by have:=E s az;simp only;omega,e⟩,by simp only;omega,by(first|rfl|(simp(disch:=first|exact a6|fail) only[cj,aKk,aKl,Env.ins,aKm,aKn,go_sem];try rfl))⟩
   |false =>
    rw[n,if_neg (by simp)]at e;simp only[Bool.or_eq_false_iff]at n;obtain⟨o,p⟩:=n;have p:(x.atom.name==[100,105,115,116,105,110,99,116])=false:=p
    (repeat' first|simp(disch:=first|exact aq|fail) only[go_sem,b,k7,<-ah,o,p]|(apply av<;>intro))
    obtain⟨Y,gp⟩:∃Y,Y=lQ x.atom A out [] z:=⟨_,rfl⟩;rw[<-gp]at e;refine b9 (fun q:Nat×List (List ba)×Int=>⟨N [(0,.v (.ptr w 0)),(1,.v (enc B)),(2,.v L),(8,.v (.list (pg fP) 1 (oA fP out))),(10,.b [.str x.atom.name,.list none 2 (x.atom.args.map I.enc)]),(11,.v (.list (some 80) 1 (q.2.1.map enc))),(18,.v (enc B.length)),(19,.v (enc i)),(38,.v (enc out.length)),(39,.v (enc q.1))],gu H w q.2.2⟩)
     (fun q=>q.1<=out.length/\(0<=q.2.2/\q.2.2<=1000000)/\q.2.1.length<=5000/\p8 (1000*(i+1)) q.2.1/\lQ x.atom A (out.drop q.1) q.2.1 q.2.2=Y) (fun q=>out.length-q.1) (0,[],z) ⟨aKs _,C,by simp,fun s az=>by simp at az,gp.symm⟩ (by(try simp(disch:=first|exact aq|fail) only[go_sem,b])<;>(first|rfl|(simp(disch:=first|exact a6|fail) only[cj,aKk,aKl,Env.ins,go_sem,BO];try rfl))) ?_
    rintro⟨k,U,V⟩ ⟨cY,W,eU,gS,f⟩;simp only at cY W eU gS f;rcases aKq k out.length with hk|hk
    ·have r:=Qt m hk;obtain⟨s,az⟩:∃s,s=out[k]!:=⟨_,rfl⟩;have rf:=E out[k]! (ft hk);rw[<-az]at r rf;rw[fY hk,lQ,<-az]at f;obtain⟨Z,rM⟩:∃Z,Z=kg x.atom s A U V:=⟨_,rfl⟩;rw[<-rM]at f;have hq:s.length+(dG x.atom).length<=1000000:=by omega
     have Qx:∀t,(eO x.atom t s).1.length<=1000*(i+1):=fun t=>by have:=Fi x.atom t s;omega
     obtain⟨v,s6⟩:∃v,v=(if fP then AV.aV 3 else enc s):=⟨_,rfl⟩;rw[<-s6]at r;have s7:(v=.aV 3/\s=[])\/v=.list none 3 (s.map ba.enc):=by
      cases fP with
      |true =>
       refine .inl ⟨s6,?_⟩;have:=m rfl;rw[az,this];obtain rfl:k=0:=by rw[this]at hk;simpa using hk
       rfl
      |false=>exact .inr s6
     (repeat' first|simp(disch:=first|exact aq|fail) only[go_sem,b]|(apply av<;>intro))
     refine b9 (fun q:Nat×List (List ba)×Int=>⟨N [(0,.v (.ptr w 0)),(1,.v (enc B)),(2,.v L),(8,.v (.list (pg fP) 1 (oA fP out))),(10,.b [.str x.atom.name,.list none 2 (x.atom.args.map I.enc)]),(11,.v (.list (some 80) 1 (q.2.1.map enc))),(12,.v (enc k)),(18,.v (enc B.length)),(19,.v (enc i)),(38,.v (enc out.length)),(39,.v (enc k)),(43,.v (enc A.length)),(44,.v (enc q.1))],gu H w q.2.2⟩)
      (fun q=>q.1<=A.length/\(0<=q.2.2/\q.2.2<=1000000)/\q.2.1.length<=5000/\p8 (1000*(i+1)) q.2.1/\kg x.atom s (A.drop q.1) q.2.1 q.2.2=Z) (fun q=>A.length-q.1) (0,U,V) ⟨aKs _,W,eU,gS,rM.symm⟩ (by(try simp(disch:=first|exact aq|fail) only[go_sem,b,g])<;>(first|rfl|(simp(disch:=first|exact a6|fail) only[cj,aKk,aKl,Env.ins,go_sem];try rfl))) ?_
     rintro⟨j,y,F⟩ ⟨dM,dx,O,G,c⟩;simp only at dM dx O G c;rcases aKq j A.length with aZ|aZ
     ·exfalso;omega
     ·rw[aKt aZ,kg]at c;rw[<-c]at f
      (repeat' first|simp(disch:=first|exact aq|fail) only[go_sem,b,g]|(apply av<;>intro))
      exact⟨(k+1,y,F),⟨by simp only;omega,dx,O,G,f⟩,by simp only;omega,by(first|rfl|(simp(disch:=first|exact a6|fail) only[cj,aKk,aKl,Env.ins,aKm,aKn,go_sem];try rfl))⟩
    ·rw[aKt hk,lQ]at f;rw[<-f]at e
     (repeat' first|simp(disch:=first|exact aq|fail) only[go_sem,b]|(apply av<;>intro))
     exact⟨(i+1,false,U,V),⟨by simp only;omega,fun h=>(by cases h),W,eU,gS,e⟩,by simp only;omega,by(first|rfl|(simp(disch:=first|exact a6|fail) only[cj,aKk,aKl,Env.ins,aKm,aKn,go_sem,oA,pg,aKF];try rfl))⟩
  ·rw[aKt ak,j2]at e;rw[<-e];have Qy:pg true=some 80:=rfl;have Qz:pg false=none:=rfl;cases fP with
   |true =>
    (repeat' first|simp(disch:=first|exact aq|fail) only[go_sem,b,Qy]|(apply av<;>intro))
    exact⟨_,rfl,⟨true,m,rfl⟩,rfl⟩
   |false =>
    (repeat' first|simp(disch:=first|exact aq|fail) only[go_sem,b,Qz]|(apply av<;>intro))
    exact⟨_,rfl,⟨false,m,rfl⟩,rfl⟩
 ·have d:∀l,(gu H w l)[id]?=some (.buf 32 (cM A)):=fun l=>by rw[gu,b5 (Ne.symm cc)];exact bM
  refine bn.intro (D:=fV) aan ?_;unfold M0
  (repeat' first|simp(disch:=first|exact aq|fail) only[go_sem,b]|(apply av<;>intro))
  refine b9 (fun q:Nat×Bool×List (List ba)×Int=>⟨N [(0,.v (.ptr w 0)),(1,.v (enc B)),(2,.v L),(8,.v (.list (pg q.2.1) 1 (oA q.2.1 q.2.2.1))),(18,.v (enc B.length)),(19,.v (enc q.1))],gu H w q.2.2.2⟩)
   (fun q=>q.1<=B.length/\(q.2.1=true->q.2.2.1=[[]])/\(0<=q.2.2.2/\q.2.2.2<=1000000)/\q.2.2.1.length<=5000/\p8 (1000*q.1) q.2.2.1/\j2 A (B.drop q.1) q.2.2.1 q.2.2.2=R) (fun q=>B.length-q.1) (0,true,[[]],left) ⟨aKs _,fun _=>rfl,aD,by simp,fun s az=>by simp at az;rw[az];simp,dN.symm⟩ (by(try simp(disch:=first|exact aq|fail) only[go_sem,b])<;>(first|rfl|(simp(disch:=first|exact a6|fail) only[cj,aKk,aKl,Env.ins,go_sem,xM,oA,pg];try rfl))) ?_
  rintro⟨i,fP,out,z⟩ ⟨i1,m,C,T,E,e⟩;simp only at i1 m C T E e;have BO:=Qs m;rcases aKq i B.length with ak|ak
  ·obtain⟨x,ah⟩:∃x,x=B[i]!:=⟨_,rfl⟩;have na:=afP B[i]! (ft ak);rw[<-ah]at na;rw[fY ak,j2,<-ah]at e;cases n:(x.neg||x.atom.name==hW)with
   |true =>
    rw[n,if_pos rfl]at e;cases o:x.neg with
    |true =>
     (repeat' first|simp(disch:=first|exact aq|fail) only[go_sem,b,<-ah,o]|(apply av<;>intro))
     exact⟨(i+1,fP,out,z),⟨by simp only;omega,m,C,T,fun s az=>by have:=E s az;simp only;omega,e⟩,by simp only;omega,by(first|rfl|(simp(disch:=first|exact a6|fail) only[cj,aKk,aKl,Env.ins,aKm,aKn,go_sem];try rfl))⟩
    |false =>
     have p:(x.atom.name==[100,105,115,116,105,110,99,116])=true:=by rw[o,aKI]at n;exact n
     (repeat' first|simp(disch:=first|exact aq|fail) only[go_sem,b,<-ah,o,p]|(apply av<;>intro))
     exact⟨(i+1,fP,out,z),⟨by simp only;omega,m,C,T,fun s az=>by have:=E s az;simp only;omega,e⟩,by simp only;omega,by(first|rfl|(simp(disch:=first|exact a6|fail) only[cj,aKk,aKl,Env.ins,aKm,aKn,go_sem];try rfl))⟩
   |false =>
    rw[n,if_neg (by simp)]at e;simp only[Bool.or_eq_false_iff]at n;obtain⟨o,p⟩:=n;have p:(x.atom.name==[100,105,115,116,105,110,99,116])=false:=p
    (repeat' first|simp(disch:=first|exact aq|fail) only[go_sem,b,k7,<-ah,o,p]|(apply av<;>intro))
    obtain⟨Y,gp⟩:∃Y,Y=lQ x.atom A out [] z:=⟨_,rfl⟩;rw[<-gp]at e;refine b9 (fun q:Nat×List (List ba)×Int=>⟨N [(0,.v (.ptr w 0)),(1,.v (enc B)),(2,.v L),(8,.v (.list (pg fP) 1 (oA fP out))),(10,.b [.str x.atom.name,.list none 2 (x.atom.args.map I.enc)]),(11,.v (.list (some 80) 1 (q.2.1.map enc))),(18,.v (enc B.length)),(19,.v (enc i)),(38,.v (enc out.length)),(39,.v (enc q.1))],gu H w q.2.2⟩)
     (fun q=>q.1<=out.length/\(0<=q.2.2/\q.2.2<=1000000)/\q.2.1.length<=5000/\p8 (1000*(i+1)) q.2.1/\lQ x.atom A (out.drop q.1) q.2.1 q.2.2=Y) (fun q=>out.length-q.1) (0,[],z) ⟨aKs _,C,by simp,fun s az=>by simp at az,gp.symm⟩ (by(try simp(disch:=first|exact aq|fail) only[go_sem,b])<;>(first|rfl|(simp(disch:=first|exact a6|fail) only[cj,aKk,aKl,Env.ins,go_sem,BO];try rfl))) ?_
    rintro⟨k,U,V⟩ ⟨cY,W,eU,gS,f⟩;simp only at cY W eU gS f;rcases aKq k out.length with hk|hk
    ·have r:=Qt m hk;obtain⟨s,az⟩:∃s,s=out[k]!:=⟨_,rfl⟩;have rf:=E out[k]! (ft hk);rw[<-az]at r rf;rw[fY hk,lQ,<-az]at f;obtain⟨Z,rM⟩:∃Z,Z=kg x.atom s A U V:=⟨_,rfl⟩;rw[<-rM]at f;have hq:s.length+(dG x.atom).length<=1000000:=by omega
     have Qx:∀t,(eO x.atom t s).1.length<=1000*(i+1):=fun t=>by have:=Fi x.atom t s;omega
     obtain⟨v,s6⟩:∃v,v=(if fP then AV.aV 3 else enc s):=⟨_,rfl⟩;rw[<-s6]at r;have s7:(v=.aV 3/\s=[])\/v=.list none 3 (s.map ba.enc):=by
      cases fP with
      |true =>
       refine .inl ⟨s6,?_⟩;have:=m rfl;rw[az,this];obtain rfl:k=0:=by rw[this]at hk;simpa using hk
       rfl
      |false=>exact .inr s6
     (repeat' first|simp(disch:=first|exact aq|fail) only[go_sem,b]|(apply av<;>intro))
     refine b9 (fun q:Nat×List (List ba)×Int=>⟨N [(0,.v (.ptr w 0)),(1,.v (enc B)),(2,.v L),(8,.v (.list (pg fP) 1 (oA fP out))),(10,.b [.str x.atom.name,.list none 2 (x.atom.args.map I.enc)]),(11,.v (.list (some 80) 1 (q.2.1.map enc))),(12,.v (enc k)),(18,.v (enc B.length)),(19,.v (enc i)),(38,.v (enc out.length)),(39,.v (enc k)),(43,.v (enc A.length)),(44,.v (enc q.1))],gu H w q.2.2⟩)
      (fun q=>q.1<=A.length/\(0<=q.2.2/\q.2.2<=1000000)/\q.2.1.length<=5000/\p8 (1000*(i+1)) q.2.1/\kg x.atom s (A.drop q.1) q.2.1 q.2.2=Z) (fun q=>A.length-q.1) (0,U,V) ⟨aKs _,W,eU,gS,rM.symm⟩ (by(try simp(disch:=first|exact aq|fail) only[go_sem,b])<;>(first|rfl|(simp(disch:=first|exact a6|fail) only[cj,aKk,aKl,Env.ins,go_sem];try rfl))) ?_
     rintro⟨j,y,F⟩ ⟨dM,dx,O,G,c⟩;simp only at dM dx O G c;rcases aKq j A.length with aZ|aZ
     ·rw[aDA aZ]at c;obtain⟨t,P⟩:∃t,t=A[j]!:=⟨_,rfl⟩;rw[<-P]at c;have py:((t.args.length:Int) != (x.atom.args.length:Int))=decide (t.args.length≠x.atom.args.length):=by rw[aKG];simp;omega
      cases J:t.name==x.atom.name with
      |false =>
       have QA:(t.name != x.atom.name)=true:=by rw[bne,J];rfl
       rw[QA,Bool.true_or,if_pos rfl]at c
       (repeat' first|simp(disch:=first|exact aq|fail) only[go_sem,b,d,<-P,J]|(apply av<;>intro))
       exact⟨(j+1,y,F),⟨by simp only;omega,dx,O,G,c⟩,by simp only;omega,by(first|rfl|(simp(disch:=first|exact a6|fail) only[cj,aKk,aKl,Env.ins,aKm,aKn,go_sem];try rfl))⟩
      |true =>
       have QA:(t.name != x.atom.name)=false:=by rw[bne,J];rfl
       rw[QA,aKI]at c;cases Q:decide (t.args.length≠x.atom.args.length)with
       |true =>
        rw[Q,if_pos rfl]at c
        (repeat' first|simp(disch:=first|exact aq|fail) only[go_sem,b,d,<-P,J,py,Q]|(apply av<;>intro))
        exact⟨(j+1,y,F),⟨by simp only;omega,dx,O,G,c⟩,by simp only;omega,by(first|rfl|(simp(disch:=first|exact a6|fail) only[cj,aKk,aKl,Env.ins,aKm,aKn,go_sem];try rfl))⟩
       |false =>
        rw[Q,if_neg (by simp)]at c;have hd:=aDw x.atom t s hq;have PI:=Qx t;obtain⟨X,bp⟩:∃X,X=eO x.atom t s:=⟨_,rfl⟩;rw[<-bp]at c hd PI;have Fk:=fun l=>Qu (left:=l) aDC;have S:∀{K:AV->Prop}{tg:aM K},bT ν aB fV 72 [x.atom.enc,t.enc,v] K tg=K (wj X):=fun{K tg}=>by
         rw[bp]at hd ⊢;rcases s7 with⟨rfl,rfl⟩|rfl
         ·exact Qo (D:=fV) (K:=K) (tg:=tg) (x1:=x.atom.enc) (x2:=t.enc) (x3:=.aV 3) hd
         ·exact Qo (D:=fV) (K:=K) (tg:=tg) (x1:=x.atom.enc) (x2:=t.enc) (x3:=enc s) hd
        simp only[wj]at S;cases cn:X.2 with
        |true =>
         rw[cn]at c S;simp only[if_true,aKr,aKu,aKw]at c;have n0:p8 (1000*(i+1)) (y++[X.1]):=fun u hu=>by
          rcases List.mem_append.1 hu with hu|hu
          ·exact G u hu
          ·rw[List.mem_singleton]at hu;rw[hu];exact PI
         rcases aKJ (F-1) 0 with g1|g1
         ·rw[decide_eq_true g1,Bool.true_or,if_pos rfl]at c;rw[<-c]at f;rw[<-f]at e;rw[<-e];rcases s7 with⟨rfl,_⟩|rfl
          all_goals
           (repeat' first|simp(disch:=first|exact aq|fail) only[go_sem,b,d,k7,<-P,J,py,Q,S,r,Fk,Fj,aKg,aKu,aKw]|(apply av<;>intro))
           exact⟨_,rfl,rfl,_,rfl⟩
         ·rw[decide_eq_false (by omega),aKI]at c;rcases aKq 5000 (y.length+(0+1))with g2|g2
          ·rw[decide_eq_true g2,if_pos rfl]at c;rw[<-c]at f;rw[<-f]at e;rw[<-e];rcases s7 with⟨rfl,_⟩|rfl
           all_goals
            (repeat' first|simp(disch:=first|exact aq|fail) only[go_sem,b,d,k7,<-P,J,py,Q,S,r,Fk,Fj,aKg,aKr,aKu,aKw]|(apply av<;>intro))
            exact⟨_,rfl,rfl,_,rfl⟩
          ·rw[decide_eq_false (by omega),if_neg (by simp)]at c;rcases s7 with⟨rfl,_⟩|rfl
           all_goals
            (repeat' first|simp(disch:=first|exact aq|fail) only[go_sem,b,d,k7,<-P,J,py,Q,S,r,Fk,Fj,aKg,aKr,aKu,aKw]|(apply av<;>intro))
            exact⟨(j+1,y++[X.1],F-1),⟨by simp only;omega,by simp only;omega,by simp only[aKr,aKu,aKw];omega,n0,c⟩,by simp only;omega,by(first|rfl|(simp(disch:=first|exact a6|fail) only[cj,aKk,aKl,Env.ins,aKm,aKn,aKj,aKh,aKp,go_sem];try rfl))⟩
        |false =>
         rw[cn]at c S;simp only[aKF,if_false]at c;rw[decide_eq_false (show ¬y.length>5000 by omega),Bool.or_false]at c;rcases aKJ (F-1) 0 with g1|g1
         ·rw[decide_eq_true g1,if_pos rfl]at c;rw[<-c]at f;rw[<-f]at e;rw[<-e];rcases s7 with⟨rfl,_⟩|rfl
          all_goals
           (repeat' first|simp(disch:=first|exact aq|fail) only[go_sem,b,d,k7,<-P,J,py,Q,S,r,Fk,Fj,aKg,aKu,aKw]|(apply av<;>intro))
           exact⟨_,rfl,rfl,_,rfl⟩
         ·rw[decide_eq_false (by omega),if_neg (by simp)]at c;rcases s7 with⟨rfl,_⟩|rfl
          all_goals
           (repeat' first|simp(disch:=first|exact aq|fail) only[go_sem,b,d,k7,<-P,J,py,Q,S,r,Fk,Fj,aKg,aKu,aKw]|(apply av<;>intro))
           exact⟨(j+1,y,F-1),⟨by simp only;omega,by simp only;omega,O,G,c⟩,by simp only;omega,by(first|rfl|(simp(disch:=first|exact a6|fail) only[cj,aKk,aKl,Env.ins,aKm,aKn,go_sem];try rfl))⟩
     ·rw[aKt aZ,kg]at c;rw[<-c]at f
      (repeat' first|simp(disch:=first|exact aq|fail) only[go_sem,b]|(apply av<;>intro))
      exact⟨(k+1,y,F),⟨by simp only;omega,dx,O,G,f⟩,by simp only;omega,by(first|rfl|(simp(disch:=first|exact a6|fail) only[cj,aKk,aKl,Env.ins,aKm,aKn,go_sem];try rfl))⟩
    ·rw[aKt hk,lQ]at f;rw[<-f]at e
     (repeat' first|simp(disch:=first|exact aq|fail) only[go_sem,b]|(apply av<;>intro))
     exact⟨(i+1,false,U,V),⟨by simp only;omega,fun h=>(by cases h),W,eU,gS,e⟩,by simp only;omega,by(first|rfl|(simp(disch:=first|exact a6|fail) only[cj,aKk,aKl,Env.ins,aKm,aKn,go_sem,oA,pg,aKF];try rfl))⟩
  ·rw[aKt ak,j2]at e;rw[<-e];have Qy:pg true=some 80:=rfl;have Qz:pg false=none:=rfl;cases fP with
   |true =>
    (repeat' first|simp(disch:=first|exact aq|fail) only[go_sem,b,Qy]|(apply av<;>intro))
    exact⟨_,rfl,⟨true,m,rfl⟩,rfl⟩
   |false =>
    (repeat' first|simp(disch:=first|exact aq|fail) only[go_sem,b,Qz]|(apply av<;>intro))
    exact⟨_,rfl,⟨false,m,rfl⟩,rfl⟩
open Enc (enc)
def aDD(H:List ax)(ac:Nat)(S:List I):Prop:=(H[ac]?=some (.cells [.aV 2])/\S=[])\/∃id,H[ac]?=some (.cells [.bs id 0 S.length 2])/\H[id]?=some (.buf 32 (cM S))
def qa(oC mk ac:Nat)(km:List (aj×Bool))(S:List I)(H:List ax):Prop:=H[oC]?=some (.cells [.map mk])/\(∃n,H[mk]?=some (.map n (cb AV.bool km)))/\aDD H ac S
theorem Jg(km:List (aj×Bool))(s:aj):vO (.bool false) false ((getM km s).map AV.bool)=.bool ((getM km s).getD false):=by
 cases getM km s<;>rfl
variable {oC mk ac:Nat}{km:List (aj×Bool)}{S:List I}
theorem afR(t:I)(h:qa oC mk ac km S H)(hk:(fa t).length<=M)(hd:c0 t<=1000000)(dg:S.length+1<=M) :
  bn ν aB 36 [enc t,.ptr oC 0,.ptr ac 0] H fun r H'=>r=.a8 []/\qa oC mk ac (gv (km,S) t).1 (gv (km,S) t).2 H'/\H.length<=H'.length/\∀i,i<H.length->i≠mk->i≠ac->(∀e cs,H[i]?≠some (.buf e cs))->H'[i]?=H[i]?:=by
 have dh:M=1099511627776:=rfl;obtain⟨c,⟨n,U⟩,b⟩:=h;have cx:=dd c;have Q:=dd U
 have C:decide ((c0 t:Int)<=4)=decide (c0 t<=4):=by rw[aKG];simp;omega
 refine bn.intro (D:=fV) asC ?_;unfold WK;cases m:(getM km (fa t)).getD false with
 |true =>
  have e:gv (km,S) t=(km,S):=by rw[gv];simp[m]
  rw[e]
  (repeat' first|simp(disch:=first|exact aq|fail) only[go_sem,c,U,Jg,m]|(apply av<;>intro))
  refine⟨_,rfl,?_⟩;first
   |exact⟨rfl,⟨c,⟨n,U⟩,b⟩,aKC _,fun _ _ _ _ _=>rfl⟩|(simp only[imp_true_iff,and_true,aKC];exact⟨rfl,c,⟨n,U⟩,b⟩)|(refine⟨rfl,⟨c,⟨n,U⟩,b⟩,?_⟩;simp)
 |false =>
  cases w:decide (c0 t<=4)with
  |false =>
   have e:gv (km,S) t=(km,S):=by rw[gv];simp[m,w]
   rw[e]
   (repeat' first|simp(disch:=first|exact aq|fail) only[go_sem,c,U,Jg,m,C,w]|(apply av<;>intro))
   refine⟨_,rfl,?_⟩;first
   |exact⟨rfl,⟨c,⟨n,U⟩,b⟩,aKC _,fun _ _ _ _ _=>rfl⟩|(simp only[imp_true_iff,and_true,aKC];exact⟨rfl,c,⟨n,U⟩,b⟩)|(refine⟨rfl,⟨c,⟨n,U⟩,b⟩,?_⟩;simp)
  |true =>
   have e:gv (km,S) t=(fz km (fa t) true,S++[t]):=by rw[gv];simp[m,w]
   rw[e];have R:mk≠oC:=fun e=>by rw[e,c]at U;cases U
   rcases b with⟨b,X⟩|⟨id,b,p⟩
   ·have Y:=dd b;have x:mk≠ac:=fun e=>by rw[e,b]at U;cases U
    have E:oC≠ac:=fun e=>by rw[e,b]at c;cases c
    subst X;obtain⟨f,g⟩:∃f,f=H.set mk (ax.map (kD n km (fa t)) (cb AV.bool (fz km (fa t) true))):=⟨_,rfl⟩;have l:f.length=H.length:=by rw[g,aKD]
    have y:f[oC]?=some (.cells [.map mk]):=by rw[g,b5 R];exact c
    have B:f[ac]?=some (.cells [.aV 2]):=by rw[g,b5 x];exact b
    have F:f[mk]?=some (.map (kD n km (fa t)) (cb AV.bool (fz km (fa t) true))):=by rw[g,dD Q]
    have j:=afE (H:=f++[ax.buf 32 [AV.str [],AV.aV 2],.dead]) (id:=H.length) (e:=32) (S:=[]) (t:=t) (by rw[<-l];simp[cM]);have G:(f++[ax.buf 32 [AV.str [],AV.aV 2],.dead]).set H.length (.buf 32 (cM ([]++[t])))=f++[ax.buf 32 (cM [t]),.dead]:=by rw[<-l];simp
    rw[G]at j;have J:(f++[ax.buf 32 (cM [t]),.dead])[ac]?=some (.cells [.aV 2]):=by rw[dp (by omega)];exact B
    have q:=afF (i:=H.length) (o:=0) (n:=1) (z:=2) J;simp only[aKw,Nat.zero_mul]at j
    (repeat' first|simp(disch:=first|exact aq|fail) only[go_sem,c,U,Jg,m,C,w,aDj,aKD,<-g,l,B,afD,j,q]|(apply av<;>intro))
    refine⟨_,rfl,rfl,⟨by rw[b5 (Ne.symm E),dp (by omega)];exact y,⟨_,by rw[b5 (Ne.symm x),dp (by omega)];exact F⟩,.inr ⟨H.length,by rw[dD (by rw[aKr];omega)];rfl,by rw[b5 (by omega),<-l];simp⟩⟩,by first|(rw[aKD,aKr];omega)|(rw[aKr];omega),fun i Z L O _=>by rw[b5 (Ne.symm O),dp (by omega),g,b5 (Ne.symm L)]⟩
   ·have Y:=dd b;have kN:=dd p
    have x:mk≠ac:=fun e=>by rw[e,b]at U;cases U
    have E:oC≠ac:=fun e=>by rw[e,b]at c;cases c
    have T:mk≠id:=fun e=>by rw[e,p]at U;cases U
    have OW:oC≠id:=fun e=>by rw[e,p]at c;cases c
    have n6:ac≠id:=fun e=>by rw[e,p]at b;cases b
    obtain⟨f,g⟩:∃f,f=H.set mk (ax.map (kD n km (fa t)) (cb AV.bool (fz km (fa t) true))):=⟨_,rfl⟩;obtain⟨u,v⟩:∃u,u=f.set id .dead:=⟨_,rfl⟩;have l:f.length=H.length:=by rw[g,aKD]
    have P:u.length=H.length:=by rw[v,aKD];exact l
    have y:f[oC]?=some (.cells [.map mk]):=by rw[g,b5 R];exact c
    have B:f[ac]?=some (.cells [.bs id 0 S.length 2]):=by rw[g,b5 x];exact b
    have F:f[mk]?=some (.map (kD n km (fa t)) (cb AV.bool (fz km (fa t) true))):=by rw[g,dD Q]
    have V:f[id]?=some (.buf 32 (cM S)):=by rw[g,b5 T];exact p
    have W:=fun{e0:Env}{K:an->Prop}{tg:aM K}=>aDk (e0:=e0) (K:=K) (t:=tg) (d:=22) (H:=f) (n:=S.length) ⟨V,rfl,dg⟩;rw[<-v,l]at W;have j:=afE (H:=u++[ax.buf 32 (cM S++[AV.str [],AV.aV 2]),.dead]) (id:=H.length) (e:=32) (S:=S) (t:=t) (by rw[<-P];simp);have G:(u++[ax.buf 32 (cM S++[AV.str [],AV.aV 2]),.dead]).set H.length (.buf 32 (cM (S++[t])))=u++[ax.buf 32 (cM (S++[t])),.dead]:=by rw[<-P];simp
    rw[G]at j;have J:(u++[ax.buf 32 (cM (S++[t])),.dead])[ac]?=some (.cells [.bs id 0 S.length 2]):=by rw[dp (by omega),v,b5 (Ne.symm n6)];exact B
    have q:=afF (i:=H.length) (o:=0) (n:=S.length+1) (z:=2) J
    (repeat' first|simp(disch:=first|exact aq|fail) only[go_sem,c,U,Jg,m,C,w,aKD,<-g,B,W,afD,j,q]|(apply av<;>intro))
    refine⟨_,rfl,rfl,⟨by rw[b5 (Ne.symm E),dp (by omega),v,b5 (Ne.symm OW)];exact y,⟨_,by rw[b5 (Ne.symm x),dp (by omega),v,b5 (Ne.symm T)];exact F⟩,.inr ⟨H.length,by rw[dD (by rw[aKr];omega),aKr];rfl,by rw[b5 (by omega),<-P];simp⟩⟩,by first|(rw[aKD,aKr];omega)|(rw[aKr];omega),fun i Z L O bI=>?_⟩;have er:id≠i:=fun e=>bI _ _ (by rw[<-e];exact p);rw[b5 (Ne.symm O),dp (by omega),v,b5 er,g,b5 (Ne.symm L)]
open Enc (enc)
theorem qa.ex(h:qa oC mk ac km S H)(t:I):∃H',qa oC mk ac (gv (km,S) t).1 (gv (km,S) t).2 H'/\H.length<=H'.length/\∀i,i<H.length->i≠mk->i≠ac->(∀e cs,H[i]?≠some (.buf e cs))->H'[i]?=H[i]?:=by
 by_cases g:(!((getM km (fa t)).getD false)&&decide (c0 t<=4))=true
 ·rw[gv,if_pos g];obtain⟨b,⟨n,U⟩,d⟩:=h;have o:mk≠oC:=fun e=>by rw[e,b]at U;cases U
  have p:∃c,H[ac]?=some (.cells [c])/\∀m,c≠.map m:=by
   rcases d with⟨d,_⟩|⟨id,d,_⟩
   ·exact⟨_,d,fun m h=>by cases h⟩
   ·exact⟨_,d,fun m h=>by cases h⟩
  obtain⟨c,f,q⟩:=p;have r:mk≠ac:=fun e=>by rw[e,f]at U;cases U
  have u:oC≠ac:=fun e=>by rw[e,f]at b;simp at b;exact q _ b
  have v:=dd b;have j:=dd U;have l:=dd f
  refine⟨(H.set mk (.map 0 (cb AV.bool (fz km (fa t) true)))).set ac (.cells [.bs H.length 0 (S.length+1) 2])++[.buf 32 (cM (S++[t]))],⟨?_,⟨0,?_⟩,.inr ⟨H.length,?_,?_⟩⟩,by simp,fun i w x y _=>?_⟩
  ·rw[dp (by simpa using v),b5 (Ne.symm u),b5 o];exact b
  ·rw[dp (by simpa using j),b5 (Ne.symm r),dD j]
  ·rw[dp (by simpa using l),dD (by simpa using l)];simp
  ·simp
  ·rw[dp (by simpa using w),b5 (Ne.symm y),b5 (Ne.symm x)]
 ·rw[gv,if_neg g];exact⟨H,h,aKC _,fun _ _ _ _ _=>rfl⟩
theorem afS(H:List ax)(w:Nat)(a b:Int):gu (gu H w a) w b=gu H w b:=by simp[gu]
variable {m:Nat}
theorem QC(hm:s.length+(dG a).length<=m):∀{bu:List I}{c d:List (List ba)}{left e:Int},kg a s bu c left=some (d,e)->c.length<=5000->p8 m c->0<=left->d.length<=5000/\p8 m d/\0<=e/\e<=left
 |[],c,d,left,e,h,h1,U,f=>by
  simp only[kg,Option.some.injEq,Prod.mk.injEq]at h;obtain⟨rfl,rfl⟩:=h;exact⟨h1,U,f,Int.le_refl _⟩
 |t::bu,c,d,left,e,h,h1,U,f=>by
  rw[kg]at h;obtain⟨g,i⟩:∃g,g=(if(eO a t s).2 then c++[(eO a t s).1]else c):=⟨_,rfl⟩;rw[<-i]at h;split at h
  ·exact QC hm h h1 U f
  ·split at h
   ·cases h
   ·rename_i j;simp only[Bool.or_eq_true,decide_eq_true_eq,not_or]at j;have ae:=Fi a t s;have l:p8 m g:=fun u b=>by
     rw[i]at b;split at b
     ·rcases List.mem_append.1 b with b|b
      ·exact U u b
      ·rw[List.mem_singleton]at b;rw[b];omega
     ·exact U u b
    obtain⟨n,o,p,q⟩:=QC hm h (by omega) l (by omega);exact⟨n,o,p,by omega⟩
theorem afT :∀{out b c:List (List ba)}{left d:Int},(∀s∈out,s.length+(dG a).length<=m)->lQ a A out b left=some (c,d)->b.length<=5000->p8 m b->0<=left->c.length<=5000/\p8 m c/\0<=d/\d<=left
 |[],b,c,left,d,_,h,h1,U,e=>by
  simp only[lQ,Option.some.injEq,Prod.mk.injEq]at h;obtain⟨rfl,rfl⟩:=h;exact⟨h1,U,e,Int.le_refl _⟩
 |s::r,b,c,left,d,az,h,h1,U,e=>by
  rw[lQ]at h;cases f:kg a s A b left with
  |none=>rw[f]at h;cases h|some q =>
   obtain⟨t,v⟩:=q;rw[f]at h;obtain⟨g,i,j,w⟩:=QC (az s (by simp)) f h1 U e;obtain⟨l,n,o,x⟩:=afT (fun u p=>az u (aKM _ p)) h g i j;exact⟨l,n,o,by omega⟩
theorem QE :∀{B:List Lit}{out b:List (List ba)}{left c:Int}{m:Nat},(∀x∈B,(dG x.atom).length<=1000)->j2 A B out left=some (b,c)->out.length<=5000->p8 m out->0<=left->b.length<=5000/\p8 (m+1000*B.length) b/\0<=c/\c<=left
 |[],out,b,left,c,m,_,h,h1,U,e=>by
  simp only[j2,Option.some.injEq,Prod.mk.injEq]at h;obtain⟨rfl,rfl⟩:=h;exact⟨h1,fun s az=>by have:=U s az;omega,e,Int.le_refl _⟩
 |x::r,out,b,left,c,m,ae,h,h1,U,e=>by
  have d:=fun y n=>ae y (aKM x n);have u:=ae x (by simp);rw[j2]at h;split at h
  ·obtain⟨f,g,i,l⟩:=QE d h h1 U e;exact⟨f,fun s az=>by have:=g s az;simp only[aKu];omega,i,l⟩
  ·cases j:lQ x.atom A out [] left with
   |none=>rw[j]at h;cases h|some q =>
    obtain⟨v,w⟩:=q;rw[j]at h;obtain⟨o,p,t,z⟩:=afT (m:=m+1000) (fun s az=>by have:=U s az;omega) j (by simp) (fun s az=>by simp at az) e;obtain⟨f,g,i,l⟩:=QE d h o p t;exact⟨f,fun s az=>by have:=g s az;simp only[aKu];omega,i,by omega⟩
theorem qa.w{km:List (aj×Bool)}{S:List I}{H':List ax}{x:Int}(b:H[0]?=some (.cells [.int .i64 x]))(c:∀i,i<H.length->i≠1->i≠3->(∀e cs,H[i]?≠some (.buf e cs))->H'[i]?=H[i]?):H'[0]?=some (.cells [.int .i64 x]):=by
 rw[c 0 (dd b) (by omega) (by omega) (fun e cs=>by rw[b];simp)];exact b
theorem afV(l:List aU)(c:List I)(b:Bool)(aD:l.length<=1000)(ae:∀r∈l,r.body.length<=8/\∀x∈r.body,(dG x.atom).length<=1000)(aC:c.length<=1000000)(g:iu l c=some b):aF ν aB 14 [enc l,enc c] (enc b):=by
 have dh:M=1099511627776:=rfl;unfold iu at g;cases P:c.all p9 with
 |false=>rw[P]at g;simp at g|true =>
 rw[P]at g;simp only[Bool.not_true,aKF,if_false]at g;have P:=aKE.1 P;refine aF.intro (D:=fV) asl (by simp only[aKz,aKA,Enc.arg,aKB]) rfl ?_;unfold VN
 (repeat' first|simp(disch:=first|exact aq|fail) only[go_sem]|(apply av<;>intro))
 refine b9 (fun q:Nat×(List (aj×Bool)×List I)×List ax=>⟨N [(0,.v (enc l)),(1,.v (enc c)),(5,.v (.ptr 0 0)),(7,.v (.ptr 3 0)),(8,.v (.fn 36 [.ptr 2 0,.ptr 3 0])),(26,.v (enc c.length)),(27,.v (enc q.1))],q.2.2⟩)
  (fun q=>q.1<=c.length/\qa 2 1 3 q.2.1.1 q.2.1.2 q.2.2/\q.2.2[0]?=some (.cells [.int .i64 1000000])/\q.2.1.2.length<=q.1/\(c.drop q.1).foldl gv q.2.1=c.foldl gv ([],[])) (fun q=>c.length-q.1) (0,([],[]),[ax.cells [AV.int IntKind.i64 1000000],ax.map 0 [],ax.cells [AV.map 1],ax.cells [AV.aV 2]])
  ⟨aKs _,⟨rfl,⟨0,rfl⟩,.inl ⟨rfl,rfl⟩⟩,rfl,aKC _,rfl⟩ (by(try simp(disch:=first|exact aq|fail) only[go_sem])<;>(exact bG)) ?_
 rintro⟨i,p,H⟩ ⟨i1,L,E,V,Q⟩;simp only at i1 L E V Q;rcases aKq i c.length with ak|ak
 ·have hk:=P c[i]! (ft ak);simp only[p9,aKx,decide_eq_true_eq]at hk;have af:=afR c[i]! L hk.1 hk.2 (by omega);rw[fY ak,List.foldl_cons]at Q;have ry:=afQ p c[i]!;have v:∃(r:AV)(j:List ax),r=.a8 []/\qa 2 1 3 (gv p c[i]!).1 (gv p c[i]!).2 j/\H.length<=j.length/\∀i,i<H.length->i≠1->i≠3->(∀e cs,H[i]?≠some (.buf e cs))->j[i]?=H[i]?:=by
   obtain⟨j,q⟩:=L.ex c[i]!;exact⟨_,j,rfl,q⟩
  (repeat' first|simp(disch:=first|exact aq|fail) only[go_sem,iV]|(apply av<;>intro)|(refine iW ⟨af,v⟩ ?_;(rintro r' j ⟨rfl,b0,dt,eW⟩)))
  exact⟨(i+1,gv p c[i]!,j),⟨by simp only;omega,b0,qa.w (km:=[]) (S:=[]) E eW,by simp only;omega,Q⟩,by simp only;omega,by(exact bG)⟩
 rw[aKt ak,List.foldl_nil]at Q;rw[<-Q]at g;clear Q P
 (repeat' first|simp(disch:=first|exact aq|fail) only[go_sem]|(apply av<;>intro))
 refine b9 (fun q:Nat×(List (aj×Bool)×List I)×List ax×Int×Int=>⟨N [(0,.v (enc l)),(5,.v (.ptr 0 0)),(7,.v (.ptr 3 0)),(8,.v (.fn 36 [.ptr 2 0,.ptr 3 0])),(10,.v (.int .i64 q.2.2.2.1))],q.2.2.1⟩)
  (fun q=>qa 2 1 3 q.2.1.1 q.2.1.2 q.2.2.1/\q.2.2.1[0]?=some (.cells [.int .i64 q.2.2.2.2])/\q.2.1.2.length<=100000000/\(0<=q.2.2.2.2/\q.2.2.2.2<=1000000)/\(-1<=q.2.2.2.1/\q.2.2.2.1<=100000000)/\xZ l q.1 q.2.1 q.2.2.2.1 q.2.2.2.2=some b) (fun q=>q.1) (1003,p,H,-1,1000000) ⟨L,E,by simp only;omega,by simp only;omega,by simp only;omega,g⟩ (by(try simp(disch:=first|exact aq|fail) only[go_sem])<;>(exact bG)) ?_
 clear i1 L E V ak g;rintro⟨f,p,H,n,left⟩ ⟨L,E,V,i6,i7,g⟩;simp only at L E V i6 i7 g;obtain⟨h1,⟨im,U⟩,C⟩:=L;cases f with
 |zero=>cases g|succ f =>
 rw[xZ]at g;have G:decide ((p.2.length:Int)<=1000)=decide (p.2.length<=1000):=by rw[aKG];simp;omega
 obtain⟨S,dg⟩:∃S,S=p.2:=⟨_,rfl⟩;rw[<-dg]at C V g G;have eK:∃y,H[3]?=some (.cells [y])/\Qw H 0 y S/\(∀x,Qw (gu H 0 x) 0 y S):=by
  rcases C with⟨C,z⟩|⟨id,C,O⟩
  ·exact⟨_,C,.inl ⟨rfl,z⟩,fun _=>.inl ⟨rfl,z⟩⟩
  ·have ne:id≠0:=fun e=>by rw[e,E]at O;cases O
   exact⟨_,C,.inr ⟨id,rfl,O,ne⟩,fun x=>.inr ⟨id,rfl,by rw[gu,b5 (Ne.symm ne)];exact O,ne⟩⟩
 obtain⟨y,QF,rk,W⟩:=eK;have Jh:∀j,nz 1 j y=some (.int .i64 (S.length:Int)):=fun j=>by
  rcases rk with⟨rfl,z⟩|⟨id,rfl,_⟩
  ·rw[z];rfl
  ·rfl
 have F:y.aW=y:=by
  rcases rk with⟨rfl,z⟩|⟨id,rfl,_⟩<;>rfl
 have QG:∀{K:AV->Prop}{tg:aM K},tL 2 (fun n:Nat=>some (n:Int)) (fun _=>some (S.length:Int)) y K tg=K y:=fun{K tg}=>by
  rcases rk with⟨rfl,z⟩|⟨id,rfl,_⟩
  ·rw[z,abn];simp[ec]
  ·rw[abo];have:¬((0:Int)<0):=by omega
   simp[ec]
 have sT:∀{s:an}{d x:Nat}{K:an->Prop}{tg:aM K},xr s d x K tg y=c7 s d y K ⟨⟩:=fun{s d x K tg}=>by
  rcases rk with⟨rfl,z⟩|⟨id,rfl,_⟩<;>rfl
 cases g1:decide (n<(S.length:Int))with
 |false =>
  rw[g1,aKv,if_neg (by simp)]at g;have fw:b=decide (S.length<=1000):=(Option.some.inj g).symm;rw[fw]
  (repeat' first|simp(disch:=first|exact aq|fail) only[go_sem,QF,Jh,F,g1,G]|(apply av<;>intro))
 |true =>
  rw[g1,aKy]at g;cases g2:decide (S.length<=1000)with
  |false =>
   rw[g2,if_neg (by simp)]at g;have fw:b=false:=(Option.some.inj g).symm;rw[fw]
   (repeat' first|simp(disch:=first|exact aq|fail) only[go_sem,QF,Jh,F,g1,G,g2]|(apply av<;>intro))
  |true =>
   rw[g2,if_pos rfl]at g
   (repeat' first|simp(disch:=first|exact aq|fail) only[go_sem,QF,Jh,F,QG,sT,g1,G,g2]|(apply av<;>intro))
   obtain⟨Y,gp⟩:∃Y,Y=qW S l [] left:=⟨_,rfl⟩;rw[<-gp]at g;have xM:gu H 0 left=H:=by rw[gu];exact zr E
   have BV:=dd E;have ae1:S.length<=1000:=of_decide_eq_true g2;refine b9 (fun q:Nat×List I×Int=>⟨N [(0,.v (enc l)),(5,.v (.ptr 0 0)),(7,.v (.ptr 3 0)),(8,.v (.fn 36 [.ptr 2 0,.ptr 3 0])),(10,.v (.int .i64 (S.length:Int))),(11,.v y),(12,.v (.list (some 32) 2 (q.2.1.map I.enc))),(52,.v (enc l.length)),(53,.v (enc q.1))],gu H 0 q.2.2⟩)
    (fun q=>q.1<=l.length/\(0<=q.2.2/\q.2.2<=1000000)/\q.2.1.length<=q.1*5000/\qW S (l.drop q.1) q.2.1 q.2.2=Y) (fun q=>l.length-q.1) (0,[],left) ⟨aKs _,i6,by simp,gp.symm⟩ (by(try simp(disch:=first|exact aq|fail) only[go_sem])<;>(first|rfl|(simp(disch:=first|exact a6|fail) only[cj,aKk,aKl,Env.ins,go_sem,xM];try rfl))) ?_
   rintro⟨i,more,B⟩ ⟨c1,c2,fW,J⟩;simp only at c1 c2 fW J;rcases aKq i l.length with ak|ak
   ·rw[fY ak,qW]at J;obtain⟨ep,eh⟩:=ae l[i]! (ft ak);obtain⟨r,aw⟩:∃r,r=l[i]!:=⟨_,rfl⟩;rw[<-aw]at J ep eh;have QH:=aDB (H:=gu H 0 B) (w:=0) (left:=B) r.body S (Qu BV) (W B) c2 ep eh (by omega);obtain⟨Z,rM⟩:∃Z,Z=j2 S r.body [[]] B:=⟨_,rfl⟩;rw[<-rM]at J QH;cases Z with
    |none =>
     rw[<-J]at g;have fw:b=false:=(Option.some.inj g).symm;rw[fw];have v:∃(r:AV)(j:List ax),Qv (gu H 0 B) 0 none r j:=⟨_,_,rfl,0,rfl⟩
     (repeat' first|simp(disch:=first|exact aq|fail) only[go_sem,<-aw,F]|(apply av<;>intro)|(refine iW ⟨QH,v⟩ ?_;(rintro r' j ⟨rfl,xF,rfl⟩)))
     all_goals rfl
    |some q =>
     obtain⟨all,ca⟩:=q;simp only at J;have v:∃(r:AV)(j:List ax),Qv (gu H 0 B) 0 (some (all,ca)) r j:=⟨_,_,⟨false,fun h=>(by cases h),rfl⟩,rfl⟩
     (repeat' first|simp(disch:=first|exact aq|fail) only[go_sem,<-aw,F]|(apply av<;>intro)|(refine iW ⟨QH,v⟩ ?_;(rintro r' j ⟨⟨fP,lq,rfl⟩,rfl⟩)))
     obtain⟨cv,eR,gB,Ma⟩:=QE (m:=0) eh rM.symm (by simp) (fun s az=>by simp at az;rw[az];simp) c2.1;have BO:=Qs lq;refine b9 (fun k:Nat=>⟨N [(0,.v (enc l)),(5,.v (.ptr 0 0)),(7,.v (.ptr 3 0)),(8,.v (.fn 36 [.ptr 2 0,.ptr 3 0])),(10,.v (.int .i64 (S.length:Int))),(11,.v y),(12,.v (.list (some 32) 2 ((more++(all.take k).filterMap (gQ r.head)).map I.enc))),(13,.v (enc i)),(14,.v (.list none 1 (oA fP all))),(52,.v (enc l.length)),(53,.v (enc i)),(70,.v (enc all.length)),(71,.v (enc k))],gu H 0 ca⟩)
      (fun k=>k<=all.length) (fun k=>all.length-k) 0 (aKs _) (by(try simp(disch:=first|exact aq|fail) only[go_sem,afS])<;>(first|rfl|(simp(disch:=first|exact a6|fail) only[cj,aKk,aKl,Env.ins,go_sem,BO,aKN,aKO];try rfl))) ?_
     intro k hk;rcases aKq k all.length with o|o
     ·have fI:=Qt lq o;obtain⟨s,az⟩:∃s,s=all[k]!:=⟨_,rfl⟩;have rf:=eR all[k]! (ft o);rw[<-az]at fI rf;have Ji:(all.take (k+1)).filterMap (gQ r.head)=(all.take k).filterMap (gQ r.head)++(gQ r.head s).toList:=by
       rw[bZ o,List.filterMap_append,<-az];simp only[List.filterMap_cons,aKN];cases gQ r.head s<;>rfl
      have afX:((all.take k).filterMap (gQ r.head)).length<=5000:=by
       have:=aKP (gQ r.head) (all.take k);rw[aKH]at this;omega
      have hd:=aDz s (by omega) r.head;obtain⟨X,bp⟩:∃X,X=gQ r.head s:=⟨_,rfl⟩;rw[<-bp]at hd Ji;obtain⟨oB,s6⟩:∃oB,oB=(if fP then AV.aV 3 else enc s):=⟨_,rfl⟩;rw[<-s6]at fI;have s7:(oB=.aV 3/\s=[])\/oB=.list none 3 (s.map ba.enc):=by
       cases fP with
       |true =>
        refine .inl ⟨s6,?_⟩;have:=lq rfl;rw[az,this];obtain rfl:k=0:=by rw[this]at o;simpa using o
        rfl
       |false=>exact .inr s6
      have rX:∀{K:AV->Prop}{tg:aM K},bT ν aB fV 40 [r.head.enc,oB] K tg=K (oy r.head X):=fun{K tg}=>by
       rw[bp]at hd ⊢;rcases s7 with⟨rfl,rfl⟩|rfl
       ·exact Qp (D:=fV) (K:=K) (tg:=tg) (x1:=r.head.enc) (x2:=.aV 3) hd
       ·exact Qp (D:=fV) (K:=K) (tg:=tg) (x1:=r.head.enc) (x2:=enc s) hd
      have tr:(more++(all.take k).filterMap (gQ r.head)).length+1<=M:=by rw[aKr];omega
      obtain⟨mk,R⟩:∃mk,mk=more++(all.take k).filterMap (gQ r.head):=⟨_,rfl⟩;have Jj:more++(all.take (k+1)).filterMap (gQ r.head)=mk++X.toList:=by rw[Ji,<-List.append_assoc,R]
      rw[<-R]at tr ⊢;cases X with
      |none =>
       simp only[oy]at rX;rcases s7 with⟨rfl,_⟩|rfl
       all_goals
        (repeat' first|simp(disch:=first|exact aq|fail) only[go_sem,<-aw,fI,rX]|(apply av<;>intro))
        exact⟨k+1,by omega,by omega,by rw[Jj,Option.toList_none,aKO];(exact bG)⟩
      |some u =>
       simp only[oy]at rX;rcases s7 with⟨rfl,_⟩|rfl
       all_goals
        (repeat' first|simp(disch:=first|exact aq|fail) only[go_sem,<-aw,fI,rX,aKg]|(apply av<;>intro))
        exact⟨k+1,by omega,by omega,by rw[Jj,Option.toList_some];(exact bG)⟩
     ·obtain rfl:k=all.length:=by omega
      rw[aKQ];have afX:=aKP (gQ r.head) all
      (repeat' first|simp(disch:=first|exact aq|fail) only[go_sem]|(apply av<;>intro))
      exact⟨(i+1,more++all.filterMap (gQ r.head),ca),⟨by simp only;omega,by simp only;omega,by simp only[aKr];omega,J⟩,by simp only;omega,by(exact bG)⟩
   ·rw[aKt ak,qW]at J;rw[<-J]at g
    (repeat' first|simp(disch:=first|exact aq|fail) only[go_sem,F,Jh]|(apply av<;>intro))
    simp only at g;obtain⟨T,dL⟩:∃T,T=more++S.filterMap j3:=⟨_,rfl⟩;rw[<-dL]at g;have afY:T.all p9=true:=by
     cases bd:T.all p9 with
     |true=>rfl|false=>rw[bd]at g;simp at g
    rw[afY]at g;simp only[Bool.not_true,aKF,if_false]at g;have tr:more.length<=5000000:=by have:i*5000<=1000*5000:=Nat.mul_le_mul_right _ (by omega);omega
    have aDE:∀(n:aj)(a:List I),(I.mk n a).enc=.agg [.str n,.list none 2 (a.map I.enc)]:=fun n a=>I.pR _;refine b9 (fun k:Nat=>⟨N [(0,.v (enc l)),(5,.v (.ptr 0 0)),(7,.v (.ptr 3 0)),(8,.v (.fn 36 [.ptr 2 0,.ptr 3 0])),(10,.v (.int .i64 (S.length:Int))),(11,.v y),(12,.v (.list (some 32) 2 ((more++(S.take k).filterMap j3).map I.enc))),(95,.v (enc S.length)),(96,.v (enc k))],gu H 0 B⟩)
     (fun k=>k<=S.length) (fun k=>S.length-k) 0 (aKs _) (by(try simp(disch:=first|exact aq|fail) only[go_sem])<;>(first|rfl|(simp(disch:=first|exact a6|fail) only[cj,aKk,aKl,Env.ins,go_sem,aKN,aKO];try rfl))) ?_
    intro k hk;rcases aKq k S.length with o|o
    ·rcases W B with⟨_,z⟩|⟨id,dZ,bM,_⟩
     ·exfalso;rw[z]at o;simp at o
     obtain⟨t,ay⟩:∃t,t=S[k]!:=⟨_,rfl⟩;have Ji:(S.take (k+1)).filterMap j3=(S.take k).filterMap j3++(j3 t).toList:=by
      rw[bZ o,List.filterMap_append,<-ay];simp only[List.filterMap_cons,aKN];cases j3 t<;>rfl
     have afX:((S.take k).filterMap j3).length<=1000:=by
      have:=aKP j3 (S.take k);rw[aKH]at this;omega
     obtain⟨mk,R⟩:∃mk,mk=more++(S.take k).filterMap j3:=⟨_,rfl⟩;have aH7:mk.length+1<=M:=by rw[R,aKr];omega
     have Jj:more++(S.take (k+1)).filterMap j3=mk++(j3 t).toList:=by rw[Ji,<-List.append_assoc,R]
     rw[<-R]at ⊢;have dV:((t.args.length:Int)==1)=decide (t.args.length=1):=by rw[aKG];simp;omega
     have de:((t.args.length:Int)==2)=decide (t.args.length=2):=by rw[aKG];simp;omega
     have QI:j3 t=if decide (t.args.length=1)&&(t.name==[105,110,105,116]||t.name==[110,101,120,116])then some (.mk [116,114,117,101] t.args)
      else if decide (t.args.length=2)&&t.name==[108,101,103,97,108]then some (.mk [100,111,101,115] t.args)else none:=rfl
     cases al:decide (t.args.length=1)<;>cases au:t.name==[105,110,105,116]<;>cases aS:t.name==[110,101,120,116]<;>cases bI:decide (t.args.length=2)<;>cases er:t.name==[108,101,103,97,108];all_goals
      rw[al,au,aS,bI,er]at QI;simp only[Bool.true_or,aKI,Bool.or_self,aKB,Bool.and_true,Bool.and_false,aKF,if_true,if_false]at QI
      (repeat' first|simp(disch:=first|exact aq|fail) only[go_sem,dZ,bM,<-ay,dV,de,al,au,aS,bI,er,aKg]|(apply av<;>intro))
      exact⟨k+1,by omega,by omega,by rw[Jj,QI];(first|rfl|(simp(disch:=first|exact a6|fail) only[cj,aKk,aKl,Env.ins,aKm,aKn,aKj,aKh,aKp,go_sem,Option.toList_some,Option.toList_none,aKO,aDE];try rfl))⟩
    ·obtain rfl:k=S.length:=by omega
     rw[aKQ,<-dL]
     (repeat' first|simp(disch:=first|exact aq|fail) only[go_sem]|(apply av<;>intro))
     have aH8:T.length<=6000000:=by
      rw[dL,aKr];have:=aKP j3 S;omega
     have aDF:=aKE.1 afY;have aDG:qa 2 1 3 p.1 p.2 (gu H 0 B):=by
      refine⟨by rw[gu,b5 (by omega)];exact h1,⟨im,by rw[gu,b5 (by omega)];exact U⟩,?_⟩;rw[<-dg];rcases C with⟨C,z⟩|⟨id,C,O⟩
      ·exact .inl ⟨by rw[gu,b5 (by omega)];exact C,z⟩
      ·have ne:id≠0:=fun e=>by rw[e,E]at O;cases O
       exact .inr ⟨id,by rw[gu,b5 (by omega)];exact C,by rw[gu,b5 (Ne.symm ne)];exact O⟩
     refine b9 (fun q:Nat×(List (aj×Bool)×List I)×List ax=>⟨N [(0,.v (enc l)),(5,.v (.ptr 0 0)),(7,.v (.ptr 3 0)),(8,.v (.fn 36 [.ptr 2 0,.ptr 3 0])),(10,.v (.int .i64 (S.length:Int))),(12,.v (.list (some 32) 2 (T.map I.enc))),(159,.v (enc T.length)),(160,.v (enc q.1))],q.2.2⟩)
      (fun q=>q.1<=T.length/\qa 2 1 3 q.2.1.1 q.2.1.2 q.2.2/\q.2.2[0]?=some (.cells [.int .i64 B])/\q.2.1.2.length<=1000+q.1/\(T.drop q.1).foldl gv q.2.1=T.foldl gv p) (fun q=>T.length-q.1) (0,p,gu H 0 B)
      ⟨aKs _,aDG,Qu BV,by simp only;rw[<-dg];omega,rfl⟩ (by(try simp(disch:=first|exact aq|fail) only[go_sem])<;>(exact bG)) ?_
     rintro⟨k,aQ,dS⟩ ⟨m1,m2,m3,m4,m5⟩;simp only at m1 m2 m3 m4 m5;rcases aKq k T.length with o|o
     ·have kI:=aDF T[k]! (ft o);simp only[p9,aKx,decide_eq_true_eq]at kI;have af:=afR T[k]! m2 kI.1 kI.2 (by omega);rw[fY o,List.foldl_cons]at m5;have ry:=afQ aQ T[k]!;have v:∃(r:AV)(j:List ax),r=.a8 []/\qa 2 1 3 (gv aQ T[k]!).1 (gv aQ T[k]!).2 j/\dS.length<=j.length/\∀i,i<dS.length->i≠1->i≠3->(∀e cs,dS[i]?≠some (.buf e cs))->j[i]?=dS[i]?:=by
       obtain⟨j,q⟩:=m2.ex T[k]!;exact⟨_,j,rfl,q⟩
      (repeat' first|simp(disch:=first|exact aq|fail) only[go_sem,iV]|(apply av<;>intro)|(refine iW ⟨af,v⟩ ?_;(rintro r' j ⟨rfl,b0,dt,eW⟩)))
      exact⟨(k+1,gv aQ T[k]!,j),⟨by simp only;omega,b0,qa.w (km:=[]) (S:=[]) m3 eW,by simp only;omega,m5⟩,by simp only;omega,by(exact bG)⟩
     ·rw[aKt o,List.foldl_nil]at m5;rw[<-m5]at g
      (repeat' first|simp(disch:=first|exact aq|fail) only[go_sem]|(apply av<;>intro))
      exact⟨(f,aQ,dS,(S.length:Int),B),⟨m2,m3,by simp only;omega,c2,by simp only;omega,g⟩,by simp only;omega,by(exact bG)⟩
open Enc (enc)
variable {m:Int}
theorem af3{f:I->Int} :∀(l:List I)(n:Int),(∀t∈l,1<=f t)->jA f m l n<=m->n+(l.map f).sum=jA f m l n
 |[],n,_,_=>by simp[jA]|t::r,n,h,hm=>by
  have d:=h t (by simp);by_cases b:n>m
  ·have:=acu (f:=f) (m:=m) (l:=t::r) (i:=0) (n:=n) (by simp) b;simp only[List.drop_zero]at this;omega
  ·have:=acs (f:=f) (m:=m) (l:=t::r) (i:=0) (n:=n) (by simp) b;simp only[List.drop_zero,List.getElem!_cons_zero,List.drop_succ_cons]at this;rw[this]at hm ⊢;have:=af3 r (n+f t) (fun u c=>h u (aKM _ c)) hm;simp only[aKh,List.sum_cons];omega
theorem af4(hm:0<=m/\m<=1000):∀(d:Nat)(t:I),jB m d t<=m->((dG t).length:Int)<=jB m d t
 |0,t,h=>by
  simp only[jB]at h;omega
 |d+1,t,h=>by
  rw[acq]at h ⊢;have ae:=fun u(b:u∈t.args)=>(Ic hm d u).1;have az:=af3 t.args 1 ae h;have e:=On t.args 1 ae (by omega) h;have f:=qI t;have key:∀l:List I,(∀u∈l,((dG u).length:Int)<=jB m d u)->((cw l).length:Int)<=(l.map (jB m d)).sum:=fun l=>by
   induction l with
   |nil=>intro _;simp[cw]|cons u r ih =>
    intro c;have j:=c u (by simp);have U:=ih fun w g=>c w (aKM _ g);simp only[cw,aKr,aKh,List.sum_cons];omega
  have n:=key t.args fun u b=>af4 hm d u (e.2 u b);rw[<-az,f];split
  ·rename_i i;rw[List.length_eq_zero_iff.1 i];simp
  ·omega
variable {t:I}
theorem aDM(h:jC 20 t=true):(dG t).length<=20:=by
 simp only[jC,decide_eq_true_eq]at h;have:=af4 (m:=20) ⟨by omega,by omega⟩ _ t h;omega
open Enc (enc)
def ph(r:aU):Bool:=jC 20 r.head&&decide (r.body.length<=8)&&r.body.all fun x=>jC 20 x.atom
def k9(l:List aU)(m:Int):Bool:=decide ((l.length:Int)<=m)&&l.all ph
noncomputable def QK:List kX:=[(35,jo fun(t:I)(m:Int)=>enc (jC m t)),
 (14,jo fun(l:List aU)(g:List I)=>enc ((iu l g).getD false)),
 (12,jo fun(l:List aU)(m:Int)=>enc (k9 l m&&(iu l []).getD false))]
noncomputable def nN:bc:=jV fV (fT QK)
instance aIa{D:bc}[h:bq D nN]:bq D fV:=h.nA
theorem aDN:gC nN ([35,14,12]++([37,38,73,72,40]++([48,18]++([28,8]++([51,52]++([88,89,90]++([115,117,116,85,84,87]++([50,21,20,22,7]++([60]++([100]++([55]++([26,19]++([49]++([32,141,119,86,118]++[58,98,127,97,57,29,80,111,113,34,10,83,33,103,104])))))))))))))):=gC.or afG (nB QK)
variable {f:Nat}{F:List AV->Option AV}
theorem QL(h:∀xs,fT QK f xs=F xs)(hk:(([37,38,73,72,40]++([48,18]++([28,8]++([51,52]++([88,89,90]++([115,117,116,85,84,87]++([50,21,20,22,7]++([60]++([100]++([55]++([26,19]++([49]++([32,141,119,86,118]++[58,98,127,97,57,29,80,111,113,34,10,83,33,103,104]))))))))))))):List Nat).contains f=false:=by rfl):∀xs,nN f xs=F xs:=fun xs=>by rw[<-h];exact mS afG hk
variable {D:bc}{x1 x2:AV}{K:AV->Prop}{tg:aM K}
theorem aDO[bq D nN][aT x1 t][aT x2 m](h:aF ν aB 35 [enc t,enc m] (enc (jC m t))):bT ν aB D 35 [x1,x2] K tg=K (enc (jC m t)):=lI (D':=nN) (F:=fun(t:I)(m:Int)=>enc (jC m t)) (QL fun _=>rfl) h
variable {l:List aU}{g:List I}
theorem af5[bq D nN][aT x1 l][aT x2 g](h:aF ν aB 14 [enc l,enc g] (enc ((iu l g).getD false))):bT ν aB D 14 [x1,x2] K tg=K (enc ((iu l g).getD false)):=lI (D':=nN) (F:=fun(l:List aU)(g:List I)=>enc ((iu l g).getD false)) (QL fun _=>rfl) h
theorem aDP[bq D nN][aT x1 l][aT x2 m](h:aF ν aB 12 [enc l,enc m] (enc (k9 l m&&(iu l []).getD false))):bT ν aB D 12 [x1,x2] K tg=K (enc (k9 l m&&(iu l []).getD false)):=lI (D':=nN) (F:=fun(l:List aU)(m:Int)=>enc (k9 l m&&(iu l []).getD false)) (QL fun _=>rfl) h
theorem aDQ[bq D nN][aT x1 t][aT x2 m](h:0<=m/\m<=1000) :bT ν aB D 35 [x1,x2] K tg=K (enc (jC m t)):=aDO (af2 t h)
attribute [go_sem ↓ 2000] aDQ
theorem af6(h:l.all ph=true):∀r∈l,r.body.length<=8/\∀x∈r.body,(dG x.atom).length<=1000:=fun r b=>by
 have:=aKE.1 h r b;simp only[ph,aKx,decide_eq_true_eq,aKE]at this;exact⟨this.1.2,fun x ah=>by have:=aDM (this.2 x ah);omega⟩
theorem aDR(l:List aU)(m:Int)(hm:0<=m/\m<=1000)(cg:k9 l m=true->(iu l []).isSome=true):aF ν aB 12 [enc l,enc m] (enc (k9 l m&&(iu l []).getD false)):=by
 refine aF.l9 fun ae=>?_;obtain⟨ae,_⟩:=ae;have E:M=1099511627776:=rfl;rcases aKJ m (l.length:Int)with u|u
 ·have e:k9 l m=false:=by rw[k9,decide_eq_false (by omega),aKv]
  rw[e,aKv];refine aF.intro (D:=nN) asi fp fg ?_;unfold VH;simp(disch:=first|exact aq|fail) only[go_sem]
  (repeat' first|simp(disch:=first|exact aq|fail) only[go_sem]|(apply av<;>intro))
  all_goals rfl
 ·have e:k9 l m=l.all ph:=by rw[k9,decide_eq_true u,aKy]
  rw[e]at cg ⊢;obtain⟨R,dN⟩:∃R,R=l.all ph:=⟨_,rfl⟩;rw[<-dN]at cg ⊢;have y:∀{K:AV->Prop}{tg:aM K},R=true->bT ν aB nN 14 [.list none 3 (l.map aU.enc),.aV 2] K tg=K (enc ((iu l []).getD false)):=fun{K tg}d=>by
   obtain⟨b,v⟩:=Option.isSome_iff_exists.1 (cg d);have hd:=afV l [] b (by omega) (af6 (by rw[<-dN];exact d)) (by simp) v;have z:(iu l []).getD false=b:=by rw[v];rfl
   exact af5 (D:=nN) (K:=K) (tg:=tg) (x1:=enc l) (x2:=.aV 2) (l:=l) (g:=[]) (by rw[z];exact hd)
  refine aF.intro (D:=nN) asi fp fg ?_;unfold VH;simp(disch:=first|exact aq|fail) only[go_sem]
  (repeat' first|simp(disch:=first|exact aq|fail) only[go_sem]|(apply av<;>intro))
  refine b9 (fun i:Nat=>⟨N [(0,.v (enc l)),(12,.v (enc l.length)),(13,.v (enc i))],[]⟩) (fun i=>i<=l.length/\(l.drop i).all ph=R) (fun i=>l.length-i) 0 ⟨aKs _,dN.symm⟩ (by(try simp(disch:=first|exact aq|fail) only[go_sem])<;>(exact bG)) ?_;rintro i ⟨G,c⟩;rcases aKq i l.length with h|h
  ·rw[fY h,aKz]at c;obtain⟨r,d⟩:∃r,r=l[i]!:=⟨_,rfl⟩;rw[<-d]at c;cases o:jC 20 r.head with
   |false =>
    have:ph r=false:=by simp[ph,o]
    rw[this,aKv]at c;rw[<-c]
    (repeat' first|simp(disch:=first|exact aq|fail) only[go_sem,<-d,o]|(apply av<;>intro))
    all_goals rfl
   |true =>
    rcases aKq 8 r.body.length with w|w
    ·have:ph r=false:=by simp[ph,decide_eq_false (show ¬r.body.length<=8 by omega)]
     rw[this,aKv]at c;rw[<-c]
     (repeat' first|simp(disch:=first|exact aq|fail) only[go_sem,<-d,o]|(apply av<;>intro))
     all_goals rfl
    ·have B:ph r=r.body.all fun x=>jC 20 x.atom:=by rw[ph,o,decide_eq_true w];rfl
     rw[B]at c
     (repeat' first|simp(disch:=first|exact aq|fail) only[go_sem,<-d,o]|(apply av<;>intro))
     refine b9 (fun j:Nat=>⟨N [(0,.v (enc l)),(5,.v (enc i)),(12,.v (enc l.length)),(13,.v (enc i)),(37,.v (enc r.body.length)),(38,.v (enc j))],[]⟩) (fun j=>j<=r.body.length/\(((r.body.drop j).all fun x=>jC 20 x.atom)&&(l.drop (i+1)).all ph)=R) (fun j=>r.body.length-j) 0 ⟨aKs _,c⟩ (by(try simp(disch:=first|exact aq|fail) only[go_sem])<;>(exact bG)) ?_;rintro j ⟨J,n⟩;rcases aKq j r.body.length with q|q
     ·rw[fY q,aKz]at n;cases p:jC 20 r.body[j]!.atom with
      |false =>
       rw[p,aKv,aKv]at n;rw[<-n]
       (repeat' first|simp(disch:=first|exact aq|fail) only[go_sem,<-d,p]|(apply av<;>intro))
       all_goals rfl
      |true =>
       rw[p,aKy]at n
       (repeat' first|simp(disch:=first|exact aq|fail) only[go_sem,<-d,p]|(apply av<;>intro))
       exact⟨j+1,⟨by omega,n⟩,by omega,by(exact bG)⟩
     ·rw[aKt q,aKA,aKy]at n
      (repeat' first|simp(disch:=first|exact aq|fail) only[go_sem]|(apply av<;>intro))
      exact⟨i+1,⟨by omega,n⟩,by omega,by(exact bG)⟩
  ·rw[aKt h,aKA]at c;have C:=fun{K:AV->Prop}{tg:aM K}=>y (K:=K) (tg:=tg) c.symm;rw[<-c,aKy]
   (repeat' first|simp(disch:=first|exact aq|fail) only[go_sem,C]|(apply av<;>intro))
   all_goals rfl
open Enc (enc)
def pj(l:List aU)(g:List I):Bool:=(k9 l 40&&(iu l []).getD false)&&oj 60 g&&(iu l g).getD false
noncomputable def agD:List kX:=[(13,jo fun(l:List I)(m:Int)=>enc (oj m l)),
 (5,jo fun(l:List aU)(g:List I)=>enc (pj l g)),
 (6,fun _=>some (enc (true)))]
noncomputable def la:bc:=jV nN (fT agD)
instance aIb{D:bc}[h:bq D la]:bq D nN:=h.nA
theorem aJY:gC la ([13,5,6]++([35,14,12]++([37,38,73,72,40]++([48,18]++([28,8]++([51,52]++([88,89,90]++([115,117,116,85,84,87]++([50,21,20,22,7]++([60]++([100]++([55]++([26,19]++([49]++([32,141,119,86,118]++[58,98,127,97,57,29,80,111,113,34,10,83,33,103,104]))))))))))))))):=gC.or aDN (nB agD)
theorem Q8(h:∀xs,fT agD f xs=F xs)(hk:(([35,14,12]++([37,38,73,72,40]++([48,18]++([28,8]++([51,52]++([88,89,90]++([115,117,116,85,84,87]++([50,21,20,22,7]++([60]++([100]++([55]++([26,19]++([49]++([32,141,119,86,118]++[58,98,127,97,57,29,80,111,113,34,10,83,33,103,104])))))))))))))):List Nat).contains f=false:=by rfl):∀xs,la f xs=F xs:=fun xs=>by rw[<-h];exact mS aDN hk
theorem aEe[bq D la]{l:List I}[aT x1 l][aT x2 m](h:aF ν aB 13 [enc l,enc m] (enc (oj m l))):bT ν aB D 13 [x1,x2] K tg=K (enc (oj m l)):=lI (D':=la) (F:=fun(l:List I)(m:Int)=>enc (oj m l)) (Q8 fun _=>rfl) h
theorem aEf[bq D la][aT x1 l][aT x2 g](h:aF ν aB 5 [enc l,enc g] (enc (pj l g))):bT ν aB D 5 [x1,x2] K tg=K (enc (pj l g)):=lI (D':=la) (F:=fun(l:List aU)(g:List I)=>enc (pj l g)) (Q8 fun _=>rfl) h
theorem aEg[bq D la]   (h:aF ν aB 6 [] (enc (true))):bT ν aB D 6 [] K tg=K (enc (true)):=avT (D':=la) ((show ∀xs,la 6 xs=some (enc (true)) from Q8 fun _=>rfl) []) h
theorem aEh[bq D la]{l:List I}[aT x1 l][aT x2 m](h:0<=m/\m<=1000) :bT ν aB D 13 [x1,x2] K tg=K (enc (oj m l)):=aEe (aDL l h)
attribute [go_sem ↓ 2000] aEh
theorem aEi[bq D nN][aT x1 l][aT x2 m](h:0<=m/\m<=1000)(U:k9 l m=true->(iu l []).isSome=true) :bT ν aB D 12 [x1,x2] K tg=K (enc (k9 l m&&(iu l []).getD false)):=aDP (aDR l m h U)
attribute [go_sem ↓ 2000] aEi
theorem aEj[bq D ir]{a:List I}[aT x1 l][aT x2 a](h:∀r∈l,∀a∈fU r,c0 a<=1000000)(U:(fq l a).isSome=true) :bT ν aB D 7 [x1,x2] K tg=K (nK (fq l a)):=EX (Fc l a h U)
attribute [go_sem ↓ 2000] aEj
theorem Fp(h:k9 l m=true):(l.length:Int)<=m/\∀r∈l,iH r.head<=20/\r.body.length<=8/\∀x∈r.body,iH x.atom<=20:=by
 simp only[k9,aKx,decide_eq_true_eq,aKE,ph]at h;exact⟨h.1,fun r b=>⟨QZ (by omega) (h.2 r b).1.1,(h.2 r b).1.2,fun x ah=>QZ (by omega) ((h.2 r b).2 x ah)⟩⟩
theorem aEk(h:k9 l m=true):∀r∈l,∀a∈fU r,c0 a<=1000000:=fun r b a aE=>by
 obtain⟨c,_,U⟩:=(Fp h).2 r b;simp only[fU,List.mem_cons,List.mem_map]at aE;rcases aE with rfl|⟨x,ah,rfl⟩
 ·have:=Jr 20 _ c;omega
 ·have:=Jr 20 _ (U x ah);omega
theorem Q9(h:oj 60 g=true):g.length<=60/\∀a∈g,iH a<=60:=by
 simp only[oj,aKx,decide_eq_true_eq,aKE]at h;exact⟨by omega,fun a aE=>QZ (by omega) (h.2 a aE)⟩
theorem aEl(h:pj l g=true):k9 l 40=true/\oj 60 g=true/\iu l g=some true:=by
 simp only[pj,aKx]at h;refine⟨h.1.1.1,h.1.2,?_⟩;cases c:iu l g with
 |none=>rw[c]at h;cases h.2|some b=>rw[c]at h;rw[show b=true from h.2]
theorem aEm(l:List aU)(g:List I)(p:∀r∈l,Cb r)(u:∀a∈g,fe 1048576 a):aF ν aB 5 [enc l,enc g] (enc (pj l g)):=by
 have az:k9 l 40=true->(iu l []).isSome=true:=fun h=>agy (fun r i=>⟨(p r i).1,((Fp h).2 r i).1⟩) (fun a aE=>by cases aE);cases c:(k9 l 40&&(iu l []).getD false)with
 |false =>
  have e:pj l g=false:=by rw[pj,c];rfl
  rw[e];refine aF.intro (D:=la) ase fp fg ?_;unfold Vq;simp(disch:=first|exact aq|fail) only[go_sem]
  (repeat' first|simp(disch:=first|exact aq|fail) only[go_sem,c]|(apply av<;>intro))
  all_goals rfl
 |true =>
  cases d:oj 60 g with
  |false =>
   have e:pj l g=false:=by rw[pj,c,d];rfl
   rw[e];refine aF.intro (D:=la) ase fp fg ?_;unfold Vq;simp(disch:=first|exact aq|fail) only[go_sem]
   (repeat' first|simp(disch:=first|exact aq|fail) only[go_sem,c,d]|(apply av<;>intro))
   all_goals rfl
  |true =>
   have j:k9 l 40=true:=by rw[aKx]at c;exact c.1
   have n:(iu l g).isSome=true:=agy (fun r i=>⟨(p r i).1,((Fp j).2 r i).1⟩) (fun a aE=>⟨u a aE,(Q9 d).2 a aE⟩);obtain⟨b,ae⟩:=Option.isSome_iff_exists.1 n;have e:pj l g=b:=by rw[pj,c,d,ae];rfl
   have o:l.all ph=true:=by rw[k9,aKx]at j;exact j.2
   have v:∀{K:AV->Prop}{tg:aM K},bT ν aB la 14 [.list none 3 (l.map aU.enc),.list none 2 (g.map I.enc)] K tg=K (enc b):=fun{K tg}=>by
    have w:=(Fp j).1;have x:=(Q9 d).1;have hd:=afV l g b (by omega) (af6 o) (by omega) ae;have q:(iu l g).getD false=b:=by rw[ae];rfl
    exact(af5 (D:=la) (K:=K) (tg:=tg) (x1:=enc l) (x2:=enc g) (l:=l) (g:=g) (by rw[q];exact hd)).trans (by rw[q])
   rw[e];refine aF.intro (D:=la) ase fp fg ?_;unfold Vq;simp(disch:=first|exact aq|fail) only[go_sem]
   (repeat' first|simp(disch:=first|exact aq|fail) only[go_sem,c,d,v]|(apply av<;>intro))
   all_goals rfl
theorem aEp[bq D la][aT x1 l][aT x2 g](b:∀r∈l,Cb r)(U:∀a∈g,fe 1048576 a) :bT ν aB D 5 [x1,x2] K tg=K (enc (pj l g)):=aEf (aEm l g b U)
attribute [go_sem ↓ 2000] aEp
open Enc (enc)
noncomputable def ar3:List kX:=[(9,fO fun(l:List I)=>enc (fu l))]
noncomputable def s8:bc:=jV la (fT ar3)
instance aKd{D:bc}[h:bq D s8]:bq D la:=h.nA
theorem aJZ(h:∀xs,fT ar3 f xs=F xs)(hk:(([13,5,6]++([35,14,12]++([37,38,73,72,40]++([48,18]++([28,8]++([51,52]++([88,89,90]++([115,117,116,85,84,87]++([50,21,20,22,7]++([60]++([100]++([55]++([26,19]++([49]++([32,141,119,86,118]++[58,98,127,97,57,29,80,111,113,34,10,83,33,103,104]))))))))))))))):List Nat).contains f=false:=by rfl):∀xs,s8 f xs=F xs:=fun xs=>by rw[<-h];exact mS aJY hk
variable {l:List I}
theorem aJ0[bq D s8][aT x1 l](h:aF ν aB 9 [enc l] (enc (fu l))):bT ν aB D 9 [x1] K tg=K (enc (fu l)):=gN (D':=s8) (F:=fun(l:List I)=>enc (fu l)) (aJZ fun _=>rfl) h
def Bl(L:List I):AV:=match L with
 |[]=>.aV 2|x::r=>enc (x::r)
variable {L:List I}
theorem HI(h:L≠[]):Bl L=.list none 2 (L.map I.enc):=by
 cases L with
 |nil=>exact absurd rfl h|cons x r=>rfl
theorem ar4(cq:jy L)(hk:k<=jU L t)(h:k<L.length->¬cf L[k]! t<0):k=jU L t:=by
 obtain⟨c,b,d⟩:=axv cq t;by_cases e:k=jU L t
 ·exact e
 ·exact absurd (b k (by omega)) (h (by omega))
theorem aJ1(ao:k=jU L t)(hk:k<L.length)(b:cf L[k]! t=0):vC L t=L:=by
 have ah:L[jU L t]?=some L[k]!:=by rw[<-ao,List.getElem?_eq_getElem hk,getElem!_pos L k hk]
 simp only[vC,ah,b,if_true]
theorem VE(ao:k=jU L t)(h:k<L.length->cf L[k]! t≠0):vC L t=L.take k++t::L.drop k:=by
 rcases aKq k L.length with hk|hk
 ·have ah:L[jU L t]?=some L[k]!:=by rw[<-ao,List.getElem?_eq_getElem hk,getElem!_pos L k hk]
  unfold vC;rw[ah];simp only[if_neg (h hk),<-ao]
 ·have ah:L[jU L t]?=none:=List.getElem?_eq_none (by omega);unfold vC;rw[ah];simp only[<-ao]
theorem aJ2(l:List I):aF ν aB 9 [enc l] (enc (fu l)):=by
 refine aF.l9 fun ae=>?_;obtain⟨ae,_⟩:=ae;have O:M=1099511627776:=rfl;refine aF.jl (D:=s8) aai fp fg (by exact Enc.jP _) ?_;unfold MU
 (repeat' first|simp(disch:=first|exact aq|fail) only[go_sem]|(apply av<;>intro))
 refine b9 (fun i:Nat=>⟨N [(0,.v (enc l)),(3,.v (Bl (fu (l.take i)))),(8,.v (enc l.length)),(9,.v (enc i))],[]⟩) (fun i=>i<=l.length) (fun i=>l.length-i) 0 (aKs _) (by(try simp(disch:=first|exact aq|fail) only[go_sem])<;>(first|rfl|(simp(disch:=first|exact a6|fail) only[cj,aKk,aKl,Env.ins,go_sem,show Bl (fu [])=.aV 2 from rfl];try rfl))) ?_;intro i ak;rcases aKq i l.length with h|h
 ·obtain⟨L,cg⟩:∃L,L=fu (l.take i):=⟨_,rfl⟩;have P:L.length<=i:=by have:=Od (l.take i);rw[aKH]at this;rw[cg];omega
  have az:fu (l.take i++[l[i]!])=vC L l[i]!:=by rw[fu,aJU,<-fu,cg]
  have cq:jy L:=cg▸sR _;obtain⟨z,Q,B⟩:=axv cq l[i]!;rw[<-cg]
  (repeat' first|simp(disch:=first|exact aq|fail) only[go_sem]|(apply av<;>intro))
  refine b9 (fun k:Nat=>⟨N [(0,.v (enc l)),(3,.v (Bl L)),(4,.v (enc i)),(5,.v (enc k)),(8,.v (enc l.length)),(9,.v (enc i))],[]⟩) (fun k=>k<=jU L l[i]!) (fun k=>jU L l[i]!-k) 0 (aKs _) (by(try simp(disch:=first|exact aq|fail) only[go_sem])<;>(exact bG)) ?_;intro k hk;have C:i<M:=by omega
  cases b:L.isEmpty with
  |true =>
   have c:L=[]:=by simpa using b
   subst c;have E:=VE (L:=[]) (t:=l[i]!) (k:=0) (by simp[jU,mR]) (fun h=>by simp at h);have G:k=0:=by simp only[aKw]at z;omega
   subst G;rw[show Bl []=.aV 2 from rfl]
   (repeat' first|simp(disch:=first|exact aq|fail) only[go_sem]|(apply av<;>intro))
   exact⟨i+1,by omega,by omega,by(first|rfl|(simp(disch:=first|exact a6|fail) only[cj,aKk,aKl,Env.ins,cJ,aKm,aKn,bZ,aKh,aKp,go_sem,az,E,Bl,List.nil_append];try rfl))⟩
  |false =>
   have c:L≠[]:=by simpa using b
   rw[HI c];have d:List.drop k (List.take L.length (L.map I.enc))=(L.drop k).map I.enc:=by rw[List.take_of_length_le (by simp),List.map_drop]
   have e:(List.take k (L.map I.enc)).length+1<=M:=by simp only[aKH,aKg];omega
   have j:(List.take k (L.map I.enc)++[l[i]!.enc]).length+(L.drop k).length<=M:=by simp only[aKr,aKH,aKg,aKu,aKw,List.length_drop];omega
   have n:List.take k (L.map I.enc)++[l[i]!.enc]++(L.drop k).map I.enc=List.map I.enc (L.take k++l[i]!::L.drop k):=by simp
   rcases aKq k L.length with v|v
   ·rcases aKJ (cf L[k]! l[i]!) 0 with w|w
    ·have o:k<jU L l[i]!:=by
      rcases aKq k (jU L l[i]!)with q|q
      ·exact q
      ·exact absurd w (B k q v)
     (repeat' first|simp(disch:=first|exact aq|fail) only[go_sem,w]|(apply av<;>intro))
     exact⟨k+1,by omega,by omega,by(first|rfl|(simp(disch:=first|exact a6|fail) only[cj,aKk,aKl,Env.ins,aKm,aKn,go_sem];try rfl))⟩
    ·have o:=ar4 cq hk (fun _=>by omega);have y:decide (cf L[k]! l[i]! < 0)=false:=decide_eq_false (by omega);by_cases u:cf L[k]! l[i]! = 0
     ·have p:=aJ1 o v u
      (repeat' first|simp(disch:=first|exact aq|fail) only[go_sem,u]|(apply av<;>intro))
      exact⟨i+1,by omega,by omega,by(first|rfl|(simp(disch:=first|exact a6|fail) only[cj,aKk,aKl,Env.ins,aKm,aKn,bZ,go_sem,az,p,HI c];try rfl))⟩
     ·have p:=VE o (fun _=>u);have cc:L.take k++l[i]!::L.drop k≠[]:=by simp
      (repeat' first|simp(disch:=first|exact aq|fail) only[go_sem,y,d,e,j]|(apply av<;>intro))
      exact⟨i+1,by omega,by omega,by(first|rfl|(simp(disch:=first|exact a6|fail) only[cj,aKk,aKl,Env.ins,aKm,aKn,bZ,aKj,aKh,go_sem,az,p,HI cc,n];try rfl))⟩
   ·have o:=ar4 cq hk (fun _=>by omega);have J:k=L.length:=by omega
    have p:=VE o (fun _=>by omega);have cc:L.take k++l[i]!::L.drop k≠[]:=by simp
    (repeat' first|simp(disch:=first|exact aq|fail) only[go_sem,d,e,j]|(apply av<;>intro))
    exact⟨i+1,by omega,by omega,by(first|rfl|(simp(disch:=first|exact a6|fail) only[cj,aKk,aKl,Env.ins,aKm,aKn,bZ,aKj,aKh,go_sem,az,p,HI cc,n];try rfl))⟩
 ·obtain rfl:i=l.length:=by omega
  rw[aKQ];cases dg:fu l with
  |nil =>
   rw[show Bl []=.aV 2 from rfl]
   (repeat' first|simp(disch:=first|exact aq|fail) only[go_sem]|(apply av<;>intro))
   exact⟨_,rfl,bQ.aV 2⟩
  |cons x r =>
   rw[HI (by simp)]
   (repeat' first|simp(disch:=first|exact aq|fail) only[go_sem]|(apply av<;>intro))
   exact⟨_,rfl,bQ.refl _⟩
open Enc (enc)
theorem aJ9[bq D s8][aT x1 l]  :bT ν aB D 9 [x1] K tg=K (enc (fu l)):=aJ0 (aJ2 l)
attribute [go_sem ↓ 2000] aJ9
theorem V5(h:iq l):(∀a,a∈k6 l↔a∈l)/\(k6 l).Nodup:=by
 have key:∀(l acc:List I),iq acc->iq l->acc.Nodup->(∀a,a∈l.foldl mg acc↔a∈acc\/a∈l)/\(l.foldl mg acc).Nodup:=fun l=>by
  induction l with
  |nil=>intro acc _ _ h;simp[h]|cons x r ih =>
   intro acc c d i;have ah:=d x (by simp);have hm:=aAM c ah;have j:(mg acc x).Nodup:=by
    unfold mg;split
    ·exact i
    ·rename_i q;rw[Pe c ah]at q;rw[List.nodup_append];exact⟨i,by simp,fun a aE b ae=>by rw[List.mem_singleton]at ae;rw[ae];exact fun e=>q (e▸aE)⟩
   obtain⟨n,o⟩:=ih (mg acc x) (fun a aE=>by rcases(hm a).1 aE with q|rfl;exact c a q;exact ah) (fun a aE=>d a (by simp[aE])) j;refine⟨fun a=>?_,o⟩;rw[List.foldl_cons,n,hm,List.mem_cons];grind
 simpa[k6]using key l [] (fun _ h=>by cases h) h .nil
theorem aKa{l:List aU}(h:fq l g=some (A,0))(cq:jy A):∃H,xX l A=(H,0)/\H.length<=512/\fu (g++H)=A:=by
 obtain⟨b,u,v,d⟩:=VX h;obtain⟨w,n⟩:=aJ8 h;obtain⟨e,_⟩:=V5 b;have c:∀x∈en l (k6 A),x∈A:=fun x ah=>(d x).2 (.inr ((ad3 e l x).1 ah));have o:iq (en l (k6 A)):=fun x ah=>b x (c x ah);obtain⟨i,p⟩:=V5 o;have j:(k6 (en l (k6 A))).length<=A.length:=List.Nodup.length_le_of_subset p fun x ah=>c x ((i x).1 ah);have q:A.all rV=true:=aKE.2 fun a aE=>by
  simp only[rV,rU,b a aE,n a aE,adN (b a aE),aKB]
 have r:k3 (en l (k6 A))=false:=by
  rw[k3,List.any_eq_false];intro x ah;have:=IV (b x (c x ah));simp;omega
 refine⟨fu (k6 (en l (k6 A))),?_,?_,?_⟩
 ·unfold xX;rw[if_neg (by omega),if_neg (by omega),q,r,if_neg (by simp),if_neg (by simp),if_neg (by omega)]
 ·have:=Od (k6 (en l (k6 A)));omega
 ·refine(Oe cq fun x=>?_).symm;rw[List.mem_append,oi,i,ad3 e,<-d]
theorem aEB(i:aF ν aB 6 [] (enc true))(l:List aU)(g:List I)(W:∀r∈l,Cb r)(X:∀a∈g,fe 1048576 a):aF ν aB 3 [enc l,enc g] (enc true):=by
 have Y:M=1099511627776:=rfl;have aE:=fun{K:AV->Prop}{tg:aM K}=>aEg (D:=s8) (K:=K) (tg:=tg) i;cases d:pj l g with
 |false =>
  refine aF.intro (D:=s8) HN (by simp only[aKz,aKA,Enc.arg,aKB]) fg ?_;unfold DX
  (repeat' first|simp(disch:=first|exact aq|fail) only[go_sem,d,aE]|(apply av<;>intro))
  all_goals rfl
 |true =>
 obtain⟨x,U,z⟩:=aEl d;have Z:=(Fp x).1;have fm:=(Q9 U).1;obtain⟨S,e,b,f2,B,E⟩:=agC z (fun r=>Iff.rfl) (fun a=>Iff.rfl);have j:=aEk x;have G:(fq l g).isSome=true:=by rw[b];rfl
 have c:nK (fq l g)=.a8 [enc S,.int .i64 e]:=by rw[b];rfl
 by_cases n:e=0
 ·subst n;obtain⟨A,C,J,o,_⟩:=E rfl;obtain⟨H,p,bY,O⟩:=aKa b B;have P:=(VX b).1;obtain⟨Q,T⟩:=V5 P;have ae:=C.ar2 T (fun a aE=>o a ((Q a).1 aE)) l (fun r h=>h);have y:=aC5 l S j (by omega);rw[p]at y;have q:=fun{K:AV->Prop}{tg:aM K}=>aC2 (D:=s8) (K:=K) (tg:=tg) (x1:=enc l) (x2:=enc S) (l:=l) (a:=S) (by rw[p];exact y);rw[p,show nK (some (H,0))=.a8 [enc H,.int .i64 0] from rfl]at q;have u:∀R:List aU,(enc R:AV)=.list none 3 (R.map aU.enc):=fun _=>rfl;have v:∀R:List I,(enc R:AV)=.list none 2 (R.map I.enc):=fun _=>rfl;simp only[u,v]at q;have w:g.map I.enc++H.map I.enc=(g++H).map I.enc:=by rw[aKj]
  have V:fS S S=true:=(D1 S S).2 rfl;refine aF.intro (D:=s8) HN (by simp only[aKz,aKA,Enc.arg,aKB]) fg ?_;unfold DX
  (repeat' first|simp(disch:=first|exact aq|fail) only[go_sem,d,aE,c,q,w,O,V]|(apply av<;>intro))
  all_goals rfl
 ·obtain rfl:=aJ7 b n;have he:((e:Int)==0)=false:=by simpa using n
  refine aF.intro (D:=s8) HN (by simp only[aKz,aKA,Enc.arg,aKB]) fg ?_;unfold DX
  (repeat' first|simp(disch:=first|exact aq|fail) only[go_sem,d,aE,c]|(apply av<;>intro))
  all_goals rfl
open Enc (enc)
def r1:Option (List ba×Bool)->AV
 |some (s,b)=>.a8 [kh s,.bool b]|none=>.a8 []
def Cf:Option (List ba×Bool)->AV
 |some (s,b)=>.a8 [enc s,.bool b]|none=>.a8 []
noncomputable def agN:List AV->Option AV
 |[_,_,y]=>fO (fun t:List ba=>enc t) [y]|_=>none
noncomputable def agO:List AV->Option AV:=fun _=>some (.aV 3)
noncomputable def agP:List AV->Option AV
 |[_,x,y]=>jo (fun(v:aj)(t:I)=>enc [ba.mk v t]) [x,y]|_=>none
noncomputable def Re:List kX:=[(105,fO fun(t:I)=>enc (uk t)),
 (106,jo fun(s:List ba)(v:aj)=>.a8 [.int .i64 (mu s v),.bool (qd s v)]),
 (107,jo fun(t:I)(u:I)=>enc (hi t u)),
 (109,fO fun(t:I)=>enc (t)),
 (134,agN),
 (135,agO),
 (108,agP),
 (77,rI fun(p:I)(g:I)(s:List ba)=>r1 (nP p g s)),
 (78,fO fun(s:List ba)=>enc (s)),
 (76,fO fun(s:List ba)=>enc (oE s)),
 (47,rI fun(p:I)(g:I)(s:List ba)=>Cf (r0 p g s))]
noncomputable def ea:bc:=jV mo (fT Re)
instance aIi{D:bc}[h:bq D ea]:bq D mo:=h.nA
theorem aEO:gC ea ([105,106,107,109,134,135,108,77,78,76,47]++([48,18]++([28,8]++([51,52]++([88,89,90]++([115,117,116,85,84,87]++([50,21,20,22,7]++([60]++([100]++([55]++([26,19]++([49]++([32,141,119,86,118]++[58,98,127,97,57,29,80,111,113,34,10,83,33,103,104]))))))))))))):=gC.or Je (nB Re)
theorem s9(h:∀xs,fT Re f xs=F xs)(hk:(([48,18]++([28,8]++([51,52]++([88,89,90]++([115,117,116,85,84,87]++([50,21,20,22,7]++([60]++([100]++([55]++([26,19]++([49]++([32,141,119,86,118]++[58,98,127,97,57,29,80,111,113,34,10,83,33,103,104])))))))))))):List Nat).contains f=false:=by rfl):∀xs,ea f xs=F xs:=fun xs=>by rw[<-h];exact mS Je hk
theorem aEP[bq D ea][aT x1 t](h:aF ν aB 105 [enc t] (enc (uk t))):bT ν aB D 105 [x1] K tg=K (enc (uk t)):=gN (D':=ea) (F:=fun(t:I)=>enc (uk t)) (s9 fun _=>rfl) h
variable {v:aj}
theorem aEQ[bq D ea][aT x1 s][aT x2 v](h:aF ν aB 106 [enc s,enc v] (.a8 [.int .i64 (mu s v),.bool (qd s v)])):bT ν aB D 106 [x1,x2] K tg=K (.a8 [.int .i64 (mu s v),.bool (qd s v)]):=lI (D':=ea) (F:=fun(s:List ba)(v:aj)=>.a8 [.int .i64 (mu s v),.bool (qd s v)]) (s9 fun _=>rfl) h
variable {u:I}
theorem aER[bq D ea][aT x1 t][aT x2 u](h:aF ν aB 107 [enc t,enc u] (enc (hi t u))):bT ν aB D 107 [x1,x2] K tg=K (enc (hi t u)):=lI (D':=ea) (F:=fun(t:I)(u:I)=>enc (hi t u)) (s9 fun _=>rfl) h
theorem agQ[bq D ea][aT x1 t](h:aF ν aB 109 [enc t] (enc (t))):bT ν aB D 109 [x1] K tg=K (enc (t)):=gN (D':=ea) (F:=fun(t:I)=>enc (t)) (s9 fun _=>rfl) h
theorem aES[bq D ea][aT x1 s](h:aF ν aB 78 [enc s] (enc (s))):bT ν aB D 78 [x1] K tg=K (enc (s)):=gN (D':=ea) (F:=fun(s:List ba)=>enc (s)) (s9 fun _=>rfl) h
theorem aET[bq D ea][aT x1 s](h:aF ν aB 76 [enc s] (enc (oE s))):bT ν aB D 76 [x1] K tg=K (enc (oE s)):=gN (D':=ea) (F:=fun(s:List ba)=>enc (oE s)) (s9 fun _=>rfl) h
theorem aEU(t:I):aF ν aB 105 [enc t] (enc (uk t)):=by
 have U:((t.args.length:Int)==0)=decide (t.args.length=0):=by rw[aKG];simp
 unfold uk;refine aF.intro (D:=ea) aaE fp fg ?_;unfold Y9;simp(disch:=first|exact aq|fail) only[go_sem];cases b:decide (t.args.length=0)<;>cases c:e9 t.name;all_goals (repeat' first|simp(disch:=first|exact aq|fail) only[go_sem,U,b,c]|(apply av<;>intro))
 all_goals rfl
theorem aEV[bq D ea][aT x1 t]  :bT ν aB D 105 [x1] K tg=K (enc (uk t)):=aEP (aEU t)
attribute [go_sem ↓ 2000] aEV
theorem agR(b:ba)(v:aj):aF ν aB 132 [enc b,enc v] (enc (dk b.var v)):=by
 refine aF.intro (D:=ea) arG fp fg ?_;unfold aqC;simp(disch:=first|exact aq|fail) only[go_sem]
 (repeat' first|simp(disch:=first|exact aq|fail) only[go_sem]|(apply av<;>intro))
 all_goals rfl
theorem aEW(s:List ba)(v:aj)(y:s.length<=M) :
  bn ν aB 131 [enc s,enc v,.fn 132 []] H fun r H'=>r=.a8 [.int .i64 (mu s v),.bool (qd s v)]/\H'=H:=by
 have z:M=1099511627776:=rfl;have e:=(w9 arG).1;obtain⟨c,b⟩:∃c:Nat->Bool,c=fun k:Nat=>decide (dk s[k]!.var v<0):=⟨_,rfl⟩;have n:mu s v=pk c s.length 0 s.length:=by rw[b];rfl
 refine bn.intro (D:=ea) aJq ?_;unfold aqA
 (repeat' first|simp(disch:=first|exact aq|fail) only[go_sem]|(apply av<;>intro))
 refine b9 (fun p:Nat×Nat=>⟨N [(0,.v (enc s)),(1,.v (enc v)),(2,.v (.fn 132 [])),(8,.v (enc s.length)),(9,.v (enc p.1)),(10,.v (enc p.2))],H⟩)
  (fun p=>p.1<=p.2/\p.2<=s.length/\pk c s.length p.1 p.2=mu s v) (fun p=>p.2-p.1) (0,s.length) ⟨aKs _,aKC _,n.symm⟩ (by(try simp(disch:=first|exact aq|fail) only[go_sem])<;>(exact bG)) ?_
 rintro⟨bh,ak⟩ ⟨o,q,d⟩;simp only at o q d;rcases aKq bh ak with h|h
 ·obtain⟨m,hm⟩:∃m,m=(bh+ak) / 2:=⟨_,rfl⟩;have B:m<s.length:=by omega
  have az:=aEK c (f:=s.length) (by omega) h;rw[<-hm]at az;have w:c m=decide (dk s[m]!.var v<0):=by simp only[b]
  rw[w]at az;have i:((bh:Int)+(ak:Int)) / 2=(m:Int):=by omega
  have hd:=agR s[m]! v;rcases aKJ (dk s[m]!.var v) 0 with b|b
  ·rw[decide_eq_true b,if_pos rfl]at az
   (repeat' first|simp(disch:=first|exact aq|fail) only[go_sem,i,iV]|(apply av<;>intro)|refine By e hd ?_)
   exact⟨(m+1,ak),⟨by simp only;omega,by simp only;omega,az.symm.trans d⟩,by simp only;omega,by(exact bG)⟩
  ·rw[decide_eq_false (by omega),if_neg (by simp)]at az
   (repeat' first|simp(disch:=first|exact aq|fail) only[go_sem,i,iV]|(apply av<;>intro)|refine By e hd ?_)
   exact⟨(bh,m),⟨by simp only;omega,by simp only;omega,az.symm.trans d⟩,by simp only;omega,by(exact bG)⟩
 ·have ao:mu s v=bh:=by rw[<-d,Fq c (by omega)]
  have x:qd s v=(decide (bh<s.length)&&(dk s[bh]!.var v==0)):=by rw[qd,ao]
  rw[ao,x];rcases aKq bh s.length with j|j
  ·rw[decide_eq_true j,aKy];have hd:=agR s[bh]! v
   (repeat' first|simp(disch:=first|exact aq|fail) only[go_sem,iV]|(apply av<;>intro)|refine By e hd ?_)
   exact⟨_,rfl,by first|exact⟨rfl,rfl⟩|rfl⟩
  ·rw[decide_eq_false (by omega),aKv]
   (repeat' first|simp(disch:=first|exact aq|fail) only[go_sem]|(apply av<;>intro))
   exact⟨_,rfl,by first|exact⟨rfl,rfl⟩|rfl⟩
theorem aEX(s:List ba)(v:aj)(b:s.length<=M):aF ν aB 106 [enc s,enc v] (.a8 [.int .i64 (mu s v),.bool (qd s v)]):=by
 have ae:=aEW (H:=[]) s v b;refine aF.intro (D:=ea) atq (by simp only[aKz,aKA,Enc.arg,aKB]) rfl ?_;unfold Zc
 (repeat' first|simp(disch:=first|exact aq|fail) only[go_sem]|(apply av<;>intro)|refine b6 ae ?_)
 all_goals rfl
theorem aEY[bq D ea][aT x1 s][aT x2 v](h:s.length<=M) :bT ν aB D 106 [x1,x2] K tg=K (.a8 [.int .i64 (mu s v),.bool (qd s v)]):=aEQ (aEX s v h)
attribute [go_sem ↓ 2000] aEY
theorem aEZ{m:List I}{i:Nat}(b:i<l.length)(U:i<m.length):fS (l.drop i) (m.drop i)=(hi l[i]! m[i]!&&fS (l.drop (i+1)) (m.drop (i+1))):=by
 rw[fY b,fY U,fS]
theorem aE0(l m:List I)(j:l.length<=M/\m.length<=M)(h:∀t∈l,∀u,aF ν aB 107 [enc t,enc u] (enc (hi t u))) :
  bn ν aB 133 [enc l,enc m,.fn 107 []] H fun r H'=>r=.bool (decide (l.length=m.length)&&fS l m)/\H'=H:=by
 have n:M=1099511627776:=rfl;have d:=(w9 atr).1;refine bn.intro (D:=ea) aJr ?_;unfold aqI;rcases Decidable.em (l.length=m.length)with c|c
 ·have cc:((l.length:Int) != (m.length:Int))=false:=by rw[c];simp
  rw[decide_eq_true c,aKy]
  (repeat' first|simp(disch:=first|exact aq|fail) only[go_sem,cc]|(apply av<;>intro))
  refine b9 (fun i:Nat=>⟨N [(1,.v (enc m)),(2,.v (.fn 107 [])),(15,.v (enc l)),(16,.v (enc l.length)),(17,.v (enc i))],H⟩) (fun i=>i<=l.length/\fS (l.drop i) (m.drop i)=fS l m) (fun i=>l.length-i) 0 ⟨aKs _,rfl⟩ (by(try simp(disch:=first|exact aq|fail) only[go_sem])<;>(exact bG)) ?_;rintro i ⟨o,b⟩;rcases aKq i l.length with ak|ak
  ·have hd:=h l[i]! (ft ak) m[i]!;rw[aEZ ak (by omega)]at b;cases e:hi l[i]! m[i]! with
   |true =>
    rw[e]at hd b;rw[aKy]at b
    (repeat' first|simp(disch:=first|exact aq|fail) only[go_sem,iV]|(apply av<;>intro)|refine By d hd ?_)
    exact⟨i+1,⟨by omega,b⟩,by omega,by(exact bG)⟩
   |false =>
    rw[e]at hd b;rw[aKv]at b
    (repeat' first|simp(disch:=first|exact aq|fail) only[go_sem,iV]|(apply av<;>intro)|refine By d hd ?_)
    exact⟨_,rfl,by first|(rw[<-b];done)|(rw[<-b];exact⟨rfl,rfl⟩)⟩
  ·rw[aKt ak,aKt (by omega),fS]at b
   (repeat' first|simp(disch:=first|exact aq|fail) only[go_sem]|(apply av<;>intro))
   exact⟨_,rfl,by first|(rw[<-b];done)|(rw[<-b];exact⟨rfl,rfl⟩)⟩
 ·have cc:((l.length:Int) != (m.length:Int))=true:=by simp;omega
  rw[decide_eq_false c,aKv]
  (repeat' first|simp(disch:=first|exact aq|fail) only[go_sem,cc]|(apply av<;>intro))
  exact⟨_,rfl,by first|exact⟨rfl,rfl⟩|rfl⟩
theorem agS:∀{l m:List I},fS l m=true->l.length=m.length
 |[],[],_=>rfl|_::_,_::_,h=>by simp only[fS,aKx]at h;simp only[aKu,agS h.2]|[],_::_,h=>by simp[fS]at h|_::_,[],h=>by simp[fS]at h
theorem aE1:∀t u:I,aF ν aB 107 [enc t,enc u] (enc (hi t u)):=I.ind fun t ih u=>by
 refine aF.zf fun h i=>?_;have j:M=1099511627776:=rfl;have c:(decide (t.args.length=u.args.length)&&fS t.args u.args)=fS t.args u.args:=by
  cases d:fS t.args u.args with
  |true=>rw[decide_eq_true (agS d)];rfl|false=>rw[Bool.and_false]
 have e:=aE0 (H:=[]) t.args u.args ⟨((I.o4 t).1 h).2.1,((I.o4 u).1 i).2.1⟩ ih;rw[c]at e;have he:hi t u=(t.name==u.name&&fS t.args u.args):=by
  obtain⟨n,a⟩:=t;obtain⟨m,b⟩:=u;rfl
 rw[he];refine aF.intro (D:=ea) atr fp fg ?_;unfold Ze;simp(disch:=first|exact aq|fail) only[go_sem];cases d:t.name==u.name;all_goals (repeat' first|simp(disch:=first|exact aq|fail) only[go_sem]|(apply av<;>intro)|refine b6 e ?_)
 all_goals rfl
theorem aE2[bq D ea][aT x1 t][aT x2 u]  :bT ν aB D 107 [x1,x2] K tg=K (enc (hi t u)):=aER (aE1 t u)
attribute [go_sem ↓ 2000] aE2
theorem aE3:∀t:I,aF ν aB 109 [enc t] (enc t):=I.ind fun t ih=>by
 refine aF.l9 fun ae=>?_;have q:=(I.o4 t).1 ae;have r:=q.2.1;have y:M=1099511627776:=rfl;obtain⟨w,ck⟩:=t;simp only[I.args]at ih r;obtain⟨b,o⟩:∃b:Nat->AV,b=fun i:Nat=>if i=0 then AV.aV 2 else .list (some 32) 2 ((ck.take i).map I.enc):=⟨_,rfl⟩;have d:b 0=.aV 2:=by rw[o];rfl
 have c:∀i,b (i+1)=.list (some 32) 2 ((ck.take (i+1)).map I.enc):=fun i=>by rw[o];exact if_neg (by omega)
 refine aF.jl (D:=ea) att (by simp only[aKz,aKA,Enc.arg,aKB]) (Enc.res _) (Enc.jP _) ?_;unfold Zi
 (repeat' first|simp(disch:=first|exact aq|fail) only[go_sem,aKK,aKL]|(apply av<;>intro))
 refine b9 (fun i:Nat=>⟨N [(2,.b [.str [],.aV 2]),(3,.v (.ptr 0 0)),(10,.v (enc ck)),(11,.v (enc ck.length)),(12,.v (enc i))],[.cells [.str w,b i]]⟩)
  (fun i=>i<=ck.length) (fun i=>ck.length-i) 0 (aKs _) (by(try simp(disch:=first|exact aq|fail) only[go_sem])<;>(first|rfl|(simp(disch:=first|exact a6|fail) only[cj,aKk,aKl,Env.ins,go_sem,d];try rfl))) ?_
 intro i ak;rcases aKq i ck.length with h|h
 ·have hd:=ih ck[i]! (ft h);have p:=fun{K:AV->Prop}{tg:aM K}(z:i<ck.length)=>agQ (D:=ea) (K:=K) (tg:=tg) (x1:=ck[i]!.enc) (hd);have x:(ck.take i).length=i:=by rw[aKH];omega
  cases i with
  |zero =>
   (repeat' first|simp(disch:=first|exact aq|fail) only[go_sem,p,d,aKK,aKL]|(apply av<;>intro))
   exact⟨1,by omega,by omega,by(first|rfl|(simp(disch:=first|exact a6|fail) only[cj,aKk,aKl,Env.ins,aKn,bZ,aKh,aKp,go_sem,c 0];try rfl))⟩
  |succ i =>
   (repeat' first|simp(disch:=first|exact aq|fail) only[go_sem,p,c i,x,aKg,aKK,aKL]|(apply av<;>intro))
   exact⟨i+2,by omega,by omega,by(first|rfl|(simp(disch:=first|exact a6|fail) only[cj,aKk,aKl,Env.ins,aKm,bZ,aKj,aKh,aKp,go_sem,c (i+1)];try rfl))⟩
 ·obtain rfl:i=ck.length:=by omega
  rcases Nat.eq_zero_or_pos ck.length with e|e
  ·have j:ck=[]:=List.length_eq_zero_iff.1 e;have n:b ck.length=.aV 2:=by rw[e];exact d
   (repeat' first|simp(disch:=first|exact aq|fail) only[go_sem,n,aKK,aKL]|(apply av<;>intro))
   exact⟨_,rfl,by rw[j];exact bQ.agg (.cons (bQ.refl _) (.cons (bQ.aV 2) .nil))⟩
  ·have n:b ck.length=.list (some 32) 2 (ck.map I.enc):=by
    have:=c (ck.length-1);rw[show ck.length-1+1=ck.length by omega,aKQ]at this;exact this
   (repeat' first|simp(disch:=first|exact aq|fail) only[go_sem,n,aKK,aKL]|(apply av<;>intro))
   exact⟨_,rfl,bQ.agg (.cons (bQ.refl _) (.cons (by first|exact bQ.refl _|(rw[vj];exact bQ.refl _)|exact bQ.disown _ _ _) .nil))⟩
theorem aE5[bq D ea][aT x1 t]  :bT ν aB D 109 [x1] K tg=K (enc (t)):=agQ (aE3 t)
attribute [go_sem ↓ 2000] aE5
end AM
