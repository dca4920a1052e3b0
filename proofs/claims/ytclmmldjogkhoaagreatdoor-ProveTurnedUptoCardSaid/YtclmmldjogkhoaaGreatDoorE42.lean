/- What functions of the given program do, as calls of the machine. Conditions: names and lists are bounded where that is said. -/
import Derived.Test.YtclmmldjogkhoaaGreatDoorE29
import Derived.Test.YtclmmldjogkhoaaGreatDoorAm20
import Derived.Test.YtclmmldjogkhoaaGreatDoorW1
set_option linter.unusedSimpArgs false
set_option maxRecDepth 100000
set_option maxHeartbeats 4000000
set_option linter.unusedVariables false
namespace AM
open List renaming length_map -> I9,map_cons -> Ja,foldr_cons -> LW,foldr_nil -> TH,take_zero -> aB5,map_append -> aB8,map_nil -> aB9,length_append -> aHk,drop_eq_nil_of_le -> aIA,length_cons -> aIB,length_nil -> aIC,length_set -> aIF,all_eq_true -> aII,mem_cons_of_mem -> aIM,filterMap_nil -> aIN,append_nil -> aIO,length_filterMap_le -> aIP
open Int renaming natCast_add -> fM,natCast_one -> aeZ,natCast_zero -> ae0
open Nat renaming lt_or_ge -> aHV,zero_le -> aHW,le_refl -> aIH
open Bool renaming and_eq_true -> aID,false_and -> aIE,false_eq_true -> aIG,true_and -> aIJ,false_or -> aIK,eq_iff_iff -> aIL
open Go Go.Proofs
open Tryz renaming prog -> ν
open Enc (enc)
def oA(fP:Bool)(out:List (List ba)):List AV:=if fP then[.aV 3]else out.map enc
def pg(fP:Bool):Option Nat:=if fP then some 73 else none
theorem k7(a:Bool)(sz:Nat)(xs:List AV):AV.aW (.list (pg a) sz xs)=.list none sz xs:=by cases a<;>rfl
variable {fP:Bool}{out:List (List ba)}
theorem Qs(h:fP=true->out=[[]]):(oA fP out).length=out.length:=by
 cases fP with
 |true=>rw[h rfl];rfl|false=>simp[oA]
theorem Qt(h:fP=true->out=[[]]){k:Nat}(hk:k<out.length):(oA fP out)[k]?=some (if fP then .aV 3 else enc out[k]!):=by
 cases fP with
 |true =>
  have:=h rfl;subst this;obtain rfl:k=0:=by simpa using hk
  rfl
 |false=>simp[oA,hk]
variable {a:I}{s:List ba}{A:List I}
theorem aDA{j:Nat}(h:j<A.length)(b:List (List ba))(left:Int):kg a s (A.drop j) b left=if A[j]!.name != a.name||decide (A[j]!.args.length≠a.args.length)then kg a s (A.drop (j+1)) b left
  else if decide (left-1<0)||decide ((if(eO a A[j]! s).2 then b++[(eO a A[j]! s).1]else b).length>5000)then none
  else kg a s (A.drop (j+1)) (if(eO a A[j]! s).2 then b++[(eO a A[j]! s).1]else b) (left-1):=by
 rw[fY h,kg]
def gu(H:List ax)(w:Nat)(left:Int):List ax:=H.set w (.cells [.int .i64 left])
variable {H:List ax}{left:Int}
theorem Qu{w:Nat}(h:w<H.length):(gu H w left)[w]?=some (.cells [.int .i64 left]):=by simp[gu,h]
theorem Fj(H:List ax)(w:Nat)(l b:Int):(gu H w l).set w (.cells [.int .i64 b])=gu H w b:=by simp[gu]
def Qv(H:List ax)(w:Nat)(R:Option (List (List ba)×Int))(r:AV)(H':List ax):Prop:=match R with
 |none=>r=.a8 [.aV 1,.bool false]/\∃l,H'=gu H w l|some (out,l)=>(∃fP,(fP=true->out=[[]])/\r=.a8 [.list none 1 (oA fP out),.bool true])/\H'=gu H w l
def Qw(H:List ax)(w:Nat)(jt:AV)(A:List I):Prop:=(jt=.aV 2/\A=[])\/∃id,jt=.bs id 0 A.length 2/\H[id]?=some (.buf 30 (cM A))/\id≠w
theorem aDB{w:Nat}{L:AV}(B:List Lit)(A:List I)(hw:H[w]?=some (.cells [.int .i64 left]))(rk:Qw H w L A)(aD:0<=left/\left<=1000000)(fl:B.length<=8)(afP:∀x∈B,(dG x.atom).length<=1000)(cq:A.length<=M) :
  bn ν aB 30 [.ptr w 0,enc B,L] H (Qv H w (j2 A B [[]] left)):=by
 have dh:M=1099511627776:=rfl;have aDC:=dd hw;have xM:gu H w left=H:=by rw[gu];exact zr hw
 obtain⟨R,dN⟩:∃R,R=j2 A B [[]] left:=⟨_,rfl⟩;rw[<-dN];rcases rk with⟨b,FN⟩|⟨id,b,bM,cc⟩
 ·have BZ:A.length=0:=by rw[FN];rfl
  have g:(A.length:Int)=0:=by omega
  refine bn.intro (D:=fV) aal ?_;unfold MY
  (repeat' first|simp(disch:=first|exact aq|fail) only[go_sem,b,g,k7]|(apply av<;>intro))
  refine b9 (fun q:Nat×Bool×List (List ba)×Int=>⟨N [(0,.v (.ptr w 0)),(1,.v (enc B)),(2,.v L),(8,.v (.list (pg q.2.1) 1 (oA q.2.1 q.2.2.1))),(18,.v (enc B.length)),(19,.v (enc q.1))],gu H w q.2.2.2⟩)
   (fun q=>q.1<=B.length/\(q.2.1=true->q.2.2.1=[[]])/\(0<=q.2.2.2/\q.2.2.2<=1000000)/\q.2.2.1.length<=5000/\p8 (1000*q.1) q.2.2.1/\j2 A (B.drop q.1) q.2.2.1 q.2.2.2=R) (fun q=>B.length-q.1) (0,true,[[]],left) ⟨aHW _,fun _=>rfl,aD,by simp,fun s az=>by simp at az;rw[az];simp,dN.symm⟩ (by(try simp(disch:=first|exact aq|fail) only[go_sem,b,g])<;>(first|rfl|(simp(disch:=first|exact a6|fail) only[cj,LW,TH,Env.ins,cE,cF,cG,cH,cI,cJ,cK,cL,I.b8,I9,fM,aeZ,ae0,aB5,bZ,aB8,Ja,aB9,cS,cT,go_sem,b,g,xM,oA,pg];try rfl))) ?_
  rintro⟨i,fP,out,z⟩ ⟨i1,m,C,T,E,e⟩;simp only at i1 m C T E e;have BO:=Qs m;rcases aHV i B.length with ak|ak
  ·obtain⟨x,ah⟩:∃x,x=B[i]!:=⟨_,rfl⟩;have na:=afP B[i]! (ft ak);rw[<-ah]at na;rw[fY ak,j2,<-ah]at e;cases n:(x.neg||x.atom.name==hW)with
   |true =>
    rw[n,if_pos rfl]at e;cases o:x.neg with
    |true =>
     (repeat' first|simp(disch:=first|exact aq|fail) only[go_sem,b,g,k7,<-ah,o]|(apply av<;>intro))
     exact⟨(i+1,fP,out,z),⟨by simp only;omega,m,C,T,fun s az=>by have:=E s az;simp only;omega,e⟩,by simp only;omega,by(first|rfl|(simp(disch:=first|exact a6|fail) only[cj,LW,TH,Env.ins,cE,cF,cG,cH,cI,cJ,cK,cL,I.b8,I9,fM,aeZ,ae0,aB5,bZ,aB8,Ja,aB9,cS,cT,go_sem,b,g];try rfl))⟩
    |false =>
     have p:(x.atom.name==[100,105,115,116,105,110,99,116])=true:=by rw[o,aIK]at n;exact n
     (repeat' first|simp(disch:=first|exact aq|fail) only[go_sem,b,g,k7,<-ah,o,p]|(apply av<;>intro))
     exact⟨(i+1,fP,out,z),⟨by simp only;omega,m,C,T,fun s az=>by have:=E s az;simp only;omega,e⟩,by simp only;omega,by(first|rfl|(simp(disch:=first|exact a6|fail) only[cj,LW,TH,Env.ins,cE,cF,cG,cH,cI,cJ,cK,cL,I.b8,I9,fM,aeZ,ae0,aB5,bZ,aB8,Ja,aB9,cS,cT,go_sem,b,g];try rfl))⟩
   |false =>
    rw[n,if_neg (by simp)]at e;simp only[Bool.or_eq_false_iff]at n;obtain⟨o,p⟩:=n;have p:(x.atom.name==[100,105,115,116,105,110,99,116])=false:=p
    (repeat' first|simp(disch:=first|exact aq|fail) only[go_sem,b,g,k7,<-ah,o,p]|(apply av<;>intro))
    obtain⟨Y,gp⟩:∃Y,Y=lQ x.atom A out [] z:=⟨_,rfl⟩;rw[<-gp]at e;refine b9 (fun q:Nat×List (List ba)×Int=>⟨N [(0,.v (.ptr w 0)),(1,.v (enc B)),(2,.v L),(8,.v (.list (pg fP) 1 (oA fP out))),(10,.b [.str x.atom.name,.list none 2 (x.atom.args.map I.enc)]),(11,.v (.list (some 73) 1 (q.2.1.map enc))),(18,.v (enc B.length)),(19,.v (enc i)),(38,.v (enc out.length)),(39,.v (enc q.1))],gu H w q.2.2⟩)
     (fun q=>q.1<=out.length/\(0<=q.2.2/\q.2.2<=1000000)/\q.2.1.length<=5000/\p8 (1000*(i+1)) q.2.1/\lQ x.atom A (out.drop q.1) q.2.1 q.2.2=Y) (fun q=>out.length-q.1) (0,[],z) ⟨aHW _,C,by simp,fun s az=>by simp at az,gp.symm⟩ (by(try simp(disch:=first|exact aq|fail) only[go_sem,b,g])<;>(first|rfl|(simp(disch:=first|exact a6|fail) only[cj,LW,TH,Env.ins,cE,cF,cG,cH,cI,cJ,cK,cL,I.b8,I9,fM,aeZ,ae0,aB5,bZ,aB8,Ja,aB9,cS,cT,go_sem,b,g,BO];try rfl))) ?_
    rintro⟨k,U,V⟩ ⟨cY,W,eU,gS,f⟩;simp only at cY W eU gS f;rcases aHV k out.length with hk|hk
    ·have r:=Qt m hk;obtain⟨s,az⟩:∃s,s=out[k]!:=⟨_,rfl⟩;have rf:=E out[k]! (ft hk);rw[<-az]at r rf;rw[fY hk,lQ,<-az]at f;obtain⟨Z,rM⟩:∃Z,Z=kg x.atom s A U V:=⟨_,rfl⟩;rw[<-rM]at f;have hq:s.length+(dG x.atom).length<=1000000:=by omega
     have Qx:∀t,(eO x.atom t s).1.length<=1000*(i+1):=fun t=>by have:=Fi x.atom t s;omega
     obtain⟨v,s6⟩:∃v,v=(if fP then AV.aV 3 else enc s):=⟨_,rfl⟩;rw[<-s6]at r;have s7:(v=.aV 3/\s=[])\/v=.list none 3 (s.map ba.enc):=by
      cases fP with
      |true =>
       refine .inl ⟨s6,?_⟩;have:=m rfl;rw[az,this];obtain rfl:k=0:=by rw[this]at hk;simpa using hk
       rfl
      |false=>exact .inr s6
     (repeat' first|simp(disch:=first|exact aq|fail) only[go_sem,b,g,k7]|(apply av<;>intro))
     refine b9 (fun q:Nat×List (List ba)×Int=>⟨N [(0,.v (.ptr w 0)),(1,.v (enc B)),(2,.v L),(8,.v (.list (pg fP) 1 (oA fP out))),(10,.b [.str x.atom.name,.list none 2 (x.atom.args.map I.enc)]),(11,.v (.list (some 73) 1 (q.2.1.map enc))),(12,.v (enc k)),(18,.v (enc B.length)),(19,.v (enc i)),(38,.v (enc out.length)),(39,.v (enc k)),(43,.v (enc A.length)),(44,.v (enc q.1))],gu H w q.2.2⟩)
      (fun q=>q.1<=A.length/\(0<=q.2.2/\q.2.2<=1000000)/\q.2.1.length<=5000/\p8 (1000*(i+1)) q.2.1/\kg x.atom s (A.drop q.1) q.2.1 q.2.2=Z) (fun q=>A.length-q.1) (0,U,V) ⟨aHW _,W,eU,gS,rM.symm⟩ (by(try simp(disch:=first|exact aq|fail) only[go_sem,b,g])<;>(first|rfl|(simp(disch:=first|exact a6|fail) only[cj,LW,TH,Env.ins,cE,cF,cG,cH,cI,cJ,cK,cL,I.b8,I9,fM,aeZ,ae0,aB5,bZ,aB8,Ja,aB9,cS,cT,go_sem,b,g];try rfl))) ?_
     rintro⟨j,y,F⟩ ⟨dM,dx,O,G,c⟩;simp only at dM dx O G c;rcases aHV j A.length with aZ|aZ
     ·exfalso;omega
     ·rw[aIA aZ,kg]at c;rw[<-c]at f
      (repeat' first|simp(disch:=first|exact aq|fail) only[go_sem,b,g,k7]|(apply av<;>intro))
      exact⟨(k+1,y,F),⟨by simp only;omega,dx,O,G,f⟩,by simp only;omega,by(first|rfl|(simp(disch:=first|exact a6|fail) only[cj,LW,TH,Env.ins,cE,cF,cG,cH,cI,cJ,cK,cL,I.b8,I9,fM,aeZ,ae0,aB5,bZ,aB8,Ja,aB9,cS,cT,go_sem,b,g];try rfl))⟩
    ·rw[aIA hk,lQ]at f;rw[<-f]at e
     (repeat' first|simp(disch:=first|exact aq|fail) only[go_sem,b,g,k7]|(apply av<;>intro))
     exact⟨(i+1,false,U,V),⟨by simp only;omega,fun h=>(by cases h),W,eU,gS,e⟩,by simp only;omega,by(first|rfl|(simp(disch:=first|exact a6|fail) only[cj,LW,TH,Env.ins,cE,cF,cG,cH,cI,cJ,cK,cL,I.b8,I9,fM,aeZ,ae0,aB5,bZ,aB8,Ja,aB9,cS,cT,go_sem,b,g,oA,pg,aIG,if_false];try rfl))⟩
  ·rw[aIA ak,j2]at e;rw[<-e];have Qy:pg true=some 73:=rfl;have Qz:pg false=none:=rfl;cases fP with
   |true =>
    (repeat' first|simp(disch:=first|exact aq|fail) only[go_sem,b,g,Qy]|(apply av<;>intro))
    exact⟨_,rfl,⟨true,m,rfl⟩,rfl⟩
   |false =>
    (repeat' first|simp(disch:=first|exact aq|fail) only[go_sem,b,g,Qz]|(apply av<;>intro))
    exact⟨_,rfl,⟨false,m,rfl⟩,rfl⟩
 ·have d:∀l,(gu H w l)[id]?=some (.buf 30 (cM A)):=fun l=>by rw[gu,b5 (Ne.symm cc)];exact bM
  refine bn.intro (D:=fV) aal ?_;unfold MY
  (repeat' first|simp(disch:=first|exact aq|fail) only[go_sem,b,d,k7]|(apply av<;>intro))
  refine b9 (fun q:Nat×Bool×List (List ba)×Int=>⟨N [(0,.v (.ptr w 0)),(1,.v (enc B)),(2,.v L),(8,.v (.list (pg q.2.1) 1 (oA q.2.1 q.2.2.1))),(18,.v (enc B.length)),(19,.v (enc q.1))],gu H w q.2.2.2⟩)
   (fun q=>q.1<=B.length/\(q.2.1=true->q.2.2.1=[[]])/\(0<=q.2.2.2/\q.2.2.2<=1000000)/\q.2.2.1.length<=5000/\p8 (1000*q.1) q.2.2.1/\j2 A (B.drop q.1) q.2.2.1 q.2.2.2=R) (fun q=>B.length-q.1) (0,true,[[]],left) ⟨aHW _,fun _=>rfl,aD,by simp,fun s az=>by simp at az;rw[az];simp,dN.symm⟩ (by(try simp(disch:=first|exact aq|fail) only[go_sem,b,d])<;>(first|rfl|(simp(disch:=first|exact a6|fail) only[cj,LW,TH,Env.ins,cE,cF,cG,cH,cI,cJ,cK,cL,I.b8,I9,fM,aeZ,ae0,aB5,bZ,aB8,Ja,aB9,cS,cT,go_sem,b,d,xM,oA,pg];try rfl))) ?_
  rintro⟨i,fP,out,z⟩ ⟨i1,m,C,T,E,e⟩;simp only at i1 m C T E e;have BO:=Qs m;rcases aHV i B.length with ak|ak
  ·obtain⟨x,ah⟩:∃x,x=B[i]!:=⟨_,rfl⟩;have na:=afP B[i]! (ft ak);rw[<-ah]at na;rw[fY ak,j2,<-ah]at e;cases n:(x.neg||x.atom.name==hW)with
   |true =>
    rw[n,if_pos rfl]at e;cases o:x.neg with
    |true =>
     (repeat' first|simp(disch:=first|exact aq|fail) only[go_sem,b,d,k7,<-ah,o]|(apply av<;>intro))
     exact⟨(i+1,fP,out,z),⟨by simp only;omega,m,C,T,fun s az=>by have:=E s az;simp only;omega,e⟩,by simp only;omega,by(first|rfl|(simp(disch:=first|exact a6|fail) only[cj,LW,TH,Env.ins,cE,cF,cG,cH,cI,cJ,cK,cL,I.b8,I9,fM,aeZ,ae0,aB5,bZ,aB8,Ja,aB9,cS,cT,go_sem,b,d];try rfl))⟩
    |false =>
     have p:(x.atom.name==[100,105,115,116,105,110,99,116])=true:=by rw[o,aIK]at n;exact n
     (repeat' first|simp(disch:=first|exact aq|fail) only[go_sem,b,d,k7,<-ah,o,p]|(apply av<;>intro))
     exact⟨(i+1,fP,out,z),⟨by simp only;omega,m,C,T,fun s az=>by have:=E s az;simp only;omega,e⟩,by simp only;omega,by(first|rfl|(simp(disch:=first|exact a6|fail) only[cj,LW,TH,Env.ins,cE,cF,cG,cH,cI,cJ,cK,cL,I.b8,I9,fM,aeZ,ae0,aB5,bZ,aB8,Ja,aB9,cS,cT,go_sem,b,d];try rfl))⟩
   |false =>
    rw[n,if_neg (by simp)]at e;simp only[Bool.or_eq_false_iff]at n;obtain⟨o,p⟩:=n;have p:(x.atom.name==[100,105,115,116,105,110,99,116])=false:=p
    (repeat' first|simp(disch:=first|exact aq|fail) only[go_sem,b,d,k7,<-ah,o,p]|(apply av<;>intro))
    obtain⟨Y,gp⟩:∃Y,Y=lQ x.atom A out [] z:=⟨_,rfl⟩;rw[<-gp]at e;refine b9 (fun q:Nat×List (List ba)×Int=>⟨N [(0,.v (.ptr w 0)),(1,.v (enc B)),(2,.v L),(8,.v (.list (pg fP) 1 (oA fP out))),(10,.b [.str x.atom.name,.list none 2 (x.atom.args.map I.enc)]),(11,.v (.list (some 73) 1 (q.2.1.map enc))),(18,.v (enc B.length)),(19,.v (enc i)),(38,.v (enc out.length)),(39,.v (enc q.1))],gu H w q.2.2⟩)
     (fun q=>q.1<=out.length/\(0<=q.2.2/\q.2.2<=1000000)/\q.2.1.length<=5000/\p8 (1000*(i+1)) q.2.1/\lQ x.atom A (out.drop q.1) q.2.1 q.2.2=Y) (fun q=>out.length-q.1) (0,[],z) ⟨aHW _,C,by simp,fun s az=>by simp at az,gp.symm⟩ (by(try simp(disch:=first|exact aq|fail) only[go_sem,b,d])<;>(first|rfl|(simp(disch:=first|exact a6|fail) only[cj,LW,TH,Env.ins,cE,cF,cG,cH,cI,cJ,cK,cL,I.b8,I9,fM,aeZ,ae0,aB5,bZ,aB8,Ja,aB9,cS,cT,go_sem,b,d,BO];try rfl))) ?_
    rintro⟨k,U,V⟩ ⟨cY,W,eU,gS,f⟩;simp only at cY W eU gS f;rcases aHV k out.length with hk|hk
    ·have r:=Qt m hk;obtain⟨s,az⟩:∃s,s=out[k]!:=⟨_,rfl⟩;have rf:=E out[k]! (ft hk);rw[<-az]at r rf;rw[fY hk,lQ,<-az]at f;obtain⟨Z,rM⟩:∃Z,Z=kg x.atom s A U V:=⟨_,rfl⟩;rw[<-rM]at f;have hq:s.length+(dG x.atom).length<=1000000:=by omega
     have Qx:∀t,(eO x.atom t s).1.length<=1000*(i+1):=fun t=>by have:=Fi x.atom t s;omega
     obtain⟨v,s6⟩:∃v,v=(if fP then AV.aV 3 else enc s):=⟨_,rfl⟩;rw[<-s6]at r;have s7:(v=.aV 3/\s=[])\/v=.list none 3 (s.map ba.enc):=by
      cases fP with
      |true =>
       refine .inl ⟨s6,?_⟩;have:=m rfl;rw[az,this];obtain rfl:k=0:=by rw[this]at hk;simpa using hk
       rfl
      |false=>exact .inr s6
     (repeat' first|simp(disch:=first|exact aq|fail) only[go_sem,b,d,k7]|(apply av<;>intro))
     refine b9 (fun q:Nat×List (List ba)×Int=>⟨N [(0,.v (.ptr w 0)),(1,.v (enc B)),(2,.v L),(8,.v (.list (pg fP) 1 (oA fP out))),(10,.b [.str x.atom.name,.list none 2 (x.atom.args.map I.enc)]),(11,.v (.list (some 73) 1 (q.2.1.map enc))),(12,.v (enc k)),(18,.v (enc B.length)),(19,.v (enc i)),(38,.v (enc out.length)),(39,.v (enc k)),(43,.v (enc A.length)),(44,.v (enc q.1))],gu H w q.2.2⟩)
      (fun q=>q.1<=A.length/\(0<=q.2.2/\q.2.2<=1000000)/\q.2.1.length<=5000/\p8 (1000*(i+1)) q.2.1/\kg x.atom s (A.drop q.1) q.2.1 q.2.2=Z) (fun q=>A.length-q.1) (0,U,V) ⟨aHW _,W,eU,gS,rM.symm⟩ (by(try simp(disch:=first|exact aq|fail) only[go_sem,b,d])<;>(first|rfl|(simp(disch:=first|exact a6|fail) only[cj,LW,TH,Env.ins,cE,cF,cG,cH,cI,cJ,cK,cL,I.b8,I9,fM,aeZ,ae0,aB5,bZ,aB8,Ja,aB9,cS,cT,go_sem,b,d];try rfl))) ?_
     rintro⟨j,y,F⟩ ⟨dM,dx,O,G,c⟩;simp only at dM dx O G c;rcases aHV j A.length with aZ|aZ
     ·rw[aDA aZ]at c;obtain⟨t,P⟩:∃t,t=A[j]!:=⟨_,rfl⟩;rw[<-P]at c;have py:((t.args.length:Int) != (x.atom.args.length:Int))=decide (t.args.length≠x.atom.args.length):=by rw[aIL];simp;omega
      cases J:t.name==x.atom.name with
      |false =>
       have QA:(t.name != x.atom.name)=true:=by rw[bne,J];rfl
       rw[QA,Bool.true_or,if_pos rfl]at c
       (repeat' first|simp(disch:=first|exact aq|fail) only[go_sem,b,d,k7,<-P,J]|(apply av<;>intro))
       exact⟨(j+1,y,F),⟨by simp only;omega,dx,O,G,c⟩,by simp only;omega,by(first|rfl|(simp(disch:=first|exact a6|fail) only[cj,LW,TH,Env.ins,cE,cF,cG,cH,cI,cJ,cK,cL,I.b8,I9,fM,aeZ,ae0,aB5,bZ,aB8,Ja,aB9,cS,cT,go_sem,b,d];try rfl))⟩
      |true =>
       have QA:(t.name != x.atom.name)=false:=by rw[bne,J];rfl
       rw[QA,aIK]at c;cases Q:decide (t.args.length≠x.atom.args.length)with
       |true =>
        rw[Q,if_pos rfl]at c
        (repeat' first|simp(disch:=first|exact aq|fail) only[go_sem,b,d,k7,<-P,J,py,Q]|(apply av<;>intro))
        exact⟨(j+1,y,F),⟨by simp only;omega,dx,O,G,c⟩,by simp only;omega,by(first|rfl|(simp(disch:=first|exact a6|fail) only[cj,LW,TH,Env.ins,cE,cF,cG,cH,cI,cJ,cK,cL,I.b8,I9,fM,aeZ,ae0,aB5,bZ,aB8,Ja,aB9,cS,cT,go_sem,b,d];try rfl))⟩
       |false =>
        rw[Q,if_neg (by simp)]at c;have hd:=aDw x.atom t s hq;have PI:=Qx t;obtain⟨X,bp⟩:∃X,X=eO x.atom t s:=⟨_,rfl⟩;rw[<-bp]at c hd PI;have Fk:=fun l=>Qu (left:=l) aDC;have S:∀{K:AV->Prop}{tg:aM K},bT ν aB fV 54 [x.atom.enc,t.enc,v] K tg=K (wj X):=fun{K tg}=>by
         rw[bp]at hd ⊢;rcases s7 with⟨rfl,rfl⟩|rfl
         ·exact Qo (D:=fV) (K:=K) (tg:=tg) (x1:=x.atom.enc) (x2:=t.enc) (x3:=.aV 3) hd
         ·exact Qo (D:=fV) (K:=K) (tg:=tg) (x1:=x.atom.enc) (x2:=t.enc) (x3:=enc s) hd
        simp only[wj]at S;cases cn:X.2 with
        |true =>
         rw[cn]at c S;simp only[if_true,aHk,aIB,aIC]at c;have n0:p8 (1000*(i+1)) (y++[X.1]):=fun u hu=>by
          rcases List.mem_append.1 hu with hu|hu
          ·exact G u hu
          ·rw[List.mem_singleton]at hu;rw[hu];exact PI
         rcases Int.lt_or_le (F-1) 0 with g1|g1
         ·rw[decide_eq_true g1,Bool.true_or,if_pos rfl]at c;rw[<-c]at f;rw[<-f]at e;rw[<-e];rcases s7 with⟨rfl,_⟩|rfl
          all_goals
           (repeat' first|simp(disch:=first|exact aq|fail) only[go_sem,b,d,k7,<-P,J,py,Q,S,r,Fk,Fj,I9,aHk,aIB,aIC]|(apply av<;>intro))
           exact⟨_,rfl,rfl,_,rfl⟩
         ·rw[decide_eq_false (by omega),aIK]at c;rcases aHV 5000 (y.length+(0+1))with g2|g2
          ·rw[decide_eq_true g2,if_pos rfl]at c;rw[<-c]at f;rw[<-f]at e;rw[<-e];rcases s7 with⟨rfl,_⟩|rfl
           all_goals
            (repeat' first|simp(disch:=first|exact aq|fail) only[go_sem,b,d,k7,<-P,J,py,Q,S,r,Fk,Fj,I9,aHk,aIB,aIC]|(apply av<;>intro))
            exact⟨_,rfl,rfl,_,rfl⟩
          ·rw[decide_eq_false (by omega),if_neg (by simp)]at c;rcases s7 with⟨rfl,_⟩|rfl
           all_goals
            (repeat' first|simp(disch:=first|exact aq|fail) only[go_sem,b,d,k7,<-P,J,py,Q,S,r,Fk,Fj,I9,aHk,aIB,aIC]|(apply av<;>intro))
            exact⟨(j+1,y++[X.1],F-1),⟨by simp only;omega,by simp only;omega,by simp only[aHk,aIB,aIC];omega,n0,c⟩,by simp only;omega,by(first|rfl|(simp(disch:=first|exact a6|fail) only[cj,LW,TH,Env.ins,cE,cF,cG,cH,cI,cJ,cK,cL,I.b8,I9,fM,aeZ,ae0,aB5,bZ,aB8,Ja,aB9,cS,cT,go_sem,b,d];try rfl))⟩
        |false =>
         rw[cn]at c S;simp only[aIG,if_false]at c;rw[decide_eq_false (show ¬y.length>5000 by omega),Bool.or_false]at c;rcases Int.lt_or_le (F-1) 0 with g1|g1
         ·rw[decide_eq_true g1,if_pos rfl]at c;rw[<-c]at f;rw[<-f]at e;rw[<-e];rcases s7 with⟨rfl,_⟩|rfl
          all_goals
           (repeat' first|simp(disch:=first|exact aq|fail) only[go_sem,b,d,k7,<-P,J,py,Q,S,r,Fk,Fj,I9,aHk,aIB,aIC]|(apply av<;>intro))
           exact⟨_,rfl,rfl,_,rfl⟩
         ·rw[decide_eq_false (by omega),if_neg (by simp)]at c;rcases s7 with⟨rfl,_⟩|rfl
          all_goals
           (repeat' first|simp(disch:=first|exact aq|fail) only[go_sem,b,d,k7,<-P,J,py,Q,S,r,Fk,Fj,I9,aHk,aIB,aIC]|(apply av<;>intro))
           exact⟨(j+1,y,F-1),⟨by simp only;omega,by simp only;omega,O,G,c⟩,by simp only;omega,by(first|rfl|(simp(disch:=first|exact a6|fail) only[cj,LW,TH,Env.ins,cE,cF,cG,cH,cI,cJ,cK,cL,I.b8,I9,fM,aeZ,ae0,aB5,bZ,aB8,Ja,aB9,cS,cT,go_sem,b,d];try rfl))⟩
     ·rw[aIA aZ,kg]at c;rw[<-c]at f
      (repeat' first|simp(disch:=first|exact aq|fail) only[go_sem,b,d,k7]|(apply av<;>intro))
      exact⟨(k+1,y,F),⟨by simp only;omega,dx,O,G,f⟩,by simp only;omega,by(first|rfl|(simp(disch:=first|exact a6|fail) only[cj,LW,TH,Env.ins,cE,cF,cG,cH,cI,cJ,cK,cL,I.b8,I9,fM,aeZ,ae0,aB5,bZ,aB8,Ja,aB9,cS,cT,go_sem,b,d];try rfl))⟩
    ·rw[aIA hk,lQ]at f;rw[<-f]at e
     (repeat' first|simp(disch:=first|exact aq|fail) only[go_sem,b,d,k7]|(apply av<;>intro))
     exact⟨(i+1,false,U,V),⟨by simp only;omega,fun h=>(by cases h),W,eU,gS,e⟩,by simp only;omega,by(first|rfl|(simp(disch:=first|exact a6|fail) only[cj,LW,TH,Env.ins,cE,cF,cG,cH,cI,cJ,cK,cL,I.b8,I9,fM,aeZ,ae0,aB5,bZ,aB8,Ja,aB9,cS,cT,go_sem,b,d,oA,pg,aIG,if_false];try rfl))⟩
  ·rw[aIA ak,j2]at e;rw[<-e];have Qy:pg true=some 73:=rfl;have Qz:pg false=none:=rfl;cases fP with
   |true =>
    (repeat' first|simp(disch:=first|exact aq|fail) only[go_sem,b,d,Qy]|(apply av<;>intro))
    exact⟨_,rfl,⟨true,m,rfl⟩,rfl⟩
   |false =>
    (repeat' first|simp(disch:=first|exact aq|fail) only[go_sem,b,d,Qz]|(apply av<;>intro))
    exact⟨_,rfl,⟨false,m,rfl⟩,rfl⟩
open Enc (enc)
def aDD(H:List ax)(ac:Nat)(S:List I):Prop:=(H[ac]?=some (.cells [.aV 2])/\S=[])\/∃id,H[ac]?=some (.cells [.bs id 0 S.length 2])/\H[id]?=some (.buf 30 (cM S))
def qa(oC mk ac:Nat)(km:List (aj×Bool))(S:List I)(H:List ax):Prop:=H[oC]?=some (.cells [.map mk])/\(∃n,H[mk]?=some (.map n (cb AV.bool km)))/\aDD H ac S
theorem Jg(km:List (aj×Bool))(s:aj):vO (.bool false) false ((getM km s).map AV.bool)=.bool ((getM km s).getD false):=by
 cases getM km s<;>rfl
variable {oC mk ac:Nat}{km:List (aj×Bool)}{S:List I}
theorem afR(t:I)(h:qa oC mk ac km S H)(hk:(fa t).length<=M)(hd:c0 t<=1000000)(dg:S.length+1<=M) :
  bn ν aB 27 [enc t,.ptr oC 0,.ptr ac 0] H fun r H'=>r=.a8 []/\qa oC mk ac (gv (km,S) t).1 (gv (km,S) t).2 H'/\H.length<=H'.length/\∀i,i<H.length->i≠mk->i≠ac->(∀e cs,H[i]?≠some (.buf e cs))->H'[i]?=H[i]?:=by
 have dh:M=1099511627776:=rfl;obtain⟨c,⟨n,U⟩,b⟩:=h;have cx:=dd c;have P:=dd U
 have B:decide ((c0 t:Int)<=4)=decide (c0 t<=4):=by rw[aIL];simp;omega
 refine bn.intro (D:=fV) asv ?_;unfold Wh;cases l:(getM km (fa t)).getD false with
 |true =>
  have e:gv (km,S) t=(km,S):=by rw[gv];simp[l]
  rw[e]
  (repeat' first|simp(disch:=first|exact aq|fail) only[go_sem,c,U,Jg,l]|(apply av<;>intro))
  refine⟨_,rfl,?_⟩;first
   |exact⟨rfl,⟨c,⟨n,U⟩,b⟩,aIH _,fun _ _ _ _ _=>rfl⟩|(simp only[imp_true_iff,forall_const,and_true,aIH];exact⟨rfl,c,⟨n,U⟩,b⟩)|(refine⟨rfl,⟨c,⟨n,U⟩,b⟩,?_⟩;simp)
 |false =>
  cases v:decide (c0 t<=4)with
  |false =>
   have e:gv (km,S) t=(km,S):=by rw[gv];simp[l,v]
   rw[e]
   (repeat' first|simp(disch:=first|exact aq|fail) only[go_sem,c,U,Jg,l,B,v]|(apply av<;>intro))
   refine⟨_,rfl,?_⟩;first
   |exact⟨rfl,⟨c,⟨n,U⟩,b⟩,aIH _,fun _ _ _ _ _=>rfl⟩|(simp only[imp_true_iff,forall_const,and_true,aIH];exact⟨rfl,c,⟨n,U⟩,b⟩)|(refine⟨rfl,⟨c,⟨n,U⟩,b⟩,?_⟩;simp)
  |true =>
   have e:gv (km,S) t=(fz km (fa t) true,S++[t]):=by rw[gv];simp[l,v]
   rw[e];have Q:mk≠oC:=fun e=>by rw[e,c]at U;cases U
   rcases b with⟨b,W⟩|⟨id,b,m⟩
   ·have X:=dd b;have w:mk≠ac:=fun e=>by rw[e,b]at U;cases U
    have C:oC≠ac:=fun e=>by rw[e,b]at c;cases c
    subst W;obtain⟨f,g⟩:∃f,f=H.set mk (ax.map (kD n km (fa t)) (cb AV.bool (fz km (fa t) true))):=⟨_,rfl⟩;have k:f.length=H.length:=by rw[g,aIF]
    have x:f[oC]?=some (.cells [.map mk]):=by rw[g,b5 Q];exact c
    have y:f[ac]?=some (.cells [.aV 2]):=by rw[g,b5 w];exact b
    have E:f[mk]?=some (.map (kD n km (fa t)) (cb AV.bool (fz km (fa t) true))):=by rw[g,dD P]
    have j:=afE (H:=f++[ax.buf 30 [AV.str [],AV.aV 2],.dead]) (id:=H.length) (e:=30) (S:=[]) (t:=t) (by rw[<-k];simp[cM]);have F:(f++[ax.buf 30 [AV.str [],AV.aV 2],.dead]).set H.length (.buf 30 (cM ([]++[t])))=f++[ax.buf 30 (cM [t]),.dead]:=by rw[<-k];simp
    rw[F]at j;have G:(f++[ax.buf 30 (cM [t]),.dead])[ac]?=some (.cells [.aV 2]):=by rw[dp (by omega)];exact y
    have p:=afF (i:=H.length) (o:=0) (n:=1) (z:=2) G;simp only[aIC,Nat.zero_mul]at j
    (repeat' first|simp(disch:=first|exact aq|fail) only[go_sem,c,U,b,Jg,l,B,v,aDj,aIF,<-g,k,x,y,afD,j,p]|(apply av<;>intro))
    refine⟨_,rfl,rfl,⟨by rw[b5 (Ne.symm C),dp (by omega)];exact x,⟨_,by rw[b5 (Ne.symm w),dp (by omega)];exact E⟩,.inr ⟨H.length,by rw[dD (by rw[aHk];omega)];rfl,by rw[b5 (by omega),<-k];simp⟩⟩,by first|(rw[aIF,aHk];omega)|(rw[aHk];omega),fun i Y J L _=>by rw[b5 (Ne.symm L),dp (by omega),g,b5 (Ne.symm J)]⟩
   ·have X:=dd b;have kN:=dd m
    have w:mk≠ac:=fun e=>by rw[e,b]at U;cases U
    have C:oC≠ac:=fun e=>by rw[e,b]at c;cases c
    have R:mk≠id:=fun e=>by rw[e,m]at U;cases U
    have Z:oC≠id:=fun e=>by rw[e,m]at c;cases c
    have n6:ac≠id:=fun e=>by rw[e,m]at b;cases b
    obtain⟨f,g⟩:∃f,f=H.set mk (ax.map (kD n km (fa t)) (cb AV.bool (fz km (fa t) true))):=⟨_,rfl⟩;obtain⟨q,u⟩:∃q,q=f.set id .dead:=⟨_,rfl⟩;have k:f.length=H.length:=by rw[g,aIF]
    have O:q.length=H.length:=by rw[u,aIF];exact k
    have x:f[oC]?=some (.cells [.map mk]):=by rw[g,b5 Q];exact c
    have y:f[ac]?=some (.cells [.bs id 0 S.length 2]):=by rw[g,b5 w];exact b
    have E:f[mk]?=some (.map (kD n km (fa t)) (cb AV.bool (fz km (fa t) true))):=by rw[g,dD P]
    have T:f[id]?=some (.buf 30 (cM S)):=by rw[g,b5 R];exact m
    have V:=fun{e0:Env}{K:an->Prop}{tg:aM K}=>aDk (e0:=e0) (K:=K) (t:=tg) (d:=22) (H:=f) (n:=S.length) ⟨T,rfl,dg⟩;rw[<-u,k]at V;have j:=afE (H:=q++[ax.buf 30 (cM S++[AV.str [],AV.aV 2]),.dead]) (id:=H.length) (e:=30) (S:=S) (t:=t) (by rw[<-O];simp);have F:(q++[ax.buf 30 (cM S++[AV.str [],AV.aV 2]),.dead]).set H.length (.buf 30 (cM (S++[t])))=q++[ax.buf 30 (cM (S++[t])),.dead]:=by rw[<-O];simp
    rw[F]at j;have G:(q++[ax.buf 30 (cM (S++[t])),.dead])[ac]?=some (.cells [.bs id 0 S.length 2]):=by rw[dp (by omega),u,b5 (Ne.symm n6)];exact y
    have p:=afF (i:=H.length) (o:=0) (n:=S.length+1) (z:=2) G
    (repeat' first|simp(disch:=first|exact aq|fail) only[go_sem,c,U,b,m,Jg,l,B,v,aIF,<-g,k,x,y,T,V,afD,j,p]|(apply av<;>intro))
    refine⟨_,rfl,rfl,⟨by rw[b5 (Ne.symm C),dp (by omega),u,b5 (Ne.symm Z)];exact x,⟨_,by rw[b5 (Ne.symm w),dp (by omega),u,b5 (Ne.symm R)];exact E⟩,.inr ⟨H.length,by rw[dD (by rw[aHk];omega),aHk];rfl,by rw[b5 (by omega),<-O];simp⟩⟩,by first|(rw[aIF,aHk];omega)|(rw[aHk];omega),fun i Y J L bI=>?_⟩;have er:id≠i:=fun e=>bI _ _ (by rw[<-e];exact m);rw[b5 (Ne.symm L),dp (by omega),u,b5 er,g,b5 (Ne.symm J)]
open Enc (enc)
theorem qa.ex(h:qa oC mk ac km S H)(t:I):∃H',qa oC mk ac (gv (km,S) t).1 (gv (km,S) t).2 H'/\H.length<=H'.length/\∀i,i<H.length->i≠mk->i≠ac->(∀e cs,H[i]?≠some (.buf e cs))->H'[i]?=H[i]?:=by
 by_cases g:(!((getM km (fa t)).getD false)&&decide (c0 t<=4))=true
 ·rw[gv,if_pos g];obtain⟨b,⟨n,U⟩,d⟩:=h;have l:mk≠oC:=fun e=>by rw[e,b]at U;cases U
  have o:∃c,H[ac]?=some (.cells [c])/\∀m,c≠.map m:=by
   rcases d with⟨d,_⟩|⟨id,d,_⟩
   ·exact⟨_,d,fun m h=>by cases h⟩
   ·exact⟨_,d,fun m h=>by cases h⟩
  obtain⟨c,f,p⟩:=o;have q:mk≠ac:=fun e=>by rw[e,f]at U;cases U
  have r:oC≠ac:=fun e=>by rw[e,f]at b;simp at b;exact p _ b
  have u:=dd b;have j:=dd U;have k:=dd f
  refine⟨(H.set mk (.map 0 (cb AV.bool (fz km (fa t) true)))).set ac (.cells [.bs H.length 0 (S.length+1) 2])++[.buf 30 (cM (S++[t]))],⟨?_,⟨0,?_⟩,.inr ⟨H.length,?_,?_⟩⟩,by simp,fun i v w x _=>?_⟩
  ·rw[dp (by simpa using u),b5 (Ne.symm r),b5 l];exact b
  ·rw[dp (by simpa using j),b5 (Ne.symm q),dD j]
  ·rw[dp (by simpa using k),dD (by simpa using k)];simp
  ·simp
  ·rw[dp (by simpa using v),b5 (Ne.symm x),b5 (Ne.symm w)]
 ·rw[gv,if_neg g];exact⟨H,h,aIH _,fun _ _ _ _ _=>rfl⟩
theorem afS(H:List ax)(w:Nat)(a b:Int):gu (gu H w a) w b=gu H w b:=by simp[gu]
variable {m:Nat}
theorem QC(hm:s.length+(dG a).length<=m):∀{bu:List I}{c d:List (List ba)}{left e:Int},kg a s bu c left=some (d,e)->c.length<=5000->p8 m c->0<=left->d.length<=5000/\p8 m d/\0<=e/\e<=left
 |[],c,d,left,e,h,h1,U,f=>by
  simp only[kg,Option.some.injEq,Prod.mk.injEq]at h;obtain⟨rfl,rfl⟩:=h;exact⟨h1,U,f,Int.le_refl _⟩
 |t::bu,c,d,left,e,h,h1,U,f=>by
  rw[kg]at h;obtain⟨g,i⟩:∃g,g=(if(eO a t s).2 then c++[(eO a t s).1]else c):=⟨_,rfl⟩;rw[<-i]at h;split at h
  ·exact QC hm h h1 U f
  ·split at h
   ·cases h
   ·rename_i j;simp only[Bool.or_eq_true,decide_eq_true_eq,not_or]at j;have ae:=Fi a t s;have k:p8 m g:=fun u b=>by
     rw[i]at b;split at b
     ·rcases List.mem_append.1 b with b|b
      ·exact U u b
      ·rw[List.mem_singleton]at b;rw[b];omega
     ·exact U u b
    obtain⟨l,n,o,p⟩:=QC hm h (by omega) k (by omega);exact⟨l,n,o,by omega⟩
theorem afT :∀{out b c:List (List ba)}{left d:Int},(∀s∈out,s.length+(dG a).length<=m)->lQ a A out b left=some (c,d)->b.length<=5000->p8 m b->0<=left->c.length<=5000/\p8 m c/\0<=d/\d<=left
 |[],b,c,left,d,_,h,h1,U,e=>by
  simp only[lQ,Option.some.injEq,Prod.mk.injEq]at h;obtain⟨rfl,rfl⟩:=h;exact⟨h1,U,e,Int.le_refl _⟩
 |s::r,b,c,left,d,az,h,h1,U,e=>by
  rw[lQ]at h;cases f:kg a s A b left with
  |none=>rw[f]at h;cases h|some q =>
   obtain⟨p,t⟩:=q;rw[f]at h;obtain⟨g,i,j,v⟩:=QC (az s (by simp)) f h1 U e;obtain⟨k,l,n,w⟩:=afT (fun u o=>az u (aIM _ o)) h g i j;exact⟨k,l,n,by omega⟩
theorem QE :∀{B:List Lit}{out b:List (List ba)}{left c:Int}{m:Nat},(∀x∈B,(dG x.atom).length<=1000)->j2 A B out left=some (b,c)->out.length<=5000->p8 m out->0<=left->b.length<=5000/\p8 (m+1000*B.length) b/\0<=c/\c<=left
 |[],out,b,left,c,m,_,h,h1,U,e=>by
  simp only[j2,Option.some.injEq,Prod.mk.injEq]at h;obtain⟨rfl,rfl⟩:=h;exact⟨h1,fun s az=>by have:=U s az;omega,e,Int.le_refl _⟩
 |x::r,out,b,left,c,m,ae,h,h1,U,e=>by
  have d:=fun y l=>ae y (aIM x l);have t:=ae x (by simp);rw[j2]at h;split at h
  ·obtain⟨f,g,i,k⟩:=QE d h h1 U e;exact⟨f,fun s az=>by have:=g s az;simp only[aIB];omega,i,k⟩
  ·cases j:lQ x.atom A out [] left with
   |none=>rw[j]at h;cases h|some q =>
    obtain⟨u,v⟩:=q;rw[j]at h;obtain⟨n,o,p,w⟩:=afT (m:=m+1000) (fun s az=>by have:=U s az;omega) j (by simp) (fun s az=>by simp at az) e;obtain⟨f,g,i,k⟩:=QE d h n o p;exact⟨f,fun s az=>by have:=g s az;simp only[aIB];omega,i,by omega⟩
theorem qa.w{km:List (aj×Bool)}{S:List I}{H':List ax}{x:Int}(b:H[0]?=some (.cells [.int .i64 x]))(c:∀i,i<H.length->i≠1->i≠3->(∀e cs,H[i]?≠some (.buf e cs))->H'[i]?=H[i]?):H'[0]?=some (.cells [.int .i64 x]):=by
 rw[c 0 (dd b) (by omega) (by omega) (fun e cs=>by rw[b];simp)];exact b
theorem afV(l:List aU)(c:List I)(b:Bool)(aD:l.length<=1000)(ae:∀r∈l,r.body.length<=8/\∀x∈r.body,(dG x.atom).length<=1000)(aC:c.length<=1000000)(g:iu l c=some b):aF ν aB 10 [enc l,enc c] (enc b):=by
 have dh:M=1099511627776:=rfl;unfold iu at g;cases P:c.all p9 with
 |false=>rw[P]at g;simp at g|true =>
 rw[P]at g;simp only[Bool.not_true,aIG,if_false]at g;have P:=aII.1 P;refine aF.intro (D:=fV) asg (by simp only[List.all_cons,List.all_nil,Enc.arg,Bool.and_self]) rfl ?_;unfold VC
 (repeat' first|simp(disch:=first|exact aq|fail) only[go_sem,iV]|(apply av<;>intro))
 refine b9 (fun q:Nat×(List (aj×Bool)×List I)×List ax=>⟨N [(0,.v (enc l)),(1,.v (enc c)),(5,.v (.ptr 0 0)),(7,.v (.ptr 3 0)),(8,.v (.fn 27 [.ptr 2 0,.ptr 3 0])),(26,.v (enc c.length)),(27,.v (enc q.1))],q.2.2⟩)
  (fun q=>q.1<=c.length/\qa 2 1 3 q.2.1.1 q.2.1.2 q.2.2/\q.2.2[0]?=some (.cells [.int .i64 1000000])/\q.2.1.2.length<=q.1/\(c.drop q.1).foldl gv q.2.1=c.foldl gv ([],[])) (fun q=>c.length-q.1) (0,([],[]),[ax.cells [AV.int IntKind.i64 1000000],ax.map 0 [],ax.cells [AV.map 1],ax.cells [AV.aV 2]])
  ⟨aHW _,⟨rfl,⟨0,rfl⟩,.inl ⟨rfl,rfl⟩⟩,rfl,aIH _,rfl⟩ (by(try simp(disch:=first|exact aq|fail) only[go_sem])<;>(exact bG)) ?_
 rintro⟨i,p,H⟩ ⟨i1,L,E,V,Q⟩;simp only at i1 L E V Q;rcases aHV i c.length with ak|ak
 ·have hk:=P c[i]! (ft ak);simp only[p9,aID,decide_eq_true_eq]at hk;have af:=afR c[i]! L hk.1 hk.2 (by omega);rw[fY ak,List.foldl_cons]at Q;have ry:=afQ p c[i]!;have v:∃(r:AV)(j:List ax),r=.a8 []/\qa 2 1 3 (gv p c[i]!).1 (gv p c[i]!).2 j/\H.length<=j.length/\∀i,i<H.length->i≠1->i≠3->(∀e cs,H[i]?≠some (.buf e cs))->j[i]?=H[i]?:=by
   obtain⟨j,q⟩:=L.ex c[i]!;exact⟨_,j,rfl,q⟩
  (repeat' first|simp(disch:=first|exact aq|fail) only[go_sem,iV]|(apply av<;>intro)|(refine iW ⟨af,v⟩ ?_;(rintro r' j ⟨rfl,b0,dt,eW⟩)))
  exact⟨(i+1,gv p c[i]!,j),⟨by simp only;omega,b0,qa.w (km:=[]) (S:=[]) E eW,by simp only;omega,Q⟩,by simp only;omega,by(exact bG)⟩
 rw[aIA ak,List.foldl_nil]at Q;rw[<-Q]at g;clear Q P
 (repeat' first|simp(disch:=first|exact aq|fail) only[go_sem]|(apply av<;>intro))
 refine b9 (fun q:Nat×(List (aj×Bool)×List I)×List ax×Int×Int=>⟨N [(0,.v (enc l)),(5,.v (.ptr 0 0)),(7,.v (.ptr 3 0)),(8,.v (.fn 27 [.ptr 2 0,.ptr 3 0])),(10,.v (.int .i64 q.2.2.2.1))],q.2.2.1⟩)
  (fun q=>qa 2 1 3 q.2.1.1 q.2.1.2 q.2.2.1/\q.2.2.1[0]?=some (.cells [.int .i64 q.2.2.2.2])/\q.2.1.2.length<=100000000/\(0<=q.2.2.2.2/\q.2.2.2.2<=1000000)/\(-1<=q.2.2.2.1/\q.2.2.2.1<=100000000)/\xZ l q.1 q.2.1 q.2.2.2.1 q.2.2.2.2=some b) (fun q=>q.1) (1003,p,H,-1,1000000) ⟨L,E,by simp only;omega,by simp only;omega,by simp only;omega,g⟩ (by(try simp(disch:=first|exact aq|fail) only[go_sem])<;>(exact bG)) ?_
 clear i1 L E V ak g;rintro⟨f,p,H,n,left⟩ ⟨L,E,V,i6,i7,g⟩;simp only at L E V i6 i7 g;obtain⟨h1,⟨im,U⟩,C⟩:=L;cases f with
 |zero=>cases g|succ f =>
 rw[xZ]at g;have G:decide ((p.2.length:Int)<=1000)=decide (p.2.length<=1000):=by rw[aIL];simp;omega
 obtain⟨S,dg⟩:∃S,S=p.2:=⟨_,rfl⟩;rw[<-dg]at C V g G;have eK:∃y,H[3]?=some (.cells [y])/\Qw H 0 y S/\(∀x,Qw (gu H 0 x) 0 y S):=by
  rcases C with⟨C,z⟩|⟨id,C,O⟩
  ·exact⟨_,C,.inl ⟨rfl,z⟩,fun _=>.inl ⟨rfl,z⟩⟩
  ·have ne:id≠0:=fun e=>by rw[e,E]at O;cases O
   exact⟨_,C,.inr ⟨id,rfl,O,ne⟩,fun x=>.inr ⟨id,rfl,by rw[gu,b5 (Ne.symm ne)];exact O,ne⟩⟩
 obtain⟨y,QF,rk,W⟩:=eK;have Jh:∀j,nz 1 j y=some (.int .i64 (S.length:Int)):=fun j=>by
  rcases rk with⟨rfl,z⟩|⟨id,rfl,_⟩
  ·rw[z];rfl
  ·rfl
 have F:y.aW=y:=by
  rcases rk with⟨rfl,z⟩|⟨id,rfl,_⟩<;>rfl
 have QG:∀{K:AV->Prop}{tg:aM K},tL 2 (fun n:Nat=>some (n:Int)) (fun _=>some (S.length:Int)) y K tg=K y:=fun{K tg}=>by
  rcases rk with⟨rfl,z⟩|⟨id,rfl,_⟩
  ·rw[z,abn];simp[ec]
  ·rw[abo];have:¬((0:Int)<0):=by omega
   simp[ec]
 have sT:∀{s:an}{d x:Nat}{K:an->Prop}{tg:aM K},xr s d x K tg y=c7 s d y K ⟨⟩:=fun{s d x K tg}=>by
  rcases rk with⟨rfl,z⟩|⟨id,rfl,_⟩<;>rfl
 cases g1:decide (n<(S.length:Int))with
 |false =>
  rw[g1,aIE,if_neg (by simp)]at g;have fw:b=decide (S.length<=1000):=(Option.some.inj g).symm;rw[fw]
  (repeat' first|simp(disch:=first|exact aq|fail) only[go_sem,QF,Jh,F,QG,sT,g1,G]|(apply av<;>intro))
 |true =>
  rw[g1,aIJ]at g;cases g2:decide (S.length<=1000)with
  |false =>
   rw[g2,if_neg (by simp)]at g;have fw:b=false:=(Option.some.inj g).symm;rw[fw]
   (repeat' first|simp(disch:=first|exact aq|fail) only[go_sem,QF,Jh,F,QG,sT,g1,G,g2]|(apply av<;>intro))
  |true =>
   rw[g2,if_pos rfl]at g
   (repeat' first|simp(disch:=first|exact aq|fail) only[go_sem,QF,Jh,F,QG,sT,g1,G,g2]|(apply av<;>intro))
   obtain⟨Y,gp⟩:∃Y,Y=qW S l [] left:=⟨_,rfl⟩;rw[<-gp]at g;have xM:gu H 0 left=H:=by rw[gu];exact zr E
   have BV:=dd E;have ae1:S.length<=1000:=of_decide_eq_true g2;refine b9 (fun q:Nat×List I×Int=>⟨N [(0,.v (enc l)),(5,.v (.ptr 0 0)),(7,.v (.ptr 3 0)),(8,.v (.fn 27 [.ptr 2 0,.ptr 3 0])),(10,.v (.int .i64 (S.length:Int))),(11,.v y),(12,.v (.list (some 30) 2 (q.2.1.map I.enc))),(52,.v (enc l.length)),(53,.v (enc q.1))],gu H 0 q.2.2⟩)
    (fun q=>q.1<=l.length/\(0<=q.2.2/\q.2.2<=1000000)/\q.2.1.length<=q.1*5000/\qW S (l.drop q.1) q.2.1 q.2.2=Y) (fun q=>l.length-q.1) (0,[],left) ⟨aHW _,i6,by simp,gp.symm⟩ (by(try simp(disch:=first|exact aq|fail) only[go_sem])<;>(first|rfl|(simp(disch:=first|exact a6|fail) only[cj,LW,TH,Env.ins,cE,cF,cG,cH,cI,cJ,cK,cL,I.b8,I9,fM,aeZ,ae0,aB5,bZ,aB8,Ja,aB9,cS,cT,go_sem,xM];try rfl))) ?_
   rintro⟨i,more,B⟩ ⟨c1,c2,fW,J⟩;simp only at c1 c2 fW J;rcases aHV i l.length with ak|ak
   ·rw[fY ak,qW]at J;obtain⟨ep,eh⟩:=ae l[i]! (ft ak);obtain⟨r,aw⟩:∃r,r=l[i]!:=⟨_,rfl⟩;rw[<-aw]at J ep eh;have QH:=aDB (H:=gu H 0 B) (w:=0) (left:=B) r.body S (Qu BV) (W B) c2 ep eh (by omega);obtain⟨Z,rM⟩:∃Z,Z=j2 S r.body [[]] B:=⟨_,rfl⟩;rw[<-rM]at J QH;cases Z with
    |none =>
     rw[<-J]at g;have fw:b=false:=(Option.some.inj g).symm;rw[fw];have v:∃(r:AV)(j:List ax),Qv (gu H 0 B) 0 none r j:=⟨_,_,rfl,0,rfl⟩
     (repeat' first|simp(disch:=first|exact aq|fail) only[go_sem,<-aw,F]|(apply av<;>intro)|(refine iW ⟨QH,v⟩ ?_;(rintro r' j ⟨rfl,xF,rfl⟩)))
     all_goals rfl
    |some q =>
     obtain⟨all,ca⟩:=q;simp only at J;have v:∃(r:AV)(j:List ax),Qv (gu H 0 B) 0 (some (all,ca)) r j:=⟨_,_,⟨false,fun h=>(by cases h),rfl⟩,rfl⟩
     (repeat' first|simp(disch:=first|exact aq|fail) only[go_sem,<-aw,F]|(apply av<;>intro)|(refine iW ⟨QH,v⟩ ?_;(rintro r' j ⟨⟨fP,lq,rfl⟩,rfl⟩)))
     obtain⟨cv,eR,gB,Ma⟩:=QE (m:=0) eh rM.symm (by simp) (fun s az=>by simp at az;rw[az];simp) c2.1;have BO:=Qs lq;refine b9 (fun k:Nat=>⟨N [(0,.v (enc l)),(5,.v (.ptr 0 0)),(7,.v (.ptr 3 0)),(8,.v (.fn 27 [.ptr 2 0,.ptr 3 0])),(10,.v (.int .i64 (S.length:Int))),(11,.v y),(12,.v (.list (some 30) 2 ((more++(all.take k).filterMap (gQ r.head)).map I.enc))),(13,.v (enc i)),(14,.v (.list none 1 (oA fP all))),(52,.v (enc l.length)),(53,.v (enc i)),(70,.v (enc all.length)),(71,.v (enc k))],gu H 0 ca⟩)
      (fun k=>k<=all.length) (fun k=>all.length-k) 0 (aHW _) (by(try simp(disch:=first|exact aq|fail) only[go_sem,afS])<;>(first|rfl|(simp(disch:=first|exact a6|fail) only[cj,LW,TH,Env.ins,cE,cF,cG,cH,cI,cJ,cK,cL,I.b8,I9,fM,aeZ,ae0,aB5,bZ,aB8,Ja,aB9,cS,cT,go_sem,BO,aIN,aIO,afS];try rfl))) ?_
     intro k hk;rcases aHV k all.length with o|o
     ·have fI:=Qt lq o;obtain⟨s,az⟩:∃s,s=all[k]!:=⟨_,rfl⟩;have rf:=eR all[k]! (ft o);rw[<-az]at fI rf;have Ji:(all.take (k+1)).filterMap (gQ r.head)=(all.take k).filterMap (gQ r.head)++(gQ r.head s).toList:=by
       rw[bZ o,List.filterMap_append,<-az];simp only[List.filterMap_cons,aIN];cases gQ r.head s<;>rfl
      have afX:((all.take k).filterMap (gQ r.head)).length<=5000:=by
       have:=aIP (gQ r.head) (all.take k);rw[List.length_take]at this;omega
      have hd:=aDz s (by omega) r.head;obtain⟨X,bp⟩:∃X,X=gQ r.head s:=⟨_,rfl⟩;rw[<-bp]at hd Ji;obtain⟨oB,s6⟩:∃oB,oB=(if fP then AV.aV 3 else enc s):=⟨_,rfl⟩;rw[<-s6]at fI;have s7:(oB=.aV 3/\s=[])\/oB=.list none 3 (s.map ba.enc):=by
       cases fP with
       |true =>
        refine .inl ⟨s6,?_⟩;have:=lq rfl;rw[az,this];obtain rfl:k=0:=by rw[this]at o;simpa using o
        rfl
       |false=>exact .inr s6
      have rX:∀{K:AV->Prop}{tg:aM K},bT ν aB fV 31 [r.head.enc,oB] K tg=K (oy r.head X):=fun{K tg}=>by
       rw[bp]at hd ⊢;rcases s7 with⟨rfl,rfl⟩|rfl
       ·exact Qp (D:=fV) (K:=K) (tg:=tg) (x1:=r.head.enc) (x2:=.aV 3) hd
       ·exact Qp (D:=fV) (K:=K) (tg:=tg) (x1:=r.head.enc) (x2:=enc s) hd
      have tr:(more++(all.take k).filterMap (gQ r.head)).length+1<=M:=by rw[aHk];omega
      obtain⟨mk,R⟩:∃mk,mk=more++(all.take k).filterMap (gQ r.head):=⟨_,rfl⟩;have Jj:more++(all.take (k+1)).filterMap (gQ r.head)=mk++X.toList:=by rw[Ji,<-List.append_assoc,R]
      rw[<-R]at tr ⊢;cases X with
      |none =>
       simp only[oy]at rX;rcases s7 with⟨rfl,_⟩|rfl
       all_goals
        (repeat' first|simp(disch:=first|exact aq|fail) only[go_sem,F,<-aw,fI,rX]|(apply av<;>intro))
        exact⟨k+1,by omega,by omega,by rw[Jj,Option.toList_none,aIO];(exact bG)⟩
      |some u =>
       simp only[oy]at rX;rcases s7 with⟨rfl,_⟩|rfl
       all_goals
        (repeat' first|simp(disch:=first|exact aq|fail) only[go_sem,F,<-aw,fI,rX,I9]|(apply av<;>intro))
        exact⟨k+1,by omega,by omega,by rw[Jj,Option.toList_some];(exact bG)⟩
     ·obtain rfl:k=all.length:=by omega
      rw[List.take_length];have afX:=aIP (gQ r.head) all
      (repeat' first|simp(disch:=first|exact aq|fail) only[go_sem,F]|(apply av<;>intro))
      exact⟨(i+1,more++all.filterMap (gQ r.head),ca),⟨by simp only;omega,by simp only;omega,by simp only[aHk];omega,J⟩,by simp only;omega,by(exact bG)⟩
   ·rw[aIA ak,qW]at J;rw[<-J]at g
    (repeat' first|simp(disch:=first|exact aq|fail) only[go_sem,F,Jh]|(apply av<;>intro))
    simp only at g;obtain⟨T,dL⟩:∃T,T=more++S.filterMap j3:=⟨_,rfl⟩;rw[<-dL]at g;have afY:T.all p9=true:=by
     cases bd:T.all p9 with
     |true=>rfl|false=>rw[bd]at g;simp at g
    rw[afY]at g;simp only[Bool.not_true,aIG,if_false]at g;have tr:more.length<=5000000:=by have:i*5000<=1000*5000:=Nat.mul_le_mul_right _ (by omega);omega
    have aDE:∀(n:aj)(a:List I),(I.mk n a).enc=.agg [.str n,.list none 2 (a.map I.enc)]:=fun n a=>I.pR _;refine b9 (fun k:Nat=>⟨N [(0,.v (enc l)),(5,.v (.ptr 0 0)),(7,.v (.ptr 3 0)),(8,.v (.fn 27 [.ptr 2 0,.ptr 3 0])),(10,.v (.int .i64 (S.length:Int))),(11,.v y),(12,.v (.list (some 30) 2 ((more++(S.take k).filterMap j3).map I.enc))),(95,.v (enc S.length)),(96,.v (enc k))],gu H 0 B⟩)
     (fun k=>k<=S.length) (fun k=>S.length-k) 0 (aHW _) (by(try simp(disch:=first|exact aq|fail) only[go_sem])<;>(first|rfl|(simp(disch:=first|exact a6|fail) only[cj,LW,TH,Env.ins,cE,cF,cG,cH,cI,cJ,cK,cL,I.b8,I9,fM,aeZ,ae0,aB5,bZ,aB8,Ja,aB9,cS,cT,go_sem,aIN,aIO];try rfl))) ?_
    intro k hk;rcases aHV k S.length with o|o
    ·rcases W B with⟨_,z⟩|⟨id,dZ,bM,_⟩
     ·exfalso;rw[z]at o;simp at o
     obtain⟨t,ay⟩:∃t,t=S[k]!:=⟨_,rfl⟩;have Ji:(S.take (k+1)).filterMap j3=(S.take k).filterMap j3++(j3 t).toList:=by
      rw[bZ o,List.filterMap_append,<-ay];simp only[List.filterMap_cons,aIN];cases j3 t<;>rfl
     have afX:((S.take k).filterMap j3).length<=1000:=by
      have:=aIP j3 (S.take k);rw[List.length_take]at this;omega
     obtain⟨mk,R⟩:∃mk,mk=more++(S.take k).filterMap j3:=⟨_,rfl⟩;have aH7:mk.length+1<=M:=by rw[R,aHk];omega
     have Jj:more++(S.take (k+1)).filterMap j3=mk++(j3 t).toList:=by rw[Ji,<-List.append_assoc,R]
     rw[<-R]at ⊢;have dV:((t.args.length:Int)==1)=decide (t.args.length=1):=by rw[aIL];simp;omega
     have de:((t.args.length:Int)==2)=decide (t.args.length=2):=by rw[aIL];simp;omega
     have QI:j3 t=if decide (t.args.length=1)&&(t.name==[105,110,105,116]||t.name==[110,101,120,116])then some (.mk [116,114,117,101] t.args)
      else if decide (t.args.length=2)&&t.name==[108,101,103,97,108]then some (.mk [100,111,101,115] t.args)else none:=rfl
     cases al:decide (t.args.length=1)<;>cases au:t.name==[105,110,105,116]<;>cases aS:t.name==[110,101,120,116]<;>cases bI:decide (t.args.length=2)<;>cases er:t.name==[108,101,103,97,108];all_goals
      rw[al,au,aS,bI,er]at QI;simp only[aIJ,aIE,Bool.true_or,aIK,Bool.or_self,Bool.and_self,Bool.and_true,Bool.and_false,aIG,if_true,if_false]at QI
      (repeat' first|simp(disch:=first|exact aq|fail) only[go_sem,dZ,bM,<-ay,dV,de,al,au,aS,bI,er,I9]|(apply av<;>intro))
      exact⟨k+1,by omega,by omega,by rw[Jj,QI];(first|rfl|(simp(disch:=first|exact a6|fail) only[cj,LW,TH,Env.ins,cE,cF,cG,cH,cI,cJ,cK,cL,I.b8,I9,fM,aeZ,ae0,aB5,bZ,aB8,Ja,aB9,cS,cT,go_sem,dZ,Option.toList_some,Option.toList_none,aIO,aDE];try rfl))⟩
    ·obtain rfl:k=S.length:=by omega
     rw[List.take_length,<-dL]
     (repeat' first|simp(disch:=first|exact aq|fail) only[go_sem,F]|(apply av<;>intro))
     have aH8:T.length<=6000000:=by
      rw[dL,aHk];have:=aIP j3 S;omega
     have aDF:=aII.1 afY;have aDG:qa 2 1 3 p.1 p.2 (gu H 0 B):=by
      refine⟨by rw[gu,b5 (by omega)];exact h1,⟨im,by rw[gu,b5 (by omega)];exact U⟩,?_⟩;rw[<-dg];rcases C with⟨C,z⟩|⟨id,C,O⟩
      ·exact .inl ⟨by rw[gu,b5 (by omega)];exact C,z⟩
      ·have ne:id≠0:=fun e=>by rw[e,E]at O;cases O
       exact .inr ⟨id,by rw[gu,b5 (by omega)];exact C,by rw[gu,b5 (Ne.symm ne)];exact O⟩
     refine b9 (fun q:Nat×(List (aj×Bool)×List I)×List ax=>⟨N [(0,.v (enc l)),(5,.v (.ptr 0 0)),(7,.v (.ptr 3 0)),(8,.v (.fn 27 [.ptr 2 0,.ptr 3 0])),(10,.v (.int .i64 (S.length:Int))),(12,.v (.list (some 30) 2 (T.map I.enc))),(159,.v (enc T.length)),(160,.v (enc q.1))],q.2.2⟩)
      (fun q=>q.1<=T.length/\qa 2 1 3 q.2.1.1 q.2.1.2 q.2.2/\q.2.2[0]?=some (.cells [.int .i64 B])/\q.2.1.2.length<=1000+q.1/\(T.drop q.1).foldl gv q.2.1=T.foldl gv p) (fun q=>T.length-q.1) (0,p,gu H 0 B)
      ⟨aHW _,aDG,Qu BV,by simp only;rw[<-dg];omega,rfl⟩ (by(try simp(disch:=first|exact aq|fail) only[go_sem])<;>(exact bG)) ?_
     rintro⟨k,aQ,dS⟩ ⟨m1,m2,m3,m4,m5⟩;simp only at m1 m2 m3 m4 m5;rcases aHV k T.length with o|o
     ·have kI:=aDF T[k]! (ft o);simp only[p9,aID,decide_eq_true_eq]at kI;have af:=afR T[k]! m2 kI.1 kI.2 (by omega);rw[fY o,List.foldl_cons]at m5;have ry:=afQ aQ T[k]!;have v:∃(r:AV)(j:List ax),r=.a8 []/\qa 2 1 3 (gv aQ T[k]!).1 (gv aQ T[k]!).2 j/\dS.length<=j.length/\∀i,i<dS.length->i≠1->i≠3->(∀e cs,dS[i]?≠some (.buf e cs))->j[i]?=dS[i]?:=by
       obtain⟨j,q⟩:=m2.ex T[k]!;exact⟨_,j,rfl,q⟩
      (repeat' first|simp(disch:=first|exact aq|fail) only[go_sem,iV]|(apply av<;>intro)|(refine iW ⟨af,v⟩ ?_;(rintro r' j ⟨rfl,b0,dt,eW⟩)))
      exact⟨(k+1,gv aQ T[k]!,j),⟨by simp only;omega,b0,qa.w (km:=[]) (S:=[]) m3 eW,by simp only;omega,m5⟩,by simp only;omega,by(exact bG)⟩
     ·rw[aIA o,List.foldl_nil]at m5;rw[<-m5]at g
      (repeat' first|simp(disch:=first|exact aq|fail) only[go_sem]|(apply av<;>intro))
      exact⟨(f,aQ,dS,(S.length:Int),B),⟨m2,m3,by simp only;omega,c2,by simp only;omega,g⟩,by simp only;omega,by(exact bG)⟩
open Enc (enc)
variable {m:Int}
theorem af3{f:I->Int} :∀(l:List I)(n:Int),(∀t∈l,1<=f t)->jA f m l n<=m->n+(l.map f).sum=jA f m l n
 |[],n,_,_=>by simp[jA]|t::r,n,h,hm=>by
  have d:=h t (by simp);by_cases b:n>m
  ·have:=acu (f:=f) (m:=m) (l:=t::r) (i:=0) (n:=n) (by simp) b;simp only[List.drop_zero]at this;omega
  ·have:=acs (f:=f) (m:=m) (l:=t::r) (i:=0) (n:=n) (by simp) b;simp only[List.drop_zero,List.getElem!_cons_zero,List.drop_succ_cons]at this;rw[this]at hm ⊢;have:=af3 r (n+f t) (fun u c=>h u (aIM _ c)) hm;simp only[Ja,List.sum_cons];omega
theorem af4(hm:0<=m/\m<=1000):∀(d:Nat)(t:I),jB m d t<=m->((dG t).length:Int)<=jB m d t
 |0,t,h=>by
  simp only[jB]at h;omega
 |d+1,t,h=>by
  rw[acq]at h ⊢;have ae:=fun u(b:u∈t.args)=>(Ic hm d u).1;have az:=af3 t.args 1 ae h;have e:=On t.args 1 ae (by omega) h;have f:=qI t;have key:∀l:List I,(∀u∈l,((dG u).length:Int)<=jB m d u)->((cw l).length:Int)<=(l.map (jB m d)).sum:=fun l=>by
   induction l with
   |nil=>intro _;simp[cw]|cons u r ih =>
    intro c;have j:=c u (by simp);have U:=ih fun w g=>c w (aIM _ g);simp only[cw,aHk,Ja,List.sum_cons];omega
  have k:=key t.args fun u b=>af4 hm d u (e.2 u b);rw[<-az,f];split
  ·rename_i i;rw[List.length_eq_zero_iff.1 i];simp
  ·omega
variable {t:I}
theorem aDM(h:jC 20 t=true):(dG t).length<=20:=by
 simp only[jC,decide_eq_true_eq]at h;have:=af4 (m:=20) ⟨by omega,by omega⟩ _ t h;omega
open Enc (enc)
def ph(r:aU):Bool:=jC 20 r.head&&decide (r.body.length<=8)&&r.body.all fun x=>jC 20 x.atom
def k9(l:List aU)(m:Int):Bool:=decide ((l.length:Int)<=m)&&l.all ph
noncomputable def QK:List kX:=[(26,jo fun(t:I)(m:Int)=>enc (jC m t)),
 (10,jo fun(l:List aU)(g:List I)=>enc ((iu l g).getD false)),
 (8,jo fun(l:List aU)(m:Int)=>enc (k9 l m&&(iu l []).getD false))]
noncomputable def nN:bc:=jV fV (fT QK)
instance aIa{D:bc}[h:bq D nN]:bq D fV:=h.nA
theorem aDN:gC nN ([26,10,8]++([28,29,55,54,31]++([44,15]++([36,14]++([47,48]++([79,80,81]++([103,105,104,76,75,78]++([46,18,17,19,6]++([64]++([96]++([51]++([23,16]++([45]++([43,126,107,77,106]++[58,88,120,94,57,40,71,99,101,25,7,74])))))))))))))):=gC.or afG (nB QK)
variable {f:Nat}{F:List AV->Option AV}
theorem QL(h:∀xs,fT QK f xs=F xs)(hk:(([28,29,55,54,31]++([44,15]++([36,14]++([47,48]++([79,80,81]++([103,105,104,76,75,78]++([46,18,17,19,6]++([64]++([96]++([51]++([23,16]++([45]++([43,126,107,77,106]++[58,88,120,94,57,40,71,99,101,25,7,74]))))))))))))):List Nat).contains f=false:=by rfl):∀xs,nN f xs=F xs:=fun xs=>by rw[<-h];exact mS afG hk
variable {D:bc}{x1 x2:AV}{K:AV->Prop}{tg:aM K}
theorem aDO[bq D nN][aT x1 t][aT x2 m](h:aF ν aB 26 [enc t,enc m] (enc (jC m t))):bT ν aB D 26 [x1,x2] K tg=K (enc (jC m t)):=lI (D':=nN) (F:=fun(t:I)(m:Int)=>enc (jC m t)) (QL fun _=>rfl) h
variable {l:List aU}{g:List I}
theorem af5[bq D nN][aT x1 l][aT x2 g](h:aF ν aB 10 [enc l,enc g] (enc ((iu l g).getD false))):bT ν aB D 10 [x1,x2] K tg=K (enc ((iu l g).getD false)):=lI (D':=nN) (F:=fun(l:List aU)(g:List I)=>enc ((iu l g).getD false)) (QL fun _=>rfl) h
theorem aDP[bq D nN][aT x1 l][aT x2 m](h:aF ν aB 8 [enc l,enc m] (enc (k9 l m&&(iu l []).getD false))):bT ν aB D 8 [x1,x2] K tg=K (enc (k9 l m&&(iu l []).getD false)):=lI (D':=nN) (F:=fun(l:List aU)(m:Int)=>enc (k9 l m&&(iu l []).getD false)) (QL fun _=>rfl) h
theorem aDQ[bq D nN][aT x1 t][aT x2 m](h:0<=m/\m<=1000) :bT ν aB D 26 [x1,x2] K tg=K (enc (jC m t)):=aDO (af2 t h)
attribute [go_sem ↓ 2000] aDQ
theorem af6(h:l.all ph=true):∀r∈l,r.body.length<=8/\∀x∈r.body,(dG x.atom).length<=1000:=fun r b=>by
 have:=aII.1 h r b;simp only[ph,aID,decide_eq_true_eq,aII]at this;exact⟨this.1.2,fun x ah=>by have:=aDM (this.2 x ah);omega⟩
theorem aDR(l:List aU)(m:Int)(hm:0<=m/\m<=1000)(cg:k9 l m=true->(iu l []).isSome=true):aF ν aB 8 [enc l,enc m] (enc (k9 l m&&(iu l []).getD false)):=by
 refine aF.l9 fun ae=>?_;obtain⟨ae,_⟩:=ae;have C:M=1099511627776:=rfl;rcases Int.lt_or_le m (l.length:Int)with q|q
 ·have e:k9 l m=false:=by rw[k9,decide_eq_false (by omega),aIE]
  rw[e,aIE];refine aF.intro (D:=nN) aah fp fg ?_;unfold MT;simp(disch:=first|exact aq|fail) only[go_sem]
  (repeat' first|simp(disch:=first|exact aq|fail) only[go_sem]|(apply av<;>intro))
  all_goals rfl
 ·have e:k9 l m=l.all ph:=by rw[k9,decide_eq_true q,aIJ]
  rw[e]at cg ⊢;obtain⟨R,dN⟩:∃R,R=l.all ph:=⟨_,rfl⟩;rw[<-dN]at cg ⊢;have w:∀{K:AV->Prop}{tg:aM K},R=true->bT ν aB nN 10 [.list none 3 (l.map aU.enc),.aV 2] K tg=K (enc ((iu l []).getD false)):=fun{K tg}d=>by
   obtain⟨b,u⟩:=Option.isSome_iff_exists.1 (cg d);have hd:=afV l [] b (by omega) (af6 (by rw[<-dN];exact d)) (by simp) u;have y:(iu l []).getD false=b:=by rw[u];rfl
   exact af5 (D:=nN) (K:=K) (tg:=tg) (x1:=enc l) (x2:=.aV 2) (l:=l) (g:=[]) (by rw[y];exact hd)
  refine aF.intro (D:=nN) aah fp fg ?_;unfold MT;simp(disch:=first|exact aq|fail) only[go_sem]
  (repeat' first|simp(disch:=first|exact aq|fail) only[go_sem]|(apply av<;>intro))
  refine b9 (fun i:Nat=>⟨N [(0,.v (enc l)),(12,.v (enc l.length)),(13,.v (enc i))],[]⟩) (fun i=>i<=l.length/\(l.drop i).all ph=R) (fun i=>l.length-i) 0 ⟨aHW _,dN.symm⟩ (by(try simp(disch:=first|exact aq|fail) only[go_sem])<;>(exact bG)) ?_;rintro i ⟨E,c⟩;rcases aHV i l.length with h|h
  ·rw[fY h,List.all_cons]at c;obtain⟨r,d⟩:∃r,r=l[i]!:=⟨_,rfl⟩;rw[<-d]at c;cases n:jC 20 r.head with
   |false =>
    have:ph r=false:=by simp[ph,n]
    rw[this,aIE]at c;rw[<-c]
    (repeat' first|simp(disch:=first|exact aq|fail) only[go_sem,<-d,n]|(apply av<;>intro))
    all_goals rfl
   |true =>
    rcases aHV 8 r.body.length with v|v
    ·have:ph r=false:=by simp[ph,decide_eq_false (show ¬r.body.length<=8 by omega)]
     rw[this,aIE]at c;rw[<-c]
     (repeat' first|simp(disch:=first|exact aq|fail) only[go_sem,<-d,n]|(apply av<;>intro))
     all_goals rfl
    ·have z:ph r=r.body.all fun x=>jC 20 x.atom:=by rw[ph,n,decide_eq_true v];rfl
     rw[z]at c
     (repeat' first|simp(disch:=first|exact aq|fail) only[go_sem,<-d,n]|(apply av<;>intro))
     refine b9 (fun j:Nat=>⟨N [(0,.v (enc l)),(5,.v (enc i)),(12,.v (enc l.length)),(13,.v (enc i)),(37,.v (enc r.body.length)),(38,.v (enc j))],[]⟩) (fun j=>j<=r.body.length/\(((r.body.drop j).all fun x=>jC 20 x.atom)&&(l.drop (i+1)).all ph)=R) (fun j=>r.body.length-j) 0 ⟨aHW _,c⟩ (by(try simp(disch:=first|exact aq|fail) only[go_sem])<;>(exact bG)) ?_;rintro j ⟨G,k⟩;rcases aHV j r.body.length with p|p
     ·rw[fY p,List.all_cons]at k;cases o:jC 20 r.body[j]!.atom with
      |false =>
       rw[o,aIE,aIE]at k;rw[<-k]
       (repeat' first|simp(disch:=first|exact aq|fail) only[go_sem,<-d,o]|(apply av<;>intro))
       all_goals rfl
      |true =>
       rw[o,aIJ]at k
       (repeat' first|simp(disch:=first|exact aq|fail) only[go_sem,<-d,o]|(apply av<;>intro))
       exact⟨j+1,⟨by omega,k⟩,by omega,by(exact bG)⟩
     ·rw[aIA p,List.all_nil,aIJ]at k
      (repeat' first|simp(disch:=first|exact aq|fail) only[go_sem]|(apply av<;>intro))
      exact⟨i+1,⟨by omega,k⟩,by omega,by(exact bG)⟩
  ·rw[aIA h,List.all_nil]at c;have B:=fun{K:AV->Prop}{tg:aM K}=>w (K:=K) (tg:=tg) c.symm;rw[<-c,aIJ]
   (repeat' first|simp(disch:=first|exact aq|fail) only[go_sem,B]|(apply av<;>intro))
   all_goals rfl
open Enc (enc)
def pj(l:List aU)(g:List I):Bool:=(k9 l 40&&(iu l []).getD false)&&oj 60 g&&(iu l g).getD false
noncomputable def agD:List kX:=[(9,jo fun(l:List I)(m:Int)=>enc (oj m l)),
 (4,jo fun(l:List aU)(g:List I)=>enc (pj l g)),
 (5,fun _=>some (enc (true)))]
noncomputable def la:bc:=jV nN (fT agD)
instance aIb{D:bc}[h:bq D la]:bq D nN:=h.nA
theorem Q8(h:∀xs,fT agD f xs=F xs)(hk:(([26,10,8]++([28,29,55,54,31]++([44,15]++([36,14]++([47,48]++([79,80,81]++([103,105,104,76,75,78]++([46,18,17,19,6]++([64]++([96]++([51]++([23,16]++([45]++([43,126,107,77,106]++[58,88,120,94,57,40,71,99,101,25,7,74])))))))))))))):List Nat).contains f=false:=by rfl):∀xs,la f xs=F xs:=fun xs=>by rw[<-h];exact mS aDN hk
theorem aEe[bq D la]{l:List I}[aT x1 l][aT x2 m](h:aF ν aB 9 [enc l,enc m] (enc (oj m l))):bT ν aB D 9 [x1,x2] K tg=K (enc (oj m l)):=lI (D':=la) (F:=fun(l:List I)(m:Int)=>enc (oj m l)) (Q8 fun _=>rfl) h
theorem aEf[bq D la][aT x1 l][aT x2 g](h:aF ν aB 4 [enc l,enc g] (enc (pj l g))):bT ν aB D 4 [x1,x2] K tg=K (enc (pj l g)):=lI (D':=la) (F:=fun(l:List aU)(g:List I)=>enc (pj l g)) (Q8 fun _=>rfl) h
theorem aEg[bq D la]   (h:aF ν aB 5 [] (enc (true))):bT ν aB D 5 [] K tg=K (enc (true)):=avT (D':=la) ((show ∀xs,la 5 xs=some (enc (true)) from Q8 fun _=>rfl) []) h
theorem aEh[bq D la]{l:List I}[aT x1 l][aT x2 m](h:0<=m/\m<=1000) :bT ν aB D 9 [x1,x2] K tg=K (enc (oj m l)):=aEe (aDL l h)
attribute [go_sem ↓ 2000] aEh
theorem aEi[bq D nN][aT x1 l][aT x2 m](h:0<=m/\m<=1000)(U:k9 l m=true->(iu l []).isSome=true) :bT ν aB D 8 [x1,x2] K tg=K (enc (k9 l m&&(iu l []).getD false)):=aDP (aDR l m h U)
attribute [go_sem ↓ 2000] aEi
theorem aEj[bq D ir]{a:List I}[aT x1 l][aT x2 a](h:∀r∈l,∀a∈fU r,c0 a<=1000000)(U:(fq l a).isSome=true) :bT ν aB D 6 [x1,x2] K tg=K (nK (fq l a)):=EX (Fc l a h U)
attribute [go_sem ↓ 2000] aEj
theorem Fp(h:k9 l m=true):(l.length:Int)<=m/\∀r∈l,iH r.head<=20/\r.body.length<=8/\∀x∈r.body,iH x.atom<=20:=by
 simp only[k9,aID,decide_eq_true_eq,aII,ph]at h;exact⟨h.1,fun r b=>⟨QZ (by omega) (h.2 r b).1.1,(h.2 r b).1.2,fun x ah=>QZ (by omega) ((h.2 r b).2 x ah)⟩⟩
theorem aEk(h:k9 l m=true):∀r∈l,∀a∈fU r,c0 a<=1000000:=fun r b a aE=>by
 obtain⟨c,_,U⟩:=(Fp h).2 r b;simp only[fU,List.mem_cons,List.mem_map]at aE;rcases aE with rfl|⟨x,ah,rfl⟩
 ·have:=Jr 20 _ c;omega
 ·have:=Jr 20 _ (U x ah);omega
theorem Q9(h:oj 60 g=true):g.length<=60/\∀a∈g,iH a<=60:=by
 simp only[oj,aID,decide_eq_true_eq,aII]at h;exact⟨by omega,fun a aE=>QZ (by omega) (h.2 a aE)⟩
theorem aEl(h:pj l g=true):k9 l 40=true/\oj 60 g=true/\iu l g=some true:=by
 simp only[pj,aID]at h;refine⟨h.1.1.1,h.1.2,?_⟩;cases c:iu l g with
 |none=>rw[c]at h;cases h.2|some b=>rw[c]at h;rw[show b=true from h.2]
theorem aEm(l:List aU)(g:List I)(o:∀r∈l,Cb r)(q:∀a∈g,fe 1048576 a):aF ν aB 4 [enc l,enc g] (enc (pj l g)):=by
 have az:k9 l 40=true->(iu l []).isSome=true:=fun h=>agy (fun r i=>⟨(o r i).1,((Fp h).2 r i).1⟩) (fun a aE=>by cases aE);cases c:(k9 l 40&&(iu l []).getD false)with
 |false =>
  have e:pj l g=false:=by rw[pj,c];rfl
  rw[e];refine aF.intro (D:=la) Nq fp fg ?_;unfold HH;simp(disch:=first|exact aq|fail) only[go_sem]
  (repeat' first|simp(disch:=first|exact aq|fail) only[go_sem,c]|(apply av<;>intro))
  all_goals rfl
 |true =>
  cases d:oj 60 g with
  |false =>
   have e:pj l g=false:=by rw[pj,c,d];rfl
   rw[e];refine aF.intro (D:=la) Nq fp fg ?_;unfold HH;simp(disch:=first|exact aq|fail) only[go_sem]
   (repeat' first|simp(disch:=first|exact aq|fail) only[go_sem,c,d]|(apply av<;>intro))
   all_goals rfl
  |true =>
   have j:k9 l 40=true:=by rw[aID]at c;exact c.1
   have k:(iu l g).isSome=true:=agy (fun r i=>⟨(o r i).1,((Fp j).2 r i).1⟩) (fun a aE=>⟨q a aE,(Q9 d).2 a aE⟩);obtain⟨b,ae⟩:=Option.isSome_iff_exists.1 k;have e:pj l g=b:=by rw[pj,c,d,ae];rfl
   have n:l.all ph=true:=by rw[k9,aID]at j;exact j.2
   have u:∀{K:AV->Prop}{tg:aM K},bT ν aB la 10 [.list none 3 (l.map aU.enc),.list none 2 (g.map I.enc)] K tg=K (enc b):=fun{K tg}=>by
    have v:=(Fp j).1;have w:=(Q9 d).1;have hd:=afV l g b (by omega) (af6 n) (by omega) ae;have p:(iu l g).getD false=b:=by rw[ae];rfl
    exact(af5 (D:=la) (K:=K) (tg:=tg) (x1:=enc l) (x2:=enc g) (l:=l) (g:=g) (by rw[p];exact hd)).trans (by rw[p])
   rw[e];refine aF.intro (D:=la) Nq fp fg ?_;unfold HH;simp(disch:=first|exact aq|fail) only[go_sem]
   (repeat' first|simp(disch:=first|exact aq|fail) only[go_sem,c,d,u]|(apply av<;>intro))
   all_goals rfl
theorem aEp[bq D la][aT x1 l][aT x2 g](b:∀r∈l,Cb r)(U:∀a∈g,fe 1048576 a) :bT ν aB D 4 [x1,x2] K tg=K (enc (pj l g)):=aEf (aEm l g b U)
attribute [go_sem ↓ 2000] aEp
end AM
