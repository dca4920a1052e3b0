/- What functions of the given program do, as calls of the machine. Conditions: names and lists are bounded where that is said. -/
import Derived.Test.YtljpaghckmbmlaaGreatDoorE29
import Derived.Test.YtljpaghckmbmlaaGreatDoorAm9
import Derived.Test.YtljpaghckmbmlaaGreatDoorW1
import Derived.Test.YtljpaghckmbmlaaGreatDoorT1
set_option linter.unusedSimpArgs false
set_option maxRecDepth 100000
set_option maxHeartbeats 4000000
set_option linter.unusedVariables false
namespace AM
open Nat renaming lt_or_ge -> aqt,zero_le -> aqw,le_refl -> aLY
open List renaming length_append -> aqv,length_map -> aqx,drop_eq_nil_of_le -> aqB,map_cons -> aqE,length_nil -> aqH,take_zero -> aqT,map_append -> aqU,length_cons -> aqV,foldr_cons -> avP,foldr_nil -> avQ,map_nil -> avX,all_cons -> ax6,length_set -> aLZ,all_nil -> aL0,all_eq_true -> aPw,length_take -> aPR,mem_cons_of_mem -> aPS,filterMap_nil -> aPT,append_nil -> aPU,length_filterMap_le -> aPV,getElem?_eq_getElem -> aPX
open Bool renaming false_and -> aqI,true_and -> avO,and_eq_true -> avY,false_eq_true -> aKc,eq_iff_iff -> aLO,false_or -> aL1,and_self -> aPP,or_eq_false_iff -> aPW
open Int renaming natCast_add -> avR,natCast_one -> avS,natCast_zero -> avT,lt_or_le -> aPQ
open Go Go.Proofs
open Tryz renaming prog -> ν
open Enc (enc)
def ph(gz:Bool)(out:List (List aY)):List AV:=if gz then[.aS 3]else out.map enc
def p4(gz:Bool):Option Nat:=if gz then some 91 else none
theorem lQ(a:Bool)(sz:Nat)(xs:List AV):AV.a1 (.list (p4 a) sz xs)=.list none sz xs:=by cases a<;>rfl
variable {gz:Bool}{out:List (List aY)}
theorem S7(h:gz=true->out=[[]]):(ph gz out).length=out.length:=by
 cases gz with
 |true=>rw[h rfl];rfl|false=>simp[ph]
variable {k:Nat}
theorem S8(h:gz=true->out=[[]])(hk:k<out.length):(ph gz out)[k]?=some (if gz then .aS 3 else enc out[k]!):=by
 cases gz with
 |true =>
  have:=h rfl;subst this;obtain rfl:k=0:=by simpa using hk
  rfl
 |false=>simp[ph,hk]
variable {a:I}{s:List aY}{A:List I}
theorem aJJ{j:Nat}(h:j<A.length)(b:List (List aY))(left:Int):k2 a s (A.drop j) b left=if A[j]!.name != a.name||decide (A[j]!.args.length≠a.args.length)then k2 a s (A.drop (j+1)) b left
  else if decide (left-1<0)||decide ((if(fk a A[j]! s).2 then b++[(fk a A[j]! s).1]else b).length>5000)then none
  else k2 a s (A.drop (j+1)) (if(fk a A[j]! s).2 then b++[(fk a A[j]! s).1]else b) (left-1):=by
 rw[fi h,k2]
def gY(H:List ay)(w:Nat)(left:Int):List ay:=H.set w (.cells [.int .i64 left])
variable {H:List ay}{left:Int}
theorem S9{w:Nat}(h:w<H.length):(gY H w left)[w]?=some (.cells [.int .i64 left]):=by simp[gY,h]
theorem G5(H:List ay)(w:Nat)(l b:Int):(gY H w l).set w (.cells [.int .i64 b])=gY H w b:=by simp[gY]
def Ta(H:List ay)(w:Nat)(R:Option (List (List aY)×Int))(r:AV)(H':List ay):Prop:=match R with
 |none=>r=.bg [.aS 1,.bool false]/\∃l,H'=gY H w l|some (out,l)=>(∃gz,(gz=true->out=[[]])/\r=.bg [.list none 1 (ph gz out),.bool true])/\H'=gY H w l
def Tb(H:List ay)(w:Nat)(ka:AV)(A:List I):Prop:=(ka=.aS 2/\A=[])\/∃id,ka=.bI id 0 A.length 2/\H[id]?=some (.buf 31 (c3 A))/\id≠w
theorem aJK{w:Nat}{L:AV}(B:List Lit)(A:List I)(hw:H[w]?=some (.cells [.int .i64 left]))(qj:Tb H w L A)(aC:0<=left/\left<=1000000)(fN:B.length<=8)(akx:∀x∈B,(ck x.atom).length<=1000)(cE:A.length<=M) :
  bB ν aD 58 [.ptr w 0,enc B,L] H (Ta H w (js A B [[]] left)):=by
 have cP:M=1099511627776:=rfl;have aJL:=dq hw;have yW:gY H w left=H:=by rw[gY];exact C6 hw
 obtain⟨R,de⟩:∃R,R=js A B [[]] left:=⟨_,rfl⟩;rw[<-de];rcases qj with⟨b,HE⟩|⟨id,b,bW,cG⟩
 ·have Du:A.length=0:=by rw[HE];rfl
  have g:(A.length:Int)=0:=by omega
  refine bB.intro (D:=gy) afa ?_;unfold Ph;refine iv @b @g @lQ ?_;refine bQ (λq:Nat×Bool×List (List aY)×Int=>⟨N [(0,.v (.ptr w 0)),(1,.v (enc B)),(2,.v L),(8,.v (.list (p4 q.2.1) 1 (ph q.2.1 q.2.2.1))),(18,.v (enc B.length)),(19,.v (enc q.1))],gY H w q.2.2.2⟩)
   (λq=>q.1<=B.length/\(q.2.1=true->q.2.2.1=[[]])/\(0<=q.2.2.2/\q.2.2.2<=1000000)/\q.2.2.1.length<=5000/\qU (1000*q.1) q.2.2.1/\js A (B.drop q.1) q.2.2.1 q.2.2.2=R) (λq=>B.length-q.1) (0,true,[[]],left) ⟨aqw _,λ_=>rfl,aC,be,λs ax=>by simp at ax;rw[ax];simp,de.symm⟩ (by(try simp(disch:=first|exact ai|fail) only[go_sem,b,g])<;>(first|rfl|(simp(disch:=first|exact aX|fail) only[b7,avP,avQ,Env.ins,cp,cq,cr,ct,cu,cv,cw,cx,I.b0,aqx,avR,avS,avT,aqT,bL,aqU,aqE,avX,cy,cz,go_sem,b,g,yW,ph,p4];try rfl))) ?_
  rintro⟨i,gz,out,z⟩ ⟨i1,m,C,T,E,e⟩;simp only at i1 m C T E e;have Dd:=S7 m;rcases aqt i B.length with al|al
  ·obtain⟨x,ah⟩:∃x,x=B[i]!:=⟨_,rfl⟩;have nS:=akx B[i]! (ek al);rw[<-ah]at nS;rw[fi al,js,<-ah]at e;cases n:(x.neg||x.atom.name==eG)with
   |true =>
    rw[n,if_pos rfl]at e;cases o:x.neg with
    |true =>
     refine rp @b @g @lQ (Eq.symm @ah) @o ?_;exact⟨(i+1,gz,out,z),⟨ap,m,C,T,λs ax=>lw,e⟩,ap,by(exact og @b @g)⟩
    |false =>
     have p:(x.atom.name==[100,105,115,116,105,110,99,116])=true:=by rw[o,aL1]at n;exact n
     refine oX @b @g @lQ (Eq.symm @ah) @o @p ?_;exact⟨(i+1,gz,out,z),⟨ap,m,C,T,λs ax=>lw,e⟩,ap,by(exact og @b @g)⟩
   |false =>
    rw[n,if_neg be]at e;simp only[aPW]at n;obtain⟨o,p⟩:=n;have p:(x.atom.name==[100,105,115,116,105,110,99,116])=false:=p;refine oX @b @g @lQ (Eq.symm @ah) @o @p ?_;obtain⟨Y,fv⟩:∃Y,Y=my x.atom A out [] z:=⟨_,rfl⟩;rw[<-fv]at e;refine bQ (λq:Nat×List (List aY)×Int=>⟨N [(0,.v (.ptr w 0)),(1,.v (enc B)),(2,.v L),(8,.v (.list (p4 gz) 1 (ph gz out))),(10,.b [.str x.atom.name,.list none 2 (x.atom.args.map I.enc)]),(11,.v (.list (some 91) 1 (q.2.1.map enc))),(18,.v (enc B.length)),(19,.v (enc i)),(38,.v (enc out.length)),(39,.v (enc q.1))],gY H w q.2.2⟩)
     (λq=>q.1<=out.length/\(0<=q.2.2/\q.2.2<=1000000)/\q.2.1.length<=5000/\qU (1000*(i+1)) q.2.1/\my x.atom A (out.drop q.1) q.2.1 q.2.2=Y) (λq=>out.length-q.1) (0,[],z) ⟨aqw _,C,be,λs ax=>by simp at ax,fv.symm⟩ (by(try simp(disch:=first|exact ai|fail) only[go_sem,b,g])<;>(exact B4 @b @g @Dd)) ?_
    rintro⟨k,V,W⟩ ⟨cF,er,eo,gd,f⟩;simp only at cF er eo gd f;rcases aqt k out.length with hk|hk
    ·have r:=S8 m hk;obtain⟨s,ax⟩:∃s,s=out[k]!:=⟨_,rfl⟩;have qi:=E out[k]! (ek hk);rw[<-ax]at r qi;rw[fi hk,my,<-ax]at f;obtain⟨Z,o6⟩:∃Z,Z=k2 x.atom s A V W:=⟨_,rfl⟩;rw[<-o6]at f;have hg:s.length+(ck x.atom).length<=1000000:=by omega
     have DD:∀t,(fk x.atom t s).1.length<=1000*(i+1):=λt=>by have:=G3 x.atom t s;omega
     obtain⟨v,uh⟩:∃v,v=(if gz then AV.aS 3 else enc s):=⟨_,rfl⟩;rw[<-uh]at r;have ui:(v=.aS 3/\s=[])\/v=.list none 3 (s.map aY.enc):=by
      cases gz with
      |true =>
       refine .inl ⟨uh,?_⟩;have:=m rfl;rw[ax,this];obtain rfl:k=0:=by rw[this]at hk;simpa using hk
       rfl
      |false=>exact .inr uh
     refine iv @b @g @lQ ?_;refine bQ (λq:Nat×List (List aY)×Int=>⟨N [(0,.v (.ptr w 0)),(1,.v (enc B)),(2,.v L),(8,.v (.list (p4 gz) 1 (ph gz out))),(10,.b [.str x.atom.name,.list none 2 (x.atom.args.map I.enc)]),(11,.v (.list (some 91) 1 (q.2.1.map enc))),(12,.v (enc k)),(18,.v (enc B.length)),(19,.v (enc i)),(38,.v (enc out.length)),(39,.v (enc k)),(43,.v (enc A.length)),(44,.v (enc q.1))],gY H w q.2.2⟩)
      (λq=>q.1<=A.length/\(0<=q.2.2/\q.2.2<=1000000)/\q.2.1.length<=5000/\qU (1000*(i+1)) q.2.1/\k2 x.atom s (A.drop q.1) q.2.1 q.2.2=Z) (λq=>A.length-q.1) (0,V,W) ⟨aqw _,er,eo,gd,o6.symm⟩ (by(try simp(disch:=first|exact ai|fail) only[go_sem,b,g])<;>(exact og @b @g)) ?_
     rintro⟨j,y,F⟩ ⟨ei,dO,O,G,c⟩;simp only at ei dO O G c;rcases aqt j A.length with a8|a8
     ·exfalso;omega
     ·rw[aqB a8,k2]at c;rw[<-c]at f;refine iv @b @g @lQ ?_;exact⟨(k+1,y,F),⟨ap,dO,O,G,f⟩,ap,by(exact og @b @g)⟩
    ·rw[aqB hk,my]at f;rw[<-f]at e;refine iv @b @g @lQ ?_;exact⟨(i+1,false,V,W),⟨ap,λh=>d7,er,eo,gd,e⟩,ap,by(first|rfl|(simp(disch:=first|exact aX|fail) only[b7,avP,avQ,Env.ins,cp,cq,cr,ct,cu,cv,cw,cx,I.b0,aqx,avR,avS,avT,aqT,bL,aqU,aqE,avX,cy,cz,go_sem,b,g,ph,p4,aKc,if_false];try rfl))⟩
  ·rw[aqB al,js]at e;rw[<-e];have Tc:p4 true=some 91:=rfl;have Td:p4 false=none:=rfl;cases gz with
   |true =>
    refine iv @b @g @Tc ?_;exact⟨_,rfl,⟨true,m,rfl⟩,rfl⟩
   |false =>
    refine iv @b @g @Td ?_;exact⟨_,rfl,⟨false,m,rfl⟩,rfl⟩
 ·have d:∀l,(gY H w l)[id]?=some (.buf 31 (c3 A)):=λl=>by rw[gY,cj (Ne.symm cG)];exact bW
  refine bB.intro (D:=gy) afa ?_;unfold Ph;refine iv @b @d @lQ ?_;refine bQ (λq:Nat×Bool×List (List aY)×Int=>⟨N [(0,.v (.ptr w 0)),(1,.v (enc B)),(2,.v L),(8,.v (.list (p4 q.2.1) 1 (ph q.2.1 q.2.2.1))),(18,.v (enc B.length)),(19,.v (enc q.1))],gY H w q.2.2.2⟩)
   (λq=>q.1<=B.length/\(q.2.1=true->q.2.2.1=[[]])/\(0<=q.2.2.2/\q.2.2.2<=1000000)/\q.2.2.1.length<=5000/\qU (1000*q.1) q.2.2.1/\js A (B.drop q.1) q.2.2.1 q.2.2.2=R) (λq=>B.length-q.1) (0,true,[[]],left) ⟨aqw _,λ_=>rfl,aC,be,λs ax=>by simp at ax;rw[ax];simp,de.symm⟩ (by(try simp(disch:=first|exact ai|fail) only[go_sem,b,d])<;>(first|rfl|(simp(disch:=first|exact aX|fail) only[b7,avP,avQ,Env.ins,cp,cq,cr,ct,cu,cv,cw,cx,I.b0,aqx,avR,avS,avT,aqT,bL,aqU,aqE,avX,cy,cz,go_sem,b,d,yW,ph,p4];try rfl))) ?_
  rintro⟨i,gz,out,z⟩ ⟨i1,m,C,T,E,e⟩;simp only at i1 m C T E e;have Dd:=S7 m;rcases aqt i B.length with al|al
  ·obtain⟨x,ah⟩:∃x,x=B[i]!:=⟨_,rfl⟩;have nS:=akx B[i]! (ek al);rw[<-ah]at nS;rw[fi al,js,<-ah]at e;cases n:(x.neg||x.atom.name==eG)with
   |true =>
    rw[n,if_pos rfl]at e;cases o:x.neg with
    |true =>
     refine rp @b @d @lQ (Eq.symm @ah) @o ?_;exact⟨(i+1,gz,out,z),⟨ap,m,C,T,λs ax=>lw,e⟩,ap,lh⟩
    |false =>
     have p:(x.atom.name==[100,105,115,116,105,110,99,116])=true:=by rw[o,aL1]at n;exact n
     refine oX @b @d @lQ (Eq.symm @ah) @o @p ?_;exact⟨(i+1,gz,out,z),⟨ap,m,C,T,λs ax=>lw,e⟩,ap,lh⟩
   |false =>
    rw[n,if_neg be]at e;simp only[aPW]at n;obtain⟨o,p⟩:=n;have p:(x.atom.name==[100,105,115,116,105,110,99,116])=false:=p;refine oX @b @d @lQ (Eq.symm @ah) @o @p ?_;obtain⟨Y,fv⟩:∃Y,Y=my x.atom A out [] z:=⟨_,rfl⟩;rw[<-fv]at e;refine bQ (λq:Nat×List (List aY)×Int=>⟨N [(0,.v (.ptr w 0)),(1,.v (enc B)),(2,.v L),(8,.v (.list (p4 gz) 1 (ph gz out))),(10,.b [.str x.atom.name,.list none 2 (x.atom.args.map I.enc)]),(11,.v (.list (some 91) 1 (q.2.1.map enc))),(18,.v (enc B.length)),(19,.v (enc i)),(38,.v (enc out.length)),(39,.v (enc q.1))],gY H w q.2.2⟩)
     (λq=>q.1<=out.length/\(0<=q.2.2/\q.2.2<=1000000)/\q.2.1.length<=5000/\qU (1000*(i+1)) q.2.1/\my x.atom A (out.drop q.1) q.2.1 q.2.2=Y) (λq=>out.length-q.1) (0,[],z) ⟨aqw _,C,be,λs ax=>by simp at ax,fv.symm⟩ (by(try simp(disch:=first|exact ai|fail) only[go_sem,b,d])<;>(exact B4 @b @d @Dd)) ?_
    rintro⟨k,V,W⟩ ⟨cF,er,eo,gd,f⟩;simp only at cF er eo gd f;rcases aqt k out.length with hk|hk
    ·have r:=S8 m hk;obtain⟨s,ax⟩:∃s,s=out[k]!:=⟨_,rfl⟩;have qi:=E out[k]! (ek hk);rw[<-ax]at r qi;rw[fi hk,my,<-ax]at f;obtain⟨Z,o6⟩:∃Z,Z=k2 x.atom s A V W:=⟨_,rfl⟩;rw[<-o6]at f;have hg:s.length+(ck x.atom).length<=1000000:=by omega
     have DD:∀t,(fk x.atom t s).1.length<=1000*(i+1):=λt=>by have:=G3 x.atom t s;omega
     obtain⟨v,uh⟩:∃v,v=(if gz then AV.aS 3 else enc s):=⟨_,rfl⟩;rw[<-uh]at r;have ui:(v=.aS 3/\s=[])\/v=.list none 3 (s.map aY.enc):=by
      cases gz with
      |true =>
       refine .inl ⟨uh,?_⟩;have:=m rfl;rw[ax,this];obtain rfl:k=0:=by rw[this]at hk;simpa using hk
       rfl
      |false=>exact .inr uh
     refine iv @b @d @lQ ?_;refine bQ (λq:Nat×List (List aY)×Int=>⟨N [(0,.v (.ptr w 0)),(1,.v (enc B)),(2,.v L),(8,.v (.list (p4 gz) 1 (ph gz out))),(10,.b [.str x.atom.name,.list none 2 (x.atom.args.map I.enc)]),(11,.v (.list (some 91) 1 (q.2.1.map enc))),(12,.v (enc k)),(18,.v (enc B.length)),(19,.v (enc i)),(38,.v (enc out.length)),(39,.v (enc k)),(43,.v (enc A.length)),(44,.v (enc q.1))],gY H w q.2.2⟩)
      (λq=>q.1<=A.length/\(0<=q.2.2/\q.2.2<=1000000)/\q.2.1.length<=5000/\qU (1000*(i+1)) q.2.1/\k2 x.atom s (A.drop q.1) q.2.1 q.2.2=Z) (λq=>A.length-q.1) (0,V,W) ⟨aqw _,er,eo,gd,o6.symm⟩ (by(try simp(disch:=first|exact ai|fail) only[go_sem,b,d])<;>(exact og @b @d)) ?_
     rintro⟨j,y,F⟩ ⟨ei,dO,O,G,c⟩;simp only at ei dO O G c;rcases aqt j A.length with a8|a8
     ·rw[aJJ a8]at c;obtain⟨t,P⟩:∃t,t=A[j]!:=⟨_,rfl⟩;rw[<-P]at c;have n3:((t.args.length:Int) != (x.atom.args.length:Int))=decide (t.args.length≠x.atom.args.length):=by rw[aLO];simp;omega
      cases J:t.name==x.atom.name with
      |false =>
       have Te:(t.name != x.atom.name)=true:=by rw[bne,J];rfl
       rw[Te,Bool.true_or,if_pos rfl]at c;refine rp @b @d @lQ (Eq.symm @P) @J ?_;exact⟨(j+1,y,F),⟨ap,dO,O,G,c⟩,ap,lh⟩
      |true =>
       have Te:(t.name != x.atom.name)=false:=by rw[bne,J];rfl
       rw[Te,aL1]at c;cases Q:decide (t.args.length≠x.atom.args.length)with
       |true =>
        rw[Q,if_pos rfl]at c;refine EG @b @d @lQ (Eq.symm @P) @J @n3 @Q ?_;exact⟨(j+1,y,F),⟨ap,dO,O,G,c⟩,ap,lh⟩
       |false =>
        rw[Q,if_neg be]at c;have hd:=aJD x.atom t s hg;have Si:=DD t;obtain⟨X,bA⟩:∃X,X=fk x.atom t s:=⟨_,rfl⟩;rw[<-bA]at c hd Si;have G6:=λl=>S9 (left:=l) aJL;have S:∀{K:AV->Prop}{tg:aN K},b1 ν aD gy 100 [x.atom.enc,t.enc,v] K tg=K (mz X):=λ{K tg}=>by
         rw[bA]at hd ⊢;rcases ui with⟨rfl,rfl⟩|rfl
         ·exact S1 (D:=gy) (K:=K) (tg:=tg) (x1:=x.atom.enc) (x2:=t.enc) (x3:=.aS 3) hd
         ·exact S1 (D:=gy) (K:=K) (tg:=tg) (x1:=x.atom.enc) (x2:=t.enc) (x3:=enc s) hd
        simp only[mz]at S;cases b9:X.2 with
        |true =>
         rw[b9]at c S;simp only[if_true,aqv,aqV,aqH]at c;have n9:qU (1000*(i+1)) (y++[X.1]):=λu hu=>by
          rcases List.mem_append.1 hu with hu|hu
          ·exact G u hu
          ·rw[List.mem_singleton]at hu;rw[hu];exact Si
         rcases aPQ (F-1) 0 with g1|g1
         ·rw[decide_eq_true g1,Bool.true_or,if_pos rfl]at c;rw[<-c]at f;rw[<-f]at e;rw[<-e];rcases ui with⟨rfl,_⟩|rfl
          all_goals
           (repeat' first|simp(disch:=first|exact ai|fail) only[go_sem,b,d,lQ,<-P,J,n3,Q,S,r,G6,G5,aqx,aqv,aqV,aqH]|(refine ao ?_ ?_<;>intro))
           exact⟨_,rfl,rfl,_,rfl⟩
         ·rw[decide_eq_false am,aL1]at c;rcases aqt 5000 (y.length+(0+1))with g2|g2
          ·rw[decide_eq_true g2,if_pos rfl]at c;rw[<-c]at f;rw[<-f]at e;rw[<-e];rcases ui with⟨rfl,_⟩|rfl
           all_goals
            (repeat' first|simp(disch:=first|exact ai|fail) only[go_sem,b,d,lQ,<-P,J,n3,Q,S,r,G6,G5,aqx,aqv,aqV,aqH]|(refine ao ?_ ?_<;>intro))
            exact⟨_,rfl,rfl,_,rfl⟩
          ·rw[decide_eq_false am,if_neg be]at c;rcases ui with⟨rfl,_⟩|rfl
           all_goals
            (repeat' first|simp(disch:=first|exact ai|fail) only[go_sem,b,d,lQ,<-P,J,n3,Q,S,r,G6,G5,aqx,aqv,aqV,aqH]|(refine ao ?_ ?_<;>intro))
            exact⟨(j+1,y++[X.1],F-1),⟨ap,ap,by simp only[aqv,aqV,aqH];omega,n9,c⟩,ap,lh⟩
        |false =>
         rw[b9]at c S;simp only[aKc,if_false]at c;rw[decide_eq_false (show ¬y.length>5000 by omega),Bool.or_false]at c;rcases aPQ (F-1) 0 with g1|g1
         ·rw[decide_eq_true g1,if_pos rfl]at c;rw[<-c]at f;rw[<-f]at e;rw[<-e];rcases ui with⟨rfl,_⟩|rfl
          all_goals
           (repeat' first|simp(disch:=first|exact ai|fail) only[go_sem,b,d,lQ,<-P,J,n3,Q,S,r,G6,G5,aqx,aqv,aqV,aqH]|(refine ao ?_ ?_<;>intro))
           exact⟨_,rfl,rfl,_,rfl⟩
         ·rw[decide_eq_false am,if_neg be]at c;rcases ui with⟨rfl,_⟩|rfl
          all_goals
           (repeat' first|simp(disch:=first|exact ai|fail) only[go_sem,b,d,lQ,<-P,J,n3,Q,S,r,G6,G5,aqx,aqv,aqV,aqH]|(refine ao ?_ ?_<;>intro))
           exact⟨(j+1,y,F-1),⟨ap,ap,O,G,c⟩,ap,lh⟩
     ·rw[aqB a8,k2]at c;rw[<-c]at f;refine iv @b @d @lQ ?_;exact⟨(k+1,y,F),⟨ap,dO,O,G,f⟩,ap,lh⟩
    ·rw[aqB hk,my]at f;rw[<-f]at e;refine iv @b @d @lQ ?_;exact⟨(i+1,false,V,W),⟨ap,λh=>d7,er,eo,gd,e⟩,ap,by(first|rfl|(simp(disch:=first|exact aX|fail) only[b7,avP,avQ,Env.ins,cp,cq,cr,ct,cu,cv,cw,cx,I.b0,aqx,avR,avS,avT,aqT,bL,aqU,aqE,avX,cy,cz,go_sem,b,d,ph,p4,aKc,if_false];try rfl))⟩
  ·rw[aqB al,js]at e;rw[<-e];have Tc:p4 true=some 91:=rfl;have Td:p4 false=none:=rfl;cases gz with
   |true =>
    refine iv @b @d @Tc ?_;exact⟨_,rfl,⟨true,m,rfl⟩,rfl⟩
   |false =>
    refine iv @b @d @Td ?_;exact⟨_,rfl,⟨false,m,rfl⟩,rfl⟩
open Enc (enc)
def aJM(H:List ay)(ac:Nat)(S:List I):Prop:=(H[ac]?=some (.cells [.aS 2])/\S=[])\/∃id,H[ac]?=some (.cells [.bI id 0 S.length 2])/\H[id]?=some (.buf 31 (c3 S))
def qY(pk mk ac:Nat)(km:List (ak×Bool))(S:List I)(H:List ay):Prop:=H[pk]?=some (.cells [.map mk])/\(∃n,H[mk]?=some (.map n (cI AV.bool km)))/\aJM H ac S
theorem Lj(km:List (ak×Bool))(s:ak):w6 (.bool false) false ((getM km s).map AV.bool)=.bool ((getM km s).getD false):=by
 cases getM km s<;>rfl
variable {pk mk ac:Nat}{km:List (ak×Bool)}{S:List I}
theorem akz(t:I)(h:qY pk mk ac km S H)(hk:(fy t).length<=M)(hd:cc t<=1000000)(ds:S.length+1<=M) :
  bB ν aD 55 [enc t,.ptr pk 0,.ptr ac 0] H λr H'=>r=.bg []/\qY pk mk ac (gZ (km,S) t).1 (gZ (km,S) t).2 H'/\H.length<=H'.length/\∀i,i<H.length->i≠mk->i≠ac->(∀e cs,H[i]?≠some (.buf e cs))->H'[i]?=H[i]?:=by
 have cP:M=1099511627776:=rfl;obtain⟨c,⟨n,g⟩,b⟩:=h;have cV:=dq c;have R:=dq g
 have E:decide ((cc t:Int)<=4)=decide (cc t<=4):=by rw[aLO];simp;omega
 refine bB.intro (D:=gy) ayx ?_;unfold ZS;cases p:(getM km (fy t)).getD false with
 |true =>
  have e:gZ (km,S) t=(km,S):=by rw[gZ];simp[p]
  rw[e];refine mb @c @g @Lj @p ?_;refine⟨_,rfl,?_⟩;first
   |exact⟨rfl,⟨c,⟨n,g⟩,b⟩,aLY _,λ_ _ _ _ _=>rfl⟩|(simp only[imp_true_iff,forall_const,and_true,aLY];exact⟨rfl,c,⟨n,g⟩,b⟩)|(refine⟨rfl,⟨c,⟨n,g⟩,b⟩,?_⟩;simp)
 |false =>
  cases x:decide (cc t<=4)with
  |false =>
   have e:gZ (km,S) t=(km,S):=by rw[gZ];simp[p,x]
   rw[e];refine oX @c @g @Lj @p @E @x ?_;refine⟨_,rfl,?_⟩;first
   |exact⟨rfl,⟨c,⟨n,g⟩,b⟩,aLY _,λ_ _ _ _ _=>rfl⟩|(simp only[imp_true_iff,forall_const,and_true,aLY];exact⟨rfl,c,⟨n,g⟩,b⟩)|(refine⟨rfl,⟨c,⟨n,g⟩,b⟩,?_⟩;simp)
  |true =>
   have e:gZ (km,S) t=(fV km (fy t) true,S++[t]):=by rw[gZ];simp[p,x]
   rw[e];have T:mk≠pk:=λe=>by rw[e,c]at g;cases g
   rcases b with⟨b,Y⟩|⟨id,b,q⟩
   ·have Z:=dq b;have y:mk≠ac:=λe=>by rw[e,b]at g;cases g
    have F:pk≠ac:=λe=>by rw[e,b]at c;cases c
    subst Y;obtain⟨f,j⟩:∃f,f=H.set mk (ay.map (lo n km (fy t)) (cI AV.bool (fV km (fy t) true))):=⟨_,rfl⟩;have m:f.length=H.length:=by rw[j,aLZ]
    have B:f[pk]?=some (.cells [.map mk]):=by rw[j,cj T];exact c
    have C:f[ac]?=some (.cells [.aS 2]):=by rw[j,cj y];exact b
    have G:f[mk]?=some (.map (lo n km (fy t)) (cI AV.bool (fV km (fy t) true))):=by rw[j,dV R]
    have l:=akr (H:=f++[ay.buf 31 [AV.str [],AV.aS 2],.dead]) (id:=H.length) (e:=31) (S:=[]) (t:=t) (by rw[<-m];simp[c3]);have J:(f++[ay.buf 31 [AV.str [],AV.aS 2],.dead]).set H.length (.buf 31 (c3 ([]++[t])))=f++[ay.buf 31 (c3 [t]),.dead]:=by rw[<-m];simp
    rw[J]at l;have L:(f++[ay.buf 31 (c3 [t]),.dead])[ac]?=some (.cells [.aS 2]):=by rw[dE am];exact C
    have u:=aks (i:=H.length) (o:=0) (n:=1) (z:=2) L;simp only[aqH,Nat.zero_mul]at l
    (repeat' first|simp(disch:=first|exact ai|fail) only[go_sem,c,g,b,Lj,p,E,x,aJp,aLZ,<-j,m,B,C,akq,l,u]|(refine ao ?_ ?_<;>intro))
    refine⟨_,rfl,rfl,⟨by rw[cj (Ne.symm F),dE am];exact B,⟨_,by rw[cj (Ne.symm y),dE am];exact G⟩,.inr ⟨H.length,by rw[dV (by rw[aqv];omega)];rfl,by rw[cj am,<-m];simp⟩⟩,by first|(rw[aLZ,aqv];omega)|(rw[aqv];omega),λi aj O P _=>by rw[cj (Ne.symm P),dE am,j,cj (Ne.symm O)]⟩
   ·have Z:=dq b;have lA:=dq q
    have y:mk≠ac:=λe=>by rw[e,b]at g;cases g
    have F:pk≠ac:=λe=>by rw[e,b]at c;cases c
    have V:mk≠id:=λe=>by rw[e,q]at g;cases g
    have Rt:pk≠id:=λe=>by rw[e,q]at c;cases c
    have n6:ac≠id:=λe=>by rw[e,q]at b;cases b
    obtain⟨f,j⟩:∃f,f=H.set mk (ay.map (lo n km (fy t)) (cI AV.bool (fV km (fy t) true))):=⟨_,rfl⟩;obtain⟨v,w⟩:∃v,v=f.set id .dead:=⟨_,rfl⟩;have m:f.length=H.length:=by rw[j,aLZ]
    have Q:v.length=H.length:=by rw[w,aLZ];exact m
    have B:f[pk]?=some (.cells [.map mk]):=by rw[j,cj T];exact c
    have C:f[ac]?=some (.cells [.bI id 0 S.length 2]):=by rw[j,cj y];exact b
    have G:f[mk]?=some (.map (lo n km (fy t)) (cI AV.bool (fV km (fy t) true))):=by rw[j,dV R]
    have W:f[id]?=some (.buf 31 (c3 S)):=by rw[j,cj V];exact q
    have X:=λ{e0:Env}{K:au->Prop}{tg:aN K}=>aJq (e0:=e0) (K:=K) (t:=tg) (d:=22) (H:=f) (n:=S.length) ⟨W,rfl,ds⟩;rw[<-w,m]at X;have l:=akr (H:=v++[ay.buf 31 (c3 S++[AV.str [],AV.aS 2]),.dead]) (id:=H.length) (e:=31) (S:=S) (t:=t) (by rw[<-Q];simp);have J:(v++[ay.buf 31 (c3 S++[AV.str [],AV.aS 2]),.dead]).set H.length (.buf 31 (c3 (S++[t])))=v++[ay.buf 31 (c3 (S++[t])),.dead]:=by rw[<-Q];simp
    rw[J]at l;have L:(v++[ay.buf 31 (c3 (S++[t])),.dead])[ac]?=some (.cells [.bI id 0 S.length 2]):=by rw[dE am,w,cj (Ne.symm n6)];exact C
    have u:=aks (i:=H.length) (o:=0) (n:=S.length+1) (z:=2) L
    (repeat' first|simp(disch:=first|exact ai|fail) only[go_sem,c,g,b,q,Lj,p,E,x,aLZ,<-j,m,B,C,W,X,akq,l,u]|(refine ao ?_ ?_<;>intro))
    refine⟨_,rfl,rfl,⟨by rw[cj (Ne.symm F),dE am,w,cj (Ne.symm Rt)];exact B,⟨_,by rw[cj (Ne.symm y),dE am,w,cj (Ne.symm V)];exact G⟩,.inr ⟨H.length,by rw[dV (by rw[aqv];omega),aqv];rfl,by rw[cj am,<-Q];simp⟩⟩,by first|(rw[aLZ,aqv];omega)|(rw[aqv];omega),λi aj O P bG=>?_⟩;have ev:id≠i:=λe=>bG _ _ (by rw[<-e];exact q);rw[cj (Ne.symm P),dE am,w,cj ev,j,cj (Ne.symm O)]
open Enc (enc)
theorem qY.ex(h:qY pk mk ac km S H)(t:I):∃H',qY pk mk ac (gZ (km,S) t).1 (gZ (km,S) t).2 H'/\H.length<=H'.length/\∀i,i<H.length->i≠mk->i≠ac->(∀e cs,H[i]?≠some (.buf e cs))->H'[i]?=H[i]?:=by
 by_cases g:(!((getM km (fy t)).getD false)&&decide (cc t<=4))=true
 ·rw[gZ,if_pos g];obtain⟨b,⟨n,d⟩,f⟩:=h;have p:mk≠pk:=λe=>by rw[e,b]at d;cases d
  have q:∃c,H[ac]?=some (.cells [c])/\∀m,c≠.map m:=by
   rcases f with⟨f,_⟩|⟨id,f,_⟩
   ·exact⟨_,f,λm h=>d7⟩
   ·exact⟨_,f,λm h=>d7⟩
  obtain⟨c,j,r⟩:=q;have u:mk≠ac:=λe=>by rw[e,j]at d;cases d
  have v:pk≠ac:=λe=>by rw[e,j]at b;simp at b;exact r _ b
  have w:=dq b;have l:=dq d;have o:=dq j
  refine⟨(H.set mk (.map 0 (cI AV.bool (fV km (fy t) true)))).set ac (.cells [.bI H.length 0 (S.length+1) 2])++[.buf 31 (c3 (S++[t]))],⟨?_,⟨0,?_⟩,.inr ⟨H.length,?_,?_⟩⟩,be,λi x y z _=>?_⟩
  ·rw[dE (by simpa using w),cj (Ne.symm v),cj p];exact b
  ·rw[dE (by simpa using l),cj (Ne.symm u),dV l]
  ·rw[dE (by simpa using o),dV (by simpa using o)];simp
  ·simp
  ·rw[dE (by simpa using x),cj (Ne.symm z),cj (Ne.symm y)]
 ·rw[gZ,if_neg g];exact⟨H,h,aLY _,λ_ _ _ _ _=>rfl⟩
theorem akA(H:List ay)(w:Nat)(a b:Int):gY (gY H w a) w b=gY H w b:=by simp[gY]
variable {m:Nat}
theorem Tg(hm:s.length+(ck a).length<=m):∀{bE:List I}{c d:List (List aY)}{left e:Int},k2 a s bE c left=some (d,e)->c.length<=5000->qU m c->0<=left->d.length<=5000/\qU m d/\0<=e/\e<=left
 |[],c,d,left,e,h,h1,f,g=>by
  simp only[k2,Option.some.injEq,Prod.mk.injEq]at h;obtain⟨rfl,rfl⟩:=h;exact⟨h1,f,g,Int.le_refl _⟩
 |t::bE,c,d,left,e,h,h1,f,g=>by
  rw[k2]at h;obtain⟨i,j⟩:∃i,i=(if(fk a t s).2 then c++[(fk a t s).1]else c):=⟨_,rfl⟩;rw[<-j]at h;split at h
  ·exact Tg hm h h1 f g
  ·split at h
   ·cases h
   ·rename_i l;simp only[Bool.or_eq_true,decide_eq_true_eq,not_or]at l;have ae:=G3 a t s;have n:qU m i:=λu b=>by
     rw[j]at b;split at b
     ·rcases List.mem_append.1 b with b|b
      ·exact f u b
      ·rw[List.mem_singleton]at b;rw[b];omega
     ·exact f u b
    obtain⟨o,p,q,r⟩:=Tg hm h am n am;exact⟨o,p,q,am⟩
theorem akB :∀{out b c:List (List aY)}{left d:Int},(∀s∈out,s.length+(ck a).length<=m)->my a A out b left=some (c,d)->b.length<=5000->qU m b->0<=left->c.length<=5000/\qU m c/\0<=d/\d<=left
 |[],b,c,left,d,_,h,h1,e,f=>by
  simp only[my,Option.some.injEq,Prod.mk.injEq]at h;obtain⟨rfl,rfl⟩:=h;exact⟨h1,e,f,Int.le_refl _⟩
 |s::r,b,c,left,d,ax,h,h1,e,f=>by
  rw[my]at h;cases g:k2 a s A b left with
  |none=>rw[g]at h;cases h|some q =>
   obtain⟨v,w⟩:=q;rw[g]at h;obtain⟨i,j,l,x⟩:=Tg (ax s be) g h1 e f;obtain⟨n,o,p,y⟩:=akB (λu t=>ax u (aPS _ t)) h i j l;exact⟨n,o,p,am⟩
theorem Ti :∀{B:List Lit}{out b:List (List aY)}{left c:Int}{m:Nat},(∀x∈B,(ck x.atom).length<=1000)->js A B out left=some (b,c)->out.length<=5000->qU m out->0<=left->b.length<=5000/\qU (m+1000*B.length) b/\0<=c/\c<=left
 |[],out,b,left,c,m,_,h,h1,e,f=>by
  simp only[js,Option.some.injEq,Prod.mk.injEq]at h;obtain⟨rfl,rfl⟩:=h;exact⟨h1,λs ax=>by have:=e s ax;omega,f,Int.le_refl _⟩
 |x::r,out,b,left,c,m,ae,h,h1,e,f=>by
  have d:=λy o=>ae y (aPS x o);have v:=ae x be;rw[js]at h;split at h
  ·obtain⟨g,i,j,n⟩:=Ti d h h1 e f;exact⟨g,λs ax=>by have:=i s ax;simp only[aqV];omega,j,n⟩
  ·cases l:my x.atom A out [] left with
   |none=>rw[l]at h;cases h|some q =>
    obtain⟨w,z⟩:=q;rw[l]at h;obtain⟨p,t,u,C⟩:=akB (m:=m+1000) (λs ax=>by have:=e s ax;omega) l be (λs ax=>by simp at ax) f;obtain⟨g,i,j,n⟩:=Ti d h p t u;exact⟨g,λs ax=>by have:=i s ax;simp only[aqV];omega,j,am⟩
theorem qY.w{km:List (ak×Bool)}{S:List I}{H':List ay}{x:Int}(b:H[0]?=some (.cells [.int .i64 x]))(c:∀i,i<H.length->i≠1->i≠3->(∀e cs,H[i]?≠some (.buf e cs))->H'[i]?=H[i]?):H'[0]?=some (.cells [.int .i64 x]):=by
 rw[c 0 (dq b) am am (λe cs=>by rw[b];simp)];exact b
theorem akD(l:List aU)(c:List I)(b:Bool)(aC:l.length<=1000)(ae:∀r∈l,r.body.length<=8/\∀x∈r.body,(ck x.atom).length<=1000)(aF:c.length<=1000000)(g:kb l c=some b):aA ν aD 20 [enc l,enc c] (enc b):=by
 have cP:M=1099511627776:=rfl;unfold kb at g;cases P:c.all qX with
 |false=>rw[P]at g;simp at g|true =>
 rw[P]at g;simp only[Bool.not_true,aKc,if_false]at g;have P:=aPw.1 P;refine aA.intro (D:=gy) ax9 (by simp only[ax6,aL0,Enc.arg,aPP]) rfl ?_;unfold YI
 (repeat' first|simp(disch:=first|exact ai|fail) only[go_sem,jL]|(refine ao ?_ ?_<;>intro))
 refine bQ (λq:Nat×(List (ak×Bool)×List I)×List ay=>⟨N [(0,.v (enc l)),(1,.v (enc c)),(5,.v (.ptr 0 0)),(7,.v (.ptr 3 0)),(8,.v (.fn 55 [.ptr 2 0,.ptr 3 0])),(26,.v (enc c.length)),(27,.v (enc q.1))],q.2.2⟩)
  (λq=>q.1<=c.length/\qY 2 1 3 q.2.1.1 q.2.1.2 q.2.2/\q.2.2[0]?=some (.cells [.int .i64 1000000])/\q.2.1.2.length<=q.1/\(c.drop q.1).foldl gZ q.2.1=c.foldl gZ ([],[])) (λq=>c.length-q.1) (0,([],[]),[ay.cells [AV.int IntKind.i64 1000000],ay.map 0 [],ay.cells [AV.map 1],ay.cells [AV.aS 2]])
  ⟨aqw _,⟨rfl,⟨0,rfl⟩,.inl ⟨rfl,rfl⟩⟩,rfl,aLY _,rfl⟩ ci ?_
 rintro⟨i,p,H⟩ ⟨i1,L,E,V,Q⟩;simp only at i1 L E V Q;rcases aqt i c.length with al|al
 ·have hk:=P c[i]! (ek al);simp only[qX,avY,decide_eq_true_eq]at hk;have af:=akz c[i]! L hk.1 hk.2 am;rw[fi al,List.foldl_cons]at Q;have sq:=aky p c[i]!;have v:∃(r:AV)(j:List ay),r=.bg []/\qY 2 1 3 (gZ p c[i]!).1 (gZ p c[i]!).2 j/\H.length<=j.length/\∀i,i<H.length->i≠1->i≠3->(∀e cs,H[i]?≠some (.buf e cs))->j[i]?=H[i]?:=by
   obtain⟨j,q⟩:=L.ex c[i]!;exact⟨_,j,rfl,q⟩
  (repeat' first|simp(disch:=first|exact ai|fail) only[go_sem,jL]|(refine ao ?_ ?_<;>intro)|(refine iJ ⟨af,v⟩ ?_;(rintro r' j ⟨rfl,ca,dK,fp⟩)))
  exact⟨(i+1,gZ p c[i]!,j),⟨ap,ca,qY.w (km:=[]) (S:=[]) E fp,ap,Q⟩,ap,co⟩
 rw[aqB al,List.foldl_nil]at Q;rw[<-Q]at g;clear Q P
 (repeat' first|simp(disch:=first|exact ai|fail) only[go_sem]|(refine ao ?_ ?_<;>intro))
 refine bQ (λq:Nat×(List (ak×Bool)×List I)×List ay×Int×Int=>⟨N [(0,.v (enc l)),(5,.v (.ptr 0 0)),(7,.v (.ptr 3 0)),(8,.v (.fn 55 [.ptr 2 0,.ptr 3 0])),(10,.v (.int .i64 q.2.2.2.1))],q.2.2.1⟩)
  (λq=>qY 2 1 3 q.2.1.1 q.2.1.2 q.2.2.1/\q.2.2.1[0]?=some (.cells [.int .i64 q.2.2.2.2])/\q.2.1.2.length<=100000000/\(0<=q.2.2.2.2/\q.2.2.2.2<=1000000)/\(-1<=q.2.2.2.1/\q.2.2.2.1<=100000000)/\y8 l q.1 q.2.1 q.2.2.2.1 q.2.2.2.2=some b) (λq=>q.1) (1003,p,H,-1,1000000) ⟨L,E,ap,ap,ap,g⟩ ci ?_
 clear i1 L E V al g;rintro⟨f,p,H,n,left⟩ ⟨L,E,V,i6,i7,g⟩;simp only at L E V i6 i7 g;obtain⟨h1,⟨jd,ab⟩,C⟩:=L;cases f with
 |zero=>cases g|succ f =>
 rw[y8]at g;have G:decide ((p.2.length:Int)<=1000)=decide (p.2.length<=1000):=by rw[aLO];simp;omega
 obtain⟨S,ds⟩:∃S,S=p.2:=⟨_,rfl⟩;rw[<-ds]at C V g G;have fc:∃y,H[3]?=some (.cells [y])/\Tb H 0 y S/\(∀x,Tb (gY H 0 x) 0 y S):=by
  rcases C with⟨C,z⟩|⟨id,C,O⟩
  ·exact⟨_,C,.inl ⟨rfl,z⟩,λ_=>.inl ⟨rfl,z⟩⟩
  ·have ne:id≠0:=λe=>by rw[e,E]at O;cases O
   exact⟨_,C,.inr ⟨id,rfl,O,ne⟩,λx=>.inr ⟨id,rfl,by rw[gY,cj (Ne.symm ne)];exact O,ne⟩⟩
 obtain⟨y,Tj,qj,W⟩:=fc;have Lk:∀j,ou 1 j y=some (.int .i64 (S.length:Int)):=λj=>by
  rcases qj with⟨rfl,z⟩|⟨id,rfl,_⟩
  ·rw[z];rfl
  ·rfl
 have F:y.a1=y:=by
  rcases qj with⟨rfl,z⟩|⟨id,rfl,_⟩<;>rfl
 have Tk:∀{K:AV->Prop}{tg:aN K},u0 2 (λn:Nat=>some (n:Int)) (λ_=>some (S.length:Int)) y K tg=K y:=λ{K tg}=>by
  rcases qj with⟨rfl,z⟩|⟨id,rfl,_⟩
  ·rw[z,agk];simp[eI]
  ·rw[agl];have:¬((0:Int)<0):=by omega
   simp[eI]
 have sH:∀{s:au}{d x:Nat}{K:au->Prop}{tg:aN K},yD s d x K tg y=di s d y K ⟨⟩:=λ{s d x K tg}=>by
  rcases qj with⟨rfl,z⟩|⟨id,rfl,_⟩<;>rfl
 cases g1:decide (n<(S.length:Int))with
 |false =>
  rw[g1,aqI,if_neg be]at g;have fS:b=decide (S.length<=1000):=(Option.some.inj g).symm;rw[fS]
  (repeat' first|simp(disch:=first|exact ai|fail) only[go_sem,Tj,Lk,F,Tk,sH,g1,G]|(refine ao ?_ ?_<;>intro))
 |true =>
  rw[g1,avO]at g;cases g2:decide (S.length<=1000)with
  |false =>
   rw[g2,if_neg be]at g;have fS:b=false:=(Option.some.inj g).symm;rw[fS]
   (repeat' first|simp(disch:=first|exact ai|fail) only[go_sem,Tj,Lk,F,Tk,sH,g1,G,g2]|(refine ao ?_ ?_<;>intro))
  |true =>
   rw[g2,if_pos rfl]at g
   (repeat' first|simp(disch:=first|exact ai|fail) only[go_sem,Tj,Lk,F,Tk,sH,g1,G,g2]|(refine ao ?_ ?_<;>intro))
   obtain⟨Y,fv⟩:∃Y,Y=rS S l [] left:=⟨_,rfl⟩;rw[<-fv]at g;have yW:gY H 0 left=H:=by rw[gY];exact C6 E
   have Dl:=dq E;have ajN:S.length<=1000:=of_decide_eq_true g2;refine bQ (λq:Nat×List I×Int=>⟨N [(0,.v (enc l)),(5,.v (.ptr 0 0)),(7,.v (.ptr 3 0)),(8,.v (.fn 55 [.ptr 2 0,.ptr 3 0])),(10,.v (.int .i64 (S.length:Int))),(11,.v y),(12,.v (.list (some 31) 2 (q.2.1.map I.enc))),(52,.v (enc l.length)),(53,.v (enc q.1))],gY H 0 q.2.2⟩)
    (λq=>q.1<=l.length/\(0<=q.2.2/\q.2.2<=1000000)/\q.2.1.length<=q.1*5000/\rS S (l.drop q.1) q.2.1 q.2.2=Y) (λq=>l.length-q.1) (0,[],left) ⟨aqw _,i6,be,fv.symm⟩ (by(try simp(disch:=first|exact ai|fail) only[go_sem])<;>(first|rfl|(simp(disch:=first|exact aX|fail) only[b7,avP,avQ,Env.ins,cp,cq,cr,ct,cu,cv,cw,cx,I.b0,aqx,avR,avS,avT,aqT,bL,aqU,aqE,avX,cy,cz,go_sem,yW];try rfl))) ?_
   rintro⟨i,more,B⟩ ⟨c1,c2,gv,J⟩;simp only at c1 c2 gv J;rcases aqt i l.length with al|al
   ·rw[fi al,rS]at J;obtain⟨ed,dX⟩:=ae l[i]! (ek al);obtain⟨r,aw⟩:∃r,r=l[i]!:=⟨_,rfl⟩;rw[<-aw]at J ed dX;have Tl:=aJK (H:=gY H 0 B) (w:=0) (left:=B) r.body S (S9 Dl) (W B) c2 ed dX am;obtain⟨Z,o6⟩:∃Z,Z=js S r.body [[]] B:=⟨_,rfl⟩;rw[<-o6]at J Tl;cases Z with
    |none =>
     rw[<-J]at g;have fS:b=false:=(Option.some.inj g).symm;rw[fS];have v:∃(r:AV)(j:List ay),Ta (gY H 0 B) 0 none r j:=⟨_,_,rfl,0,rfl⟩
     (repeat' first|simp(disch:=first|exact ai|fail) only[go_sem,<-aw,F]|(refine ao ?_ ?_<;>intro)|(refine iJ ⟨Tl,v⟩ ?_;(rintro r' j ⟨rfl,yQ,rfl⟩)))
     all_goals rfl
    |some q =>
     obtain⟨all,cH⟩:=q;simp only at J;have v:∃(r:AV)(j:List ay),Ta (gY H 0 B) 0 (some (all,cH)) r j:=⟨_,_,⟨false,λh=>d7,rfl⟩,rfl⟩
     (repeat' first|simp(disch:=first|exact ai|fail) only[go_sem,<-aw,F]|(refine ao ?_ ?_<;>intro)|(refine iJ ⟨Tl,v⟩ ?_;(rintro r' j ⟨⟨gz,j1,rfl⟩,rfl⟩)))
     obtain⟨ba,dN,fu,wx⟩:=Ti (m:=0) dX o6.symm be (λs ax=>by simp at ax;rw[ax];simp) c2.1;have Dd:=S7 j1;refine bQ (λk:Nat=>⟨N [(0,.v (enc l)),(5,.v (.ptr 0 0)),(7,.v (.ptr 3 0)),(8,.v (.fn 55 [.ptr 2 0,.ptr 3 0])),(10,.v (.int .i64 (S.length:Int))),(11,.v y),(12,.v (.list (some 31) 2 ((more++(all.take k).filterMap (hv r.head)).map I.enc))),(13,.v (enc i)),(14,.v (.list none 1 (ph gz all))),(52,.v (enc l.length)),(53,.v (enc i)),(70,.v (enc all.length)),(71,.v (enc k))],gY H 0 cH⟩)
      (λk=>k<=all.length) (λk=>all.length-k) 0 (aqw _) (by(try simp(disch:=first|exact ai|fail) only[go_sem,akA])<;>(first|rfl|(simp(disch:=first|exact aX|fail) only[b7,avP,avQ,Env.ins,cp,cq,cr,ct,cu,cv,cw,cx,I.b0,aqx,avR,avS,avT,aqT,bL,aqU,aqE,avX,cy,cz,go_sem,Dd,aPT,aPU,akA];try rfl))) ?_
     intro k hk;rcases aqt k all.length with o|o
     ·have gn:=S8 j1 o;obtain⟨s,ax⟩:∃s,s=all[k]!:=⟨_,rfl⟩;have qi:=dN all[k]! (ek o);rw[<-ax]at gn qi;have Ll:(all.take (k+1)).filterMap (hv r.head)=(all.take k).filterMap (hv r.head)++(hv r.head s).toList:=by
       rw[bL o,List.filterMap_append,<-ax];simp only[List.filterMap_cons,aPT];cases hv r.head s<;>rfl
      have akF:((all.take k).filterMap (hv r.head)).length<=5000:=by
       have:=aPV (hv r.head) (all.take k);rw[aPR]at this;omega
      have hd:=aJI s am r.head;obtain⟨X,bA⟩:∃X,X=hv r.head s:=⟨_,rfl⟩;rw[<-bA]at hd Ll;obtain⟨pj,uh⟩:∃pj,pj=(if gz then AV.aS 3 else enc s):=⟨_,rfl⟩;rw[<-uh]at gn;have ui:(pj=.aS 3/\s=[])\/pj=.list none 3 (s.map aY.enc):=by
       cases gz with
       |true =>
        refine .inl ⟨uh,?_⟩;have:=j1 rfl;rw[ax,this];obtain rfl:k=0:=by rw[this]at o;simpa using o
        rfl
       |false=>exact .inr uh
      have sP:∀{K:AV->Prop}{tg:aN K},b1 ν aD gy 59 [r.head.enc,pj] K tg=K (pg r.head X):=λ{K tg}=>by
       rw[bA]at hd ⊢;rcases ui with⟨rfl,rfl⟩|rfl
       ·exact S2 (D:=gy) (K:=K) (tg:=tg) (x1:=r.head.enc) (x2:=.aS 3) hd
       ·exact S2 (D:=gy) (K:=K) (tg:=tg) (x1:=r.head.enc) (x2:=enc s) hd
      have rk:(more++(all.take k).filterMap (hv r.head)).length+1<=M:=by rw[aqv];omega
      obtain⟨mk,R⟩:∃mk,mk=more++(all.take k).filterMap (hv r.head):=⟨_,rfl⟩;have Lm:more++(all.take (k+1)).filterMap (hv r.head)=mk++X.toList:=by rw[Ll,<-List.append_assoc,R]
      rw[<-R]at rk ⊢;cases X with
      |none =>
       simp only[pg]at sP;rcases ui with⟨rfl,_⟩|rfl
       all_goals
        (repeat' first|simp(disch:=first|exact ai|fail) only[go_sem,F,<-aw,gn,sP]|(refine ao ?_ ?_<;>intro))
        exact⟨k+1,am,am,by rw[Lm,Option.toList_none,aPU];(exact bl)⟩
      |some u =>
       simp only[pg]at sP;rcases ui with⟨rfl,_⟩|rfl
       all_goals
        (repeat' first|simp(disch:=first|exact ai|fail) only[go_sem,F,<-aw,gn,sP,aqx]|(refine ao ?_ ?_<;>intro))
        exact⟨k+1,am,am,by rw[Lm,Option.toList_some];(exact bl)⟩
     ·obtain rfl:k=all.length:=by omega
      rw[List.take_length];have akF:=aPV (hv r.head) all
      (repeat' first|simp(disch:=first|exact ai|fail) only[go_sem,F]|(refine ao ?_ ?_<;>intro))
      exact⟨(i+1,more++all.filterMap (hv r.head),cH),⟨ap,ap,by simp only[aqv];omega,J⟩,ap,co⟩
   ·rw[aqB al,rS]at J;rw[<-J]at g
    (repeat' first|simp(disch:=first|exact ai|fail) only[go_sem,F,Lk]|(refine ao ?_ ?_<;>intro))
    simp only at g;obtain⟨T,ej⟩:∃T,T=more++S.filterMap kP:=⟨_,rfl⟩;rw[<-ej]at g;have akG:T.all qX=true:=by
     cases bk:T.all qX with
     |true=>rfl|false=>rw[bk]at g;simp at g
    rw[akG]at g;simp only[Bool.not_true,aKc,if_false]at g;have rk:more.length<=5000000:=by have:i*5000<=1000*5000:=Nat.mul_le_mul_right _ am;omega
    have aJN:∀(n:ak)(a:List I),(I.mk n a).enc=.agg [.str n,.list none 2 (a.map I.enc)]:=λn a=>I.qC _;refine bQ (λk:Nat=>⟨N [(0,.v (enc l)),(5,.v (.ptr 0 0)),(7,.v (.ptr 3 0)),(8,.v (.fn 55 [.ptr 2 0,.ptr 3 0])),(10,.v (.int .i64 (S.length:Int))),(11,.v y),(12,.v (.list (some 31) 2 ((more++(S.take k).filterMap kP).map I.enc))),(95,.v (enc S.length)),(96,.v (enc k))],gY H 0 B⟩)
     (λk=>k<=S.length) (λk=>S.length-k) 0 (aqw _) (by(try simp(disch:=first|exact ai|fail) only[go_sem])<;>(first|rfl|(simp(disch:=first|exact aX|fail) only[b7,avP,avQ,Env.ins,cp,cq,cr,ct,cu,cv,cw,cx,I.b0,aqx,avR,avS,avT,aqT,bL,aqU,aqE,avX,cy,cz,go_sem,aPT,aPU];try rfl))) ?_
    intro k hk;rcases aqt k S.length with o|o
    ·rcases W B with⟨_,z⟩|⟨id,eF,bW,_⟩
     ·exfalso;rw[z]at o;simp at o
     obtain⟨t,aB⟩:∃t,t=S[k]!:=⟨_,rfl⟩;have Ll:(S.take (k+1)).filterMap kP=(S.take k).filterMap kP++(kP t).toList:=by
      rw[bL o,List.filterMap_append,<-aB];simp only[List.filterMap_cons,aPT];cases kP t<;>rfl
     have akF:((S.take k).filterMap kP).length<=1000:=by
      have:=aPV kP (S.take k);rw[aPR]at this;omega
     obtain⟨mk,R⟩:∃mk,mk=more++(S.take k).filterMap kP:=⟨_,rfl⟩;have aPe:mk.length+1<=M:=by rw[R,aqv];omega
     have Lm:more++(S.take (k+1)).filterMap kP=mk++(kP t).toList:=by rw[Ll,<-List.append_assoc,R]
     rw[<-R]at ⊢;have ee:((t.args.length:Int)==1)=decide (t.args.length=1):=by rw[aLO];simp;omega
     have c9:((t.args.length:Int)==2)=decide (t.args.length=2):=by rw[aLO];simp;omega
     have DF:kP t=if decide (t.args.length=1)&&(t.name==[105,110,105,116]||t.name==[110,101,120,116])then some (.mk [116,114,117,101] t.args)
      else if decide (t.args.length=2)&&t.name==[108,101,103,97,108]then some (.mk [100,111,101,115] t.args)else none:=rfl
     cases aj:decide (t.args.length=1)<;>cases av:t.name==[105,110,105,116]<;>cases aQ:t.name==[110,101,120,116]<;>cases bG:decide (t.args.length=2)<;>cases ev:t.name==[108,101,103,97,108];all_goals
      rw[aj,av,aQ,bG,ev]at DF;simp only[avO,aqI,Bool.true_or,aL1,Bool.or_self,aPP,Bool.and_true,Bool.and_false,aKc,if_true,if_false]at DF
      (repeat' first|simp(disch:=first|exact ai|fail) only[go_sem,eF,bW,<-aB,ee,c9,aj,av,aQ,bG,ev,aqx]|(refine ao ?_ ?_<;>intro))
      exact⟨k+1,am,am,by rw[Lm,DF];(first|rfl|(simp(disch:=first|exact aX|fail) only[b7,avP,avQ,Env.ins,cp,cq,cr,ct,cu,cv,cw,cx,I.b0,aqx,avR,avS,avT,aqT,bL,aqU,aqE,avX,cy,cz,go_sem,eF,Option.toList_some,Option.toList_none,aPU,aJN];try rfl))⟩
    ·obtain rfl:k=S.length:=by omega
     rw[List.take_length,<-ej];refine bU @F ?_;have aPf:T.length<=6000000:=by
      rw[ej,aqv];have:=aPV kP S;omega
     have aJO:=aPw.1 akG;have aJP:qY 2 1 3 p.1 p.2 (gY H 0 B):=by
      refine⟨by rw[gY,cj am];exact h1,⟨jd,by rw[gY,cj am];exact ab⟩,?_⟩;rw[<-ds];rcases C with⟨C,z⟩|⟨id,C,O⟩
      ·exact .inl ⟨by rw[gY,cj am];exact C,z⟩
      ·have ne:id≠0:=λe=>by rw[e,E]at O;cases O
       exact .inr ⟨id,by rw[gY,cj am];exact C,by rw[gY,cj (Ne.symm ne)];exact O⟩
     refine bQ (λq:Nat×(List (ak×Bool)×List I)×List ay=>⟨N [(0,.v (enc l)),(5,.v (.ptr 0 0)),(7,.v (.ptr 3 0)),(8,.v (.fn 55 [.ptr 2 0,.ptr 3 0])),(10,.v (.int .i64 (S.length:Int))),(12,.v (.list (some 31) 2 (T.map I.enc))),(159,.v (enc T.length)),(160,.v (enc q.1))],q.2.2⟩)
      (λq=>q.1<=T.length/\qY 2 1 3 q.2.1.1 q.2.1.2 q.2.2/\q.2.2[0]?=some (.cells [.int .i64 B])/\q.2.1.2.length<=1000+q.1/\(T.drop q.1).foldl gZ q.2.1=T.foldl gZ p) (λq=>T.length-q.1) (0,p,gY H 0 B)
      ⟨aqw _,aJP,S9 Dl,by simp only;rw[<-ds];omega,rfl⟩ ci ?_
     rintro⟨k,aV,H2⟩ ⟨m1,m2,m3,m4,m5⟩;simp only at m1 m2 m3 m4 m5;rcases aqt k T.length with o|o
     ·have lx:=aJO T[k]! (ek o);simp only[qX,avY,decide_eq_true_eq]at lx;have af:=akz T[k]! m2 lx.1 lx.2 am;rw[fi o,List.foldl_cons]at m5;have sq:=aky aV T[k]!;have v:∃(r:AV)(j:List ay),r=.bg []/\qY 2 1 3 (gZ aV T[k]!).1 (gZ aV T[k]!).2 j/\H2.length<=j.length/\∀i,i<H2.length->i≠1->i≠3->(∀e cs,H2[i]?≠some (.buf e cs))->j[i]?=H2[i]?:=by
       obtain⟨j,q⟩:=m2.ex T[k]!;exact⟨_,j,rfl,q⟩
      (repeat' first|simp(disch:=first|exact ai|fail) only[go_sem,jL]|(refine ao ?_ ?_<;>intro)|(refine iJ ⟨af,v⟩ ?_;(rintro r' j ⟨rfl,ca,dK,fp⟩)))
      exact⟨(k+1,gZ aV T[k]!,j),⟨ap,ca,qY.w (km:=[]) (S:=[]) m3 fp,ap,m5⟩,ap,co⟩
     ·rw[aqB o,List.foldl_nil]at m5;rw[<-m5]at g;refine ag ?_;exact⟨(f,aV,H2,(S.length:Int),B),⟨m2,m3,ap,c2,ap,g⟩,ap,co⟩
open Enc (enc)
variable {m:Int}
theorem akJ{f:I->Int} :∀(l:List I)(n:Int),(∀t∈l,1<=f t)->ki f m l n<=m->n+(l.map f).sum=ki f m l n
 |[],n,_,_=>by simp[ki]|t::r,n,h,hm=>by
  have d:=h t be;by_cases b:n>m
  ·have:=aho (f:=f) (m:=m) (l:=t::r) (i:=0) (n:=n) be b;simp only[List.drop_zero]at this;omega
  ·have:=ahn (f:=f) (m:=m) (l:=t::r) (i:=0) (n:=n) be b;simp only[List.drop_zero,List.getElem!_cons_zero,List.drop_succ_cons]at this;rw[this]at hm ⊢;have:=akJ r (n+f t) (λu c=>h u (aPS _ c)) hm;simp only[aqE,List.sum_cons];omega
theorem akK(hm:0<=m/\m<=1000):∀(d:Nat)(t:I),j6 m d t<=m->((ck t).length:Int)<=j6 m d t
 |0,t,h=>by
  simp only[j6]at h;omega
 |d+1,t,h=>by
  rw[ahl]at h ⊢;have ae:=λu(b:u∈t.args)=>(Kl hm d u).1;have ax:=akJ t.args 1 ae h;have e:=QT t.args 1 ae am h;have f:=nJ t;have key:∀l:List I,(∀u∈l,((ck u).length:Int)<=j6 m d u)->((bF l).length:Int)<=(l.map (j6 m d)).sum:=λl=>by
   induction l with
   |nil=>intro _;simp[bF]|cons u r ih =>
    intro c;have j:=c u be;have n:=ih λw g=>c w (aPS _ g);simp only[bF,aqv,aqE,List.sum_cons];omega
  have o:=key t.args λu b=>akK hm d u (e.2 u b);rw[<-ax,f];split
  ·rename_i i;rw[List.length_eq_zero_iff.1 i];simp
  ·omega
variable {t:I}
theorem aJV(h:lM 20 t=true):(ck t).length<=20:=by
 simp only[lM,decide_eq_true_eq]at h;have:=akK (m:=20) ⟨am,am⟩ _ t h;omega
open Enc (enc)
def p5(r:aU):Bool:=lM 20 r.head&&decide (r.body.length<=8)&&r.body.all λx=>lM 20 x.atom
def nh(l:List aU)(m:Int):Bool:=decide ((l.length:Int)<=m)&&l.all p5
noncomputable def Tn:List iZ:=[(13,hj λ(t:I)(m:Int)=>enc (lM m t)),
 (20,hj λ(l:List aU)(g:List I)=>enc ((kb l g).getD false)),
 (18,hj λ(l:List aU)(m:Int)=>enc (nh l m&&(kb l []).getD false))]
noncomputable def p6:bj:=ij gy (e1 Tn)
instance aPh{D:bj}[h:bt D p6]:bt D gy:=h.ke
def To:List Nat:=[13,20,18]++S0
theorem akL:fq p6 To:=fq.or akt (kf Tn)
variable {f:Nat}{F:List AV->Option AV}
theorem Tp(h:∀xs,e1 Tn f xs=F xs)(hk:S0.contains f=false:=by rfl):∀xs,p6 f xs=F xs:=λxs=>by rw[<-h];exact kg akt hk
variable {D:bj}{x1 x2:AV}{l:List aU}{g:List I}{K:AV->Prop}{tg:aN K}
theorem akM[bt D p6][aT x1 l][aT x2 g](h:aA ν aD 20 [enc l,enc g] (enc ((kb l g).getD false))):b1 ν aD D 20 [x1,x2] K tg=K (enc ((kb l g).getD false)):=ik (D':=p6) (F:=λ(l:List aU)(g:List I)=>enc ((kb l g).getD false)) (Tp λ_=>rfl) h
theorem aJW[bt D p6][aT x1 t][aT x2 m](h:0<=m/\m<=1000) :b1 ν aD D 13 [x1,x2] K tg=K (enc (lM m t)):=ik (D':=p6) (F:=λ(t:I)(m:Int)=>enc (lM m t)) (Tp λ_=>rfl) (akI t h)
attribute [go_sem ↓ 2000] aJW
theorem akN(h:l.all p5=true):∀r∈l,r.body.length<=8/\∀x∈r.body,(ck x.atom).length<=1000:=λr b=>by
 have:=aPw.1 h r b;simp only[p5,avY,decide_eq_true_eq,aPw]at this;exact⟨this.1.2,λx ah=>by have:=aJV (this.2 x ah);omega⟩
theorem aJX(l:List aU)(m:Int)(hm:0<=m/\m<=1000)(cf:nh l m=true->(kb l []).isSome=true):aA ν aD 18 [enc l,enc m] (enc (nh l m&&(kb l []).getD false)):=by
 refine aA.h4 λae=>?_;obtain⟨ae,_⟩:=ae;have E:M=1099511627776:=rfl;rcases aPQ m (l.length:Int)with u|u
 ·have e:nh l m=false:=by rw[nh,decide_eq_false am,aqI]
  rw[e,aqI];refine aA.intro (D:=p6) ae2 cX c7 ?_;unfold O7;simp(disch:=first|exact ai|fail) only[go_sem]
  (repeat' first|refine ag ?_|(refine ao ?_ ?_<;>intro))
  all_goals rfl
 ·have e:nh l m=l.all p5:=by rw[nh,decide_eq_true u,avO]
  rw[e]at cf ⊢;obtain⟨R,de⟩:∃R,R=l.all p5:=⟨_,rfl⟩;rw[<-de]at cf ⊢;have y:∀{K:AV->Prop}{tg:aN K},R=true->b1 ν aD p6 20 [.list none 3 (l.map aU.enc),.aS 2] K tg=K (enc ((kb l []).getD false)):=λ{K tg}d=>by
   obtain⟨b,v⟩:=Option.isSome_iff_exists.1 (cf d);have hd:=akD l [] b am (akN (by rw[<-de];exact d)) be v;have z:(kb l []).getD false=b:=by rw[v];rfl
   exact akM (D:=p6) (K:=K) (tg:=tg) (x1:=enc l) (x2:=.aS 2) (l:=l) (g:=[]) (by rw[z];exact hd)
  refine aA.intro (D:=p6) ae2 cX c7 ?_;unfold O7;simp(disch:=first|exact ai|fail) only[go_sem]
  (repeat' first|refine ag ?_|(refine ao ?_ ?_<;>intro))
  refine bQ (λi:Nat=>⟨N [(0,.v (enc l)),(12,.v (enc l.length)),(13,.v (enc i))],[]⟩) (λi=>i<=l.length/\(l.drop i).all p5=R) (λi=>l.length-i) 0 ⟨aqw _,de.symm⟩ ew ?_;rintro i ⟨G,c⟩;rcases aqt i l.length with h|h
  ·rw[fi h,ax6]at c;obtain⟨r,d⟩:∃r,r=l[i]!:=⟨_,rfl⟩;rw[<-d]at c;cases o:lM 20 r.head with
   |false =>
    have:p5 r=false:=by simp[p5,o]
    rw[this,aqI]at c;rw[<-c]
    (repeat' first|simp(disch:=first|exact ai|fail) only[go_sem,<-d,o]|(refine ao ?_ ?_<;>intro))
    all_goals rfl
   |true =>
    rcases aqt 8 r.body.length with w|w
    ·have:p5 r=false:=by simp[p5,decide_eq_false (show ¬r.body.length<=8 by omega)]
     rw[this,aqI]at c;rw[<-c]
     (repeat' first|simp(disch:=first|exact ai|fail) only[go_sem,<-d,o]|(refine ao ?_ ?_<;>intro))
     all_goals rfl
    ·have B:p5 r=r.body.all λx=>lM 20 x.atom:=by rw[p5,o,decide_eq_true w];rfl
     rw[B]at c
     (repeat' first|simp(disch:=first|exact ai|fail) only[go_sem,<-d,o]|(refine ao ?_ ?_<;>intro))
     refine bQ (λj:Nat=>⟨N [(0,.v (enc l)),(5,.v (enc i)),(12,.v (enc l.length)),(13,.v (enc i)),(37,.v (enc r.body.length)),(38,.v (enc j))],[]⟩) (λj=>j<=r.body.length/\(((r.body.drop j).all λx=>lM 20 x.atom)&&(l.drop (i+1)).all p5)=R) (λj=>r.body.length-j) 0 ⟨aqw _,c⟩ ew ?_;rintro j ⟨J,n⟩;rcases aqt j r.body.length with q|q
     ·rw[fi q,ax6]at n;cases p:lM 20 r.body[j]!.atom with
      |false =>
       rw[p,aqI,aqI]at n;rw[<-n]
       (repeat' first|simp(disch:=first|exact ai|fail) only[go_sem,<-d,p]|(refine ao ?_ ?_<;>intro))
       all_goals rfl
      |true =>
       rw[p,avO]at n
       (repeat' first|simp(disch:=first|exact ai|fail) only[go_sem,<-d,p]|(refine ao ?_ ?_<;>intro))
       exact⟨j+1,⟨am,n⟩,am,co⟩
     ·rw[aqB q,aL0,avO]at n;refine ag ?_;exact⟨i+1,⟨am,n⟩,am,co⟩
  ·rw[aqB h,aL0]at c;have C:=λ{K:AV->Prop}{tg:aN K}=>y (K:=K) (tg:=tg) c.symm;rw[<-c,avO]
   (repeat' first|simp(disch:=first|exact ai|fail) only[go_sem,C]|(refine ao ?_ ?_<;>intro))
   all_goals rfl
open Enc (enc)
def rV(l:List aU)(g:List I):Bool:=(nh l 40&&(kb l []).getD false)&&qI 60 g&&(kb l g).getD false
noncomputable def TM:List iZ:=[(19,hj λ(l:List I)(m:Int)=>enc (qI m l)),
 (6,hj λ(l:List aU)(g:List I)=>enc (rV l g)),
 (7,λ_=>some (enc (true)))]
noncomputable def oF:bj:=ij p6 (e1 TM)
instance aPi{D:bj}[h:bt D oF]:bt D p6:=h.ke
def TN:List Nat:=[19,6,7]++To
theorem ali:fq oF TN:=fq.or akL (kf TM)
theorem TO(h:∀xs,e1 TM f xs=F xs)(hk:To.contains f=false:=by rfl):∀xs,oF f xs=F xs:=λxs=>by rw[<-h];exact kg akL hk
theorem aKd[bt D oF]   (h:aA ν aD 7 [] (enc (true))):b1 ν aD D 7 [] K tg=K (enc (true)):=aCq (D':=oF) ((show ∀xs,oF 7 xs=some (enc (true)) from TO λ_=>rfl) []) h
theorem aKe[bt D oF]{l:List I}[aT x1 l][aT x2 m](h:0<=m/\m<=1000) :b1 ν aD D 19 [x1,x2] K tg=K (enc (qI m l)):=ik (D':=oF) (F:=λ(l:List I)(m:Int)=>enc (qI m l)) (TO λ_=>rfl) (aJU l h)
attribute [go_sem ↓ 2000] aKe
theorem aKf[bt D p6][aT x1 l][aT x2 m](h:0<=m/\m<=1000)(b:nh l m=true->(kb l []).isSome=true) :b1 ν aD D 18 [x1,x2] K tg=K (enc (nh l m&&(kb l []).getD false)):=ik (D':=p6) (F:=λ(l:List aU)(m:Int)=>enc (nh l m&&(kb l []).getD false)) (Tp λ_=>rfl) (aJX l m h b)
attribute [go_sem ↓ 2000] aKf
theorem Wi[bt D jS]{a:List I}[aT x1 l][aT x2 a](h:∀r∈l,∀a∈dx r,cc a<=1000000)(b:(iz l a).isSome=true) :b1 ν aD D 8 [x1,x2] K tg=K (j8 (iz l a)):=ik (D':=jS) (F:=λ(l:List aU)(a:List I)=>j8 (iz l a)) (GM λ_=>rfl) (Lg l a h b)
attribute [go_sem ↓ 2000] Wi
theorem Hc(h:nh l m=true):(l.length:Int)<=m/\∀r∈l,jt r.head<=20/\r.body.length<=8/\∀x∈r.body,jt x.atom<=20:=by
 simp only[nh,avY,decide_eq_true_eq,aPw,p5]at h;exact⟨h.1,λr b=>⟨TF am (h.2 r b).1.1,(h.2 r b).1.2,λx ah=>TF am ((h.2 r b).2 x ah)⟩⟩
theorem aKg(h:nh l m=true):∀r∈l,∀a∈dx r,cc a<=1000000:=λr b a aG=>by
 obtain⟨c,_,d⟩:=(Hc h).2 r b;simp only[dx,List.mem_cons,List.mem_map]at aG;rcases aG with rfl|⟨x,ah,rfl⟩
 ·have:=Lu 20 _ c;omega
 ·have:=Lu 20 _ (d x ah);omega
theorem alj(h:qI 60 g=true):g.length<=60/\∀a∈g,jt a<=60:=by
 simp only[qI,avY,decide_eq_true_eq,aPw]at h;exact⟨am,λa aG=>TF am (h.2 a aG)⟩
theorem aKh(h:rV l g=true):nh l 40=true/\qI 60 g=true/\kb l g=some true:=by
 simp only[rV,avY]at h;refine⟨h.1.1.1,h.1.2,?_⟩;cases c:kb l g with
 |none=>rw[c]at h;cases h.2|some b=>rw[c]at h;rw[show b=true from h.2]
theorem aKi(l:List aU)(g:List I)(p:∀r∈l,DJ r)(u:∀a∈g,fH 1048576 a):aA ν aD 6 [enc l,enc g] (enc (rV l g)):=by
 have ax:nh l 40=true->(kb l []).isSome=true:=λh=>alg (λr i=>⟨(p r i).1,((Hc h).2 r i).1⟩) (λa aG=>by cases aG);cases c:(nh l 40&&(kb l []).getD false)with
 |false =>
  have e:rV l g=false:=by rw[rV,c];rfl
  rw[e];refine aA.intro (D:=oF) PI cX c7 ?_;unfold JG;simp(disch:=first|exact ai|fail) only[go_sem]
  (repeat' first|refine bU @c ?_|(refine ao ?_ ?_<;>intro))
  all_goals rfl
 |true =>
  cases d:qI 60 g with
  |false =>
   have e:rV l g=false:=by rw[rV,c,d];rfl
   rw[e];refine aA.intro (D:=oF) PI cX c7 ?_;unfold JG;simp(disch:=first|exact ai|fail) only[go_sem]
   (repeat' first|refine gS @c @d ?_|(refine ao ?_ ?_<;>intro))
   all_goals rfl
  |true =>
   have j:nh l 40=true:=by rw[avY]at c;exact c.1
   have n:(kb l g).isSome=true:=alg (λr i=>⟨(p r i).1,((Hc j).2 r i).1⟩) (λa aG=>⟨u a aG,(alj d).2 a aG⟩);obtain⟨b,ae⟩:=Option.isSome_iff_exists.1 n;have e:rV l g=b:=by rw[rV,c,d,ae];rfl
   have o:l.all p5=true:=by rw[nh,avY]at j;exact j.2
   have v:∀{K:AV->Prop}{tg:aN K},b1 ν aD oF 20 [.list none 3 (l.map aU.enc),.list none 2 (g.map I.enc)] K tg=K (enc b):=λ{K tg}=>by
    have w:=(Hc j).1;have x:=(alj d).1;have hd:=akD l g b am (akN o) am ae;have q:(kb l g).getD false=b:=by rw[ae];rfl
    exact(akM (D:=oF) (K:=K) (tg:=tg) (x1:=enc l) (x2:=enc g) (l:=l) (g:=g) (by rw[q];exact hd)).trans (by rw[q])
   rw[e];refine aA.intro (D:=oF) PI cX c7 ?_;unfold JG;simp(disch:=first|exact ai|fail) only[go_sem]
   (repeat' first|simp(disch:=first|exact ai|fail) only[go_sem,c,d,v]|(refine ao ?_ ?_<;>intro))
   all_goals rfl
theorem aKl[bt D oF][aT x1 l][aT x2 g](b:∀r∈l,DJ r)(c:∀a∈g,fH 1048576 a) :b1 ν aD D 6 [x1,x2] K tg=K (enc (rV l g)):=ik (D':=oF) (F:=λ(l:List aU)(g:List I)=>enc (rV l g)) (TO λ_=>rfl) (aKi l g b c)
attribute [go_sem ↓ 2000] aKl
open Enc (enc)
noncomputable def TP:List iZ:=[(34,eh λ(l:List I)=>enc (fx l))]
noncomputable def y9:bj:=ij oF (e1 TP)
instance aPj{D:bj}[h:bt D y9]:bt D oF:=h.ke
def TQ:List Nat:=[34]++TN
theorem alk:fq y9 TQ:=fq.or ali (kf TP)
theorem aKm(h:∀xs,e1 TP f xs=F xs)(hk:TN.contains f=false:=by rfl):∀xs,y9 f xs=F xs:=λxs=>by rw[<-h];exact kg ali hk
def Bb(L:List I):AV:=match L with
 |[]=>.aS 2|x::r=>enc (x::r)
variable {L:List I}
theorem DM(h:L≠[]):Bb L=.list none 2 (L.map I.enc):=by
 cases L with
 |nil=>exact absurd rfl h|cons x r=>rfl
theorem alm(cE:jo L)(hk:k<=gh L t)(h:k<L.length->¬b6 L[k]! t<0):k=gh L t:=by
 obtain⟨c,b,d⟩:=Ke cE t;by_cases e:k=gh L t
 ·exact e
 ·exact absurd (b k am) (h am)
theorem aKn(ar:k=gh L t)(hk:k<L.length)(b:b6 L[k]! t=0):j4 L t=L:=by
 have ah:L[gh L t]?=some L[k]!:=by rw[<-ar,aPX hk,getElem!_pos L k hk]
 simp only[j4,ah,b,if_true]
theorem TR(ar:k=gh L t)(h:k<L.length->b6 L[k]! t≠0):j4 L t=L.take k++t::L.drop k:=by
 rcases aqt k L.length with hk|hk
 ·have ah:L[gh L t]?=some L[k]!:=by rw[<-ar,aPX hk,getElem!_pos L k hk]
  unfold j4;rw[ah];simp only[if_neg (h hk),<-ar]
 ·have ah:L[gh L t]?=none:=List.getElem?_eq_none am;unfold j4;rw[ah];simp only[<-ar]
theorem aKo(l:List I):aA ν aD 34 [enc l] (enc (fx l)):=by
 refine aA.h4 λae=>?_;obtain⟨ae,_⟩:=ae;have O:M=1099511627776:=rfl;refine aA.gK (D:=y9) ayj cX c7 i8 ?_;unfold Zg;refine ag ?_;refine bQ (λi:Nat=>⟨N [(0,.v (enc l)),(3,.v (Bb (fx (l.take i)))),(8,.v (enc l.length)),(9,.v (enc i))],[]⟩) (λi=>i<=l.length) (λi=>l.length-i) 0 (aqw _) (Ir @aqT.{0} (show Bb (fx [])=.aS 2 from rfl)) ?_;intro i al;rcases aqt i l.length with h|h
 ·obtain⟨L,cf⟩:∃L,L=fx (l.take i):=⟨_,rfl⟩;have P:L.length<=i:=by have:=Kf (l.take i);rw[aPR]at this;rw[cf];omega
  have ax:fx (l.take i++[l[i]!])=j4 L l[i]!:=by rw[fx,afZ,<-fx,cf]
  have cE:jo L:=cf▸wZ _;obtain⟨z,Q,B⟩:=Ke cE l[i]!;rw[<-cf];refine ag ?_;refine bQ (λk:Nat=>⟨N [(0,.v (enc l)),(3,.v (Bb L)),(4,.v (enc i)),(5,.v (enc k)),(8,.v (enc l.length)),(9,.v (enc i))],[]⟩) (λk=>k<=gh L l[i]!) (λk=>gh L l[i]!-k) 0 (aqw _) ew ?_;intro k hk;have C:i<M:=by omega
  cases b:L.isEmpty with
  |true =>
   have c:L=[]:=by simpa using b
   subst c;have E:=TR (L:=[]) (t:=l[i]!) (k:=0) (by simp[gh,lH]) (λh=>f8);have G:k=0:=by simp only[aqH]at z;omega
   subst G;rw[show Bb []=.aS 2 from rfl];refine ag ?_;exact⟨i+1,am,am,by(first|rfl|(simp(disch:=first|exact aX|fail) only[b7,avP,avQ,Env.ins,cp,cq,cr,ct,cu,cv,cw,cx,I.b0,aqx,avR,avS,avT,aqT,bL,aqU,aqE,avX,cy,cz,go_sem,ax,E,Bb,List.take_nil,List.drop_nil,List.nil_append];try rfl))⟩
  |false =>
   have c:L≠[]:=by simpa using b
   rw[DM c];have d:List.drop k (List.take L.length (L.map I.enc))=(L.drop k).map I.enc:=by rw[List.take_of_length_le be,List.map_drop]
   have e:(List.take k (L.map I.enc)).length+1<=M:=by simp only[aPR,aqx];omega
   have j:(List.take k (L.map I.enc)++[l[i]!.enc]).length+(L.drop k).length<=M:=by simp only[aqv,aPR,aqx,aqV,aqH,List.length_drop];omega
   have n:List.take k (L.map I.enc)++[l[i]!.enc]++(L.drop k).map I.enc=List.map I.enc (L.take k++l[i]!::L.drop k):=by simp
   rcases aqt k L.length with v|v
   ·rcases aPQ (b6 L[k]! l[i]!) 0 with w|w
    ·have o:k<gh L l[i]!:=by
      rcases aqt k (gh L l[i]!)with q|q
      ·exact q
      ·exact absurd w (B k q v)
     refine bU @w ?_;exact⟨k+1,am,am,by(exact qn (DM c))⟩
    ·have o:=alm cE hk (λ_=>am);have y:decide (b6 L[k]! l[i]! < 0)=false:=decide_eq_false am;by_cases u:b6 L[k]! l[i]! = 0
     ·have p:=aKn o v u;refine gS @y @u ?_;exact⟨i+1,am,am,by(exact B4 @ax @p (DM c))⟩
     ·have p:=TR o (λ_=>u);have cG:L.take k++l[i]!::L.drop k≠[]:=by simp
      refine rp @y @u @d @e @j ?_;exact⟨i+1,am,am,by(exact zN @ax @p (DM cG) @n)⟩
   ·have o:=alm cE hk (λ_=>am);have J:k=L.length:=by omega
    have p:=TR o (λ_=>am);have cG:L.take k++l[i]!::L.drop k≠[]:=by simp
    refine iv @d @e @j ?_;exact⟨i+1,am,am,by(exact zN @ax @p (DM cG) @n)⟩
 ·obtain rfl:i=l.length:=by omega
  rw[List.take_length];cases ds:fx l with
  |nil =>
   rw[show Bb []=.aS 2 from rfl];refine ag ?_;exact⟨_,rfl,bx.aS 2⟩
  |cons x r =>
   rw[DM be];refine ag ?_;exact⟨_,rfl,bx.refl _⟩
open Enc (enc)
def za:Option I->AV
 |some u=>.bg [enc u,.bool true]|none=>.bg [.agg [.str [],.list none 2 []],.bool false]
noncomputable def TT:List iZ:=[(167,eh λ(s:ak)=>enc ((fw s).isSome)),
 (139,eh λ(t:I)=>enc (decide (t.args.length=0)&&(dM t.name||(fw t.name).isSome))),
 (140,eh λ(t:I)=>enc (eJ t)),
 (89,qF λ(t:I)(n:Int)(g:Bool)=>enc (cD n.toNat t (!g))),
 (45,eh λ(t:I)=>enc (cD 4 t false)),
 (96,eh λ(t:I)=>enc (cD 4 t true)),
 (128,eh λ(t:I)=>enc (eJ t)),
 (129,hj λ(s:List aY)(v:ak)=>za (jr s v)),
 (76,hj λ(s:List aY)(t:I)=>enc (eD (dn s) t)),
 (127,qF λ(p:I)(t:I)(s:List aY)=>mz (hx p t s)),
 (54,hj λ(l:List I)(t:I)=>enc (nQ l t))]
noncomputable def fR:bj:=ij y9 (e1 TT)
instance aPn{D:bj}[h:bt D fR]:bt D y9:=h.ke
def TU:List Nat:=[167,139,140,89,45,96,128,129,76,127,54]++TQ
theorem aly:fq fR TU:=fq.or alk (kf TT)
theorem rX(h:∀xs,e1 TT f xs=F xs)(hk:TQ.contains f=false:=by rfl):∀xs,fR f xs=F xs:=λxs=>by rw[<-h];exact kg alk hk
variable {x3:AV}{n:Int}
theorem aKv[bt D fR]{g:Bool}[aT x1 t][aT x2 n][aT x3 g](h:aA ν aD 89 [enc t,enc n,enc g] (enc (cD n.toNat t (!g)))):b1 ν aD D 89 [x1,x2,x3] K tg=K (enc (cD n.toNat t (!g))):=u2 (D':=fR) (F:=λ(t:I)(n:Int)(g:Bool)=>enc (cD n.toNat t (!g))) (rX λ_=>rfl) h
theorem aKw[bt D fR][aT x1 s][aT x2 t](h:aA ν aD 76 [enc s,enc t] (enc (eD (dn s) t))):b1 ν aD D 76 [x1,x2] K tg=K (enc (eD (dn s) t)):=ik (D':=fR) (F:=λ(s:List aY)(t:I)=>enc (eD (dn s) t)) (rX λ_=>rfl) h
variable {p:I}
theorem aKx[bt D fR][aT x1 p][aT x2 t][aT x3 s](h:aA ν aD 127 [enc p,enc t,enc s] (mz (hx p t s))):b1 ν aD D 127 [x1,x2,x3] K tg=K (mz (hx p t s)):=u2 (D':=fR) (F:=λ(p:I)(t:I)(s:List aY)=>mz (hx p t s)) (rX λ_=>rfl) h
theorem DO(n:Nat):((n:Int)==0)=decide (n=0):=by rw[aLO];simp
theorem aKy[bt D fR]{s:ak}[aT x1 s]  :b1 ν aD D 167 [x1] K tg=K (enc ((fw s).isSome)):=ec (D':=fR) (F:=λ(s:ak)=>enc ((fw s).isSome)) (rX λ_=>rfl) (afV s)
attribute [go_sem ↓ 2000] aKy
theorem aKz(t:I):aA ν aD 139 [enc t] (enc (decide (t.args.length=0)&&(dM t.name||(fw t.name).isSome))):=by
 have b:=DO t.args.length;refine aA.intro (D:=fR) azs cX c7 ?_;unfold acR;simp(disch:=first|exact ai|fail) only[go_sem];cases c:decide (t.args.length=0)<;>cases d:dM t.name<;>cases e:(fw t.name).isSome;all_goals (repeat' first|simp(disch:=first|exact ai|fail) only[go_sem,b,c,d,e]|(refine ao ?_ ?_<;>intro))
 all_goals rfl
theorem aKA[bt D fR][aT x1 t]  :b1 ν aD D 139 [x1] K tg=K (enc (decide (t.args.length=0)&&(dM t.name||(fw t.name).isSome))):=ec (D':=fR) (F:=λ(t:I)=>enc (decide (t.args.length=0)&&(dM t.name||(fw t.name).isSome))) (rX λ_=>rfl) (aKz t)
attribute [go_sem ↓ 2000] aKA
theorem zb(t:I):eJ t=(decide (t.args.length=0)&&eg t.name):=by
 unfold eJ;cases h:t.args with
 |nil=>simp|cons x r=>simp
theorem aKB(t:I):aA ν aD 140 [enc t] (enc (eJ t)):=by
 have b:=DO t.args.length;rw[zb];refine aA.intro (D:=fR) azt cX c7 ?_;unfold acT;simp(disch:=first|exact ai|fail) only[go_sem];cases c:decide (t.args.length=0)<;>cases d:eg t.name;all_goals (repeat' first|simp(disch:=first|exact ai|fail) only[go_sem,b,c,d]|(refine ao ?_ ?_<;>intro))
 all_goals rfl
theorem aKC[bt D fR][aT x1 t]  :b1 ν aD D 140 [x1] K tg=K (enc (eJ t)):=ec (D':=fR) (F:=λ(t:I)=>enc (eJ t)) (rX λ_=>rfl) (aKB t)
attribute [go_sem ↓ 2000] aKC
theorem aKD(t:I):aA ν aD 128 [enc t] (enc (eJ t)):=by
 have b:=DO t.args.length;rw[zb];refine aA.intro (D:=fR) azi cX c7 ?_;unfold acs;simp(disch:=first|exact ai|fail) only[go_sem];cases c:decide (t.args.length=0)<;>cases d:eg t.name;all_goals (repeat' first|simp(disch:=first|exact ai|fail) only[go_sem,b,c,d]|(refine ao ?_ ?_<;>intro))
 all_goals rfl
theorem aKE[bt D fR][aT x1 t]  :b1 ν aD D 128 [x1] K tg=K (enc (eJ t)):=ec (D':=fR) (F:=λ(t:I)=>enc (eJ t)) (rX λ_=>rfl) (aKD t)
attribute [go_sem ↓ 2000] aKE
theorem aKF:∀(t:I)(n:Int)(g:Bool),0<=n/\n<=100->aA ν aD 89 [enc t,enc n,enc g] (enc (cD n.toNat t (!g))):=I.ind λt ih n g B=>by
 refine aA.h4 λae=>?_;obtain⟨_,ae,_⟩:=(I.j5 t).1 ae;have C:M=1099511627776:=rfl;obtain⟨m,rfl⟩:∃m:Nat,n=m:=⟨n.toNat,am⟩;rw[Int.toNat_natCast];have v:=DO t.args.length;cases m with
 |zero =>
  refine aA.intro (D:=fR) FL cX c7 ?_;unfold CF;simp(disch:=first|exact ai|fail) only[go_sem]
  (repeat' first|refine ag ?_|(refine ao ?_ ?_<;>intro))
  all_goals rfl
 |succ m =>
  rw[xb];have hm:decide (((m+1:Nat):Int)<1)=false:=decide_eq_false am;by_cases c:t.args.length=0
  ·have x:eJ t=eg t.name:=by rw[zb,c];rfl
   have e:decide (t.args.length<=4)=true:=decide_eq_true am;have al:((t.args.length:Int)==0)=true:=by rw[v];simp[c]
   have o:decide (t.args.length=0)=true:=decide_eq_true c;rw[if_pos c,e];refine aA.intro (D:=fR) FL cX c7 ?_;unfold CF;simp(disch:=first|exact ai|fail) only[go_sem];cases d:dM t.name<;>cases y:(fw t.name).isSome<;>cases z:eg t.name<;>cases g;all_goals (repeat' first|simp(disch:=first|exact ai|fail) only[go_sem,hm,al,o,x,d,y,z]|(refine ao ?_ ?_<;>intro))
   all_goals rfl
  ·have al:((t.args.length:Int)==0)=false:=by rw[v];simp[c]
   rw[if_neg c];cases d:dM t.name with
   |false =>
    rw[Bool.and_false,Bool.and_false];refine aA.intro (D:=fR) FL cX c7 ?_;unfold CF;simp(disch:=first|exact ai|fail) only[go_sem]
    (repeat' first|refine iv @hm @al @d ?_|(refine ao ?_ ?_<;>intro))
    all_goals rfl
   |true =>
    rw[Bool.and_true];by_cases e:t.args.length<=4
    ·rw[decide_eq_true e,avO];have q:decide ((t.args.length:Int)>4)=false:=decide_eq_false am;have w:(m:Int)+1-1=(m:Int):=by omega
     refine aA.intro (D:=fR) FL cX c7 ?_;unfold CF;simp(disch:=first|exact ai|fail) only[go_sem];refine mb @hm @al @d @q ?_;refine bQ (λi:Nat=>⟨N [(1,.v (enc ((m+1:Nat):Int))),(2,.v (.bool g)),(3,.v (.cL t.enc.cells)),(36,.v (enc t.args.length)),(37,.v (enc i))],[]⟩)
      (λi=>i<=t.args.length/\(t.args.drop i).all (λu=>cD m u (!g))=t.args.all (λu=>cD m u (!g))) (λi=>t.args.length-i) 0 ⟨aqw _,rfl⟩ ew ?_
     rintro i ⟨E,b⟩;rcases aqt i t.args.length with h|h
     ·have hd:=ih t.args[i]! (ek h) (m:Int) g am;have r:=λ{K:AV->Prop}{tg:aN K}(G:i<t.args.length)=>aKv (D:=fR) (K:=K) (tg:=tg) (x1:=t.args[i]!.enc) (x2:=.int .i64 (m:Int)) (x3:=.bool g) (hd);rw[fi h,ax6]at b;simp only[Int.toNat_natCast]at r;cases j:cD m t.args[i]! (!g)with
      |true =>
       rw[j,avO]at b;refine iv @r @w @j ?_;exact⟨i+1,⟨am,b⟩,am,co⟩
      |false =>
       rw[j,aqI]at b;rw[<-b]
       (repeat' first|simp(disch:=first|exact ai|fail) only[go_sem,r,w,j]|(refine ao ?_ ?_<;>intro))
       all_goals rfl
     ·rw[aqB h]at b;rw[<-b]
      (repeat' first|simp(disch:=first|exact ai|fail) only[go_sem]|(refine ao ?_ ?_<;>intro))
      all_goals rfl
    ·rw[decide_eq_false e,aqI];have q:decide ((t.args.length:Int)>4)=true:=decide_eq_true am;refine aA.intro (D:=fR) FL cX c7 ?_;unfold CF;simp(disch:=first|exact ai|fail) only[go_sem]
     (repeat' first|refine mb @hm @al @d @q ?_|(refine ao ?_ ?_<;>intro))
     all_goals rfl
theorem aKH[bt D fR]{g:Bool}[aT x1 t][aT x2 n][aT x3 g](h:0<=n/\n<=100) :b1 ν aD D 89 [x1,x2,x3] K tg=K (enc (cD n.toNat t (!g))):=u2 (D':=fR) (F:=λ(t:I)(n:Int)(g:Bool)=>enc (cD n.toNat t (!g))) (rX λ_=>rfl) (aKF t n g h)
attribute [go_sem ↓ 2000] aKH
theorem aKI(t:I):aA ν aD 45 [enc t] (enc (cD 4 t false)):=by
 refine aA.intro (D:=fR) ays cX c7 ?_;unfold ZE;simp(disch:=first|exact ai|fail) only[go_sem]
 (repeat' first|refine bU (show(4:Int).toNat=4 from rfl) ?_|(refine ao ?_ ?_<;>intro))
 all_goals rfl
theorem aKJ[bt D fR][aT x1 t]  :b1 ν aD D 45 [x1] K tg=K (enc (cD 4 t false)):=ec (D':=fR) (F:=λ(t:I)=>enc (cD 4 t false)) (rX λ_=>rfl) (aKI t)
attribute [go_sem ↓ 2000] aKJ
theorem aKK(s:List aY)(v:ak):aA ν aD 129 [enc s,enc v] (za (jr s v)):=by
 refine aA.h4 λae=>?_;obtain⟨ae,_⟩:=ae;have e:M=1099511627776:=rfl;obtain⟨R,de⟩:∃R,R=jr s v:=⟨_,rfl⟩;rw[<-de];refine aA.gK (D:=fR) azj (by simp only[ax6,aL0,Enc.arg,aPP]) (by rcases R with _|⟨n,l⟩<;>rfl) (λ_ _ _ h=>by cases R<;>cases h) ?_;unfold acw;refine ag ?_;refine bQ (λi:Nat=>⟨N [(0,.v (enc s)),(1,.v (.str v)),(4,.b [.str [],.aS 2]),(6,.v (enc i))],[]⟩)
  (λi=>i<=s.length/\jr (s.drop i) v=R) (λi=>s.length-i) 0 ⟨aqw _,de.symm⟩ ew ?_
 rintro i ⟨j,b⟩;rcases aqt i s.length with h|h
 ·rw[S3 h]at b;cases c:s[i]!.var==v with
  |true =>
   rw[c,if_pos rfl]at b;rw[<-b];refine bU @c ?_;exact⟨_,rfl,bx.refl _⟩
  |false =>
   rw[c,if_neg be]at b;refine bU @c ?_;exact⟨i+1,⟨am,b⟩,am,co⟩
 ·rw[aqB h]at b;have d:R=none:=b.symm;rw[d];refine ag ?_;exact⟨_,rfl,bx.bg (.cons (bx.agg (.cons (bx.refl _) (.cons (bx.aS _) .nil))) (.cons (bx.refl _) .nil))⟩
theorem aKL[bt D fR]{v:ak}[aT x1 s][aT x2 v]  :b1 ν aD D 129 [x1,x2] K tg=K (za (jr s v)):=ik (D':=fR) (F:=λ(s:List aY)(v:ak)=>za (jr s v)) (rX λ_=>rfl) (aKK s v)
attribute [go_sem ↓ 2000] aKL
theorem aKM(l:List I)(t:I):aA ν aD 54 [enc l,enc t] (enc (nQ l t)):=by
 refine aA.h4 λae=>?_;obtain⟨u,_⟩:=ae;have v:M=1099511627776:=rfl;refine aA.intro (D:=fR) ayw cX c7 ?_;unfold ZQ;simp(disch:=first|exact ai|fail) only[go_sem];refine bQ (λp:Nat×Nat=>⟨N [(0,.v (enc l)),(3,.v (.cL t.enc.cells)),(5,.v (enc p.1)),(6,.v (enc p.2))],[]⟩)
  (λp=>p.1<=p.2/\p.2<=l.length/\lH l t l.length p.1 p.2=gh l t) (λp=>p.2-p.1) (0,l.length) ⟨aqw _,aLY _,rfl⟩ ew ?_
 rintro⟨bc,al⟩ ⟨j,o,c⟩;simp only at j o c;rcases aqt bc al with h|h
 ·obtain⟨m,hm⟩:∃m,m=(bc+al) / 2:=⟨_,rfl⟩;have d:m<l.length:=by omega
  have ah:l[(bc+al) / 2]?=some l[m]!:=by rw[<-hm,aPX d,getElem!_pos l m d]
  have ax:=JZ l t (f:=l.length) am h ah;rw[<-hm]at ax;have e:IntKind.i64.wrap (((bc:Int)+al).tdiv 2)=(m:Int):=by rw[Int.tdiv_eq_ediv_of_nonneg am,wrap64]<;>omega
  rcases aPQ (b6 l[m]! t) 0 with b|b
  ·rw[if_pos b]at ax;refine gS @e @b ?_;exact⟨(m+1,al),⟨ap,ap,ax.symm.trans c⟩,ap,co⟩
  ·rw[if_neg am]at ax;have q:decide (b6 l[m]! t<0)=false:=decide_eq_false am;refine gS @e @q ?_;exact⟨(bc,m),⟨ap,ap,ax.symm.trans c⟩,ap,co⟩
 ·have ar:gh l t=bc:=by rw[<-c,yB l t am]
  have r:nQ l t=(decide (bc<l.length)&&(b6 l[bc]! t==0)):=by rw[nQ,ar]
  rw[r];rcases aqt bc l.length with i|i
  ·rw[decide_eq_true i,avO];cases b:b6 l[bc]! t==0;all_goals (repeat' first|simp(disch:=first|exact ai|fail) only[go_sem,b]|(refine ao ?_ ?_<;>intro))
   all_goals rfl
  ·rw[decide_eq_false am,aqI]
   (repeat' first|simp(disch:=first|exact ai|fail) only[go_sem]|(refine ao ?_ ?_<;>intro))
   all_goals rfl
theorem aKN[bt D fR]{l:List I}[aT x1 l][aT x2 t]  :b1 ν aD D 54 [x1,x2] K tg=K (enc (nQ l t)):=ik (D':=fR) (F:=λ(l:List I)(t:I)=>enc (nQ l t)) (rX λ_=>rfl) (aKM l t)
attribute [go_sem ↓ 2000] aKN
theorem aKO(h:eJ p=true):hx p t s=(match jr s p.name with|some u=>(s,hi u t)|none=>(s++[⟨p.name,t⟩],true)):=by
 obtain⟨n,l⟩:=p;rw[hx,if_pos h];rfl
theorem aKP(h:eJ p=false):hx p t s=if p.name != t.name||decide (p.args.length≠t.args.length)then([],false)else nk p.args t.args s:=by
 obtain⟨n,l⟩:=p;rw[hx,if_neg (by rw[h];simp)];rfl
theorem aKQ{l m:List I}{i:Nat}(b:i<l.length)(c:i<m.length):nk (l.drop i) (m.drop i) s=if(hx l[i]! m[i]! s).2 then nk (l.drop (i+1)) (m.drop (i+1)) (hx l[i]! m[i]! s).1 else((hx l[i]! m[i]! s).1,false):=by
 rw[fi b,fi c,nk]
mutual
theorem TW:∀(p t:I)(s:List aY),(hx p t s).1.length<=s.length+(ck p).length
 |.mk n l,t,s=>by
  have e:(bF l).length<=(ck (.mk n l)).length:=by cases l<;>simp[ck,bF]
  have c:l=[]->(ck (.mk n l)).length=1:=by rintro rfl;simp[ck]
  cases b:eJ (.mk n l)with
  |true =>
   have d:l=[]:=by simp[eJ,I.args]at b;simpa using b.1
   have:=c d;rw[hx,if_pos b];cases jr s n<;>simp<;>omega
  |false =>
   have h:=alz l t.args s;rw[hx,if_neg (by rw[b];simp)];split
   ·simp
   ·omega
theorem alz:∀(l m:List I)(s:List aY),(nk l m s).1.length<=s.length+(bF l).length
 |[],m,s=>by simp[nk]|p::ps,[],s=>by simp[nk]|p::ps,t::bE,s=>by
  have b:=TW p t s;have c:=alz ps bE (hx p t s).1;rw[nk,bF,aqv];split
  ·omega
  ·simp only;omega
end
theorem aKR:∀(p t:I)(s:List aY),s.length+(ck p).length<=1000000->aA ν aD 127 [enc p,enc t,enc s] (mz (hx p t s)):=I.ind λp ih t s ax=>by
 refine aA.sy λP Q=>?_;have vS:=((I.j5 p).1 P).2.1;have S5:=((I.j5 t).1 Q).2.1;have cP:M=1099511627776:=rfl;have w:=DO p.args.length;cases e:eJ p with
 |true =>
  have z:=e;rw[zb,avY]at z;rw[aKO e];refine aA.gK (D:=fR) PM (by simp only[ax6,aL0,Enc.arg,aPP]) rfl (λ_ _ _ h=>d7) ?_;unfold JO;cases de:jr s p.name with
  |some u =>
   (repeat' first|simp(disch:=first|exact ai|fail) only[go_sem,w,z.1,z.2,de,za]|(refine ao ?_ ?_<;>intro))
   exact⟨_,rfl,bx.refl _⟩
  |none =>
   (repeat' first|simp(disch:=first|exact ai|fail) only[go_sem,w,z.1,z.2,de,za]|(refine ao ?_ ?_<;>intro))
   exact⟨_,rfl,by simp only[mz];rw[show(enc (s++[aY.mk p.name t]):AV)=.list none 3 ((s++[aY.mk p.name t]).map aY.enc) from rfl,aqU];exact bx.refl _⟩
 |false =>
  rw[aKP e];have T:=nJ p;have G:((p.args.length:Int) != (t.args.length:Int))=decide (p.args.length≠t.args.length):=by rw[aLO];simp;omega
  have J:(decide (p.args.length=0)=false/\True)\/(decide (p.args.length=0)=true/\eg p.name=false):=by
   rw[zb]at e;cases q:decide (p.args.length=0)with
   |false=>exact .inl ⟨rfl,trivial⟩|true=>rw[q,avO]at e;exact .inr ⟨rfl,e⟩
  cases B:(p.name != t.name||decide (p.args.length≠t.args.length))with
  |true =>
   simp only[if_true];refine aA.gK (D:=fR) PM (by simp only[ax6,aL0,Enc.arg,aPP]) rfl (λ_ _ _ h=>d7) ?_;unfold JO;rcases J with⟨j,o⟩|⟨j,o⟩
   all_goals
    cases c:p.name==t.name with
    |false =>
     refine mb @w @j @o @c ?_;exact⟨_,rfl,bx.bg (.cons (bx.aS _) (.cons (bx.refl _) .nil))⟩
    |true =>
     have C:decide (p.args.length≠t.args.length)=true:=by
      have:(p.name != t.name)=false:=by rw[bne,c];rfl
      rw[this,aL1]at B;exact B
     refine oX @w @j @o @c @G @C ?_;exact⟨_,rfl,bx.bg (.cons (bx.aS _) (.cons (bx.refl _) .nil))⟩
  |false =>
   simp only[aPW]at B;obtain⟨c,C⟩:=B;have c:(p.name==t.name)=true:=by rw[bne]at c;simpa using c
   have V:p.args.length=t.args.length:=by simpa using C
   simp only[aKc,if_false];obtain⟨R,de⟩:∃R,R=nk p.args t.args s:=⟨_,rfl⟩;rw[<-de];have W:s.length+(bF p.args).length<=1000000:=by
    rw[T]at ax;split at ax
    ·rename_i Y;rw[List.length_eq_zero_iff.1 Y];simp only[bF,aqH];omega
    ·exact ax
   refine aA.gK (D:=fR) PM (by simp only[ax6,aL0,Enc.arg,aPP]) rfl (λ_ _ _ h=>d7) ?_;unfold JO;rcases J with⟨j,o⟩|⟨j,o⟩
   all_goals
    refine oX @w @j @o @c @G @C ?_;refine bQ (λq:Nat×List aY×Bool=>⟨N [(2,.v (enc q.2.1)),(3,.v (.cL p.enc.cells)),(4,.v (.cL t.enc.cells)),(10,.v (.bool q.2.2)),(11,.v (enc q.1))],[]⟩)
     (λq=>q.1<=p.args.length/\(q.2.2=true->nk (p.args.drop q.1) (t.args.drop q.1) q.2.1=R/\q.2.1.length<=s.length+(bF (p.args.take q.1)).length)/\(q.2.2=false->R=(q.2.1,false))) (λq=>p.args.length-q.1) (0,s,true) ⟨aqw _,λ_=>⟨de.symm,by simp[bF]⟩,λh=>d7⟩ ew ?_
    rintro⟨i,v,ok⟩ ⟨Z,b,E⟩;simp only at Z b E;cases ok with
    |false =>
     have E:=E rfl;rw[E];rcases aqt i p.args.length with h|h
     all_goals refine ag ?_
     all_goals exact⟨_,rfl,bx.refl _⟩
    |true =>
     obtain⟨b,i4⟩:=b rfl;rcases aqt i p.args.length with h|h
     ·have aF:=S4 h;have hd:=ih p.args[i]! (ek h) t.args[i]! v am;rw[aKQ h am]at b;have qk:=TW p.args[i]! t.args[i]! v;obtain⟨X,bA⟩:∃X,X=hx p.args[i]! t.args[i]! v:=⟨_,rfl⟩;have d:=λ{K:AV->Prop}{tg:aN K}=>aKx (D:=fR) (K:=K) (tg:=tg) (x1:=p.args[i]!.enc) (x2:=t.args[i]!.enc) (x3:=enc v) hd;rw[<-bA]at b qk d;have G4:(enc v:AV)=.list none 3 (v.map aY.enc):=rfl;rw[G4]at d;simp only[mz]at d;have sH:(bF (p.args.take (i+1))).length=(bF (p.args.take i)).length+(ck p.args[i]!).length:=by
       have key:∀(l:List I)(x:I),(bF (l++[x])).length=(bF l).length+(ck x).length:=λl x=>by
        induction l with
        |nil=>simp[bF]|cons y r ih=>simp only[List.cons_append,bF,aqv,ih];omega
       rw[bL h,key]
      cases O:X.2 with
      |true =>
       rw[O]at b d;rw[if_pos rfl]at b;refine bU @d ?_;exact⟨(i+1,X.1,true),⟨ap,λ_=>⟨b,ap⟩,λh=>d7⟩,ap,co⟩
      |false =>
       rw[O]at b d;rw[if_neg be]at b;refine bU @d ?_;exact⟨(i+1,X.1,false),⟨ap,λh=>d7,λ_=>b.symm⟩,ap,co⟩
     ·rw[aqB h,nk]at b;rw[<-b];refine ag ?_;all_goals exact⟨_,rfl,bx.refl _⟩
end AM
