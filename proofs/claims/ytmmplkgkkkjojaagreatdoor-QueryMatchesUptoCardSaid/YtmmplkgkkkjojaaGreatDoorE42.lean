/- What functions of the given program do, as calls of the machine. Conditions: names and lists are bounded where that is said. -/
import Derived.Test.YtmmplkgkkkjojaaGreatDoorE29
import Derived.Test.YtmmplkgkkkjojaaGreatDoorAm8
import Derived.Test.YtmmplkgkkkjojaaGreatDoorW1
import Derived.Test.YtmmplkgkkkjojaaGreatDoorAm9
import Derived.Test.YtmmplkgkkkjojaaGreatDoorT1
set_option linter.unusedSimpArgs false
set_option maxRecDepth 100000
set_option maxHeartbeats 4000000
set_option linter.unusedVariables false
namespace AM
open List renaming length_map -> aKQ,take_zero -> aKR,map_cons -> aKT,map_append -> aKV,map_nil -> aKW,foldr_cons -> aKX,foldr_nil -> aKY,length_append -> aK2,drop_eq_nil_of_le -> aK3,length_take -> aK4,length_cons -> aK5,length_nil -> aK6,take_length -> aK9,length_set -> aLa,all_eq_true -> aLe,append_nil -> aLf,all_cons -> aLh,mem_cons_of_mem -> aLj,filterMap_nil -> aLk,length_filterMap_le -> aLl
open Nat renaming lt_or_ge -> aKS,zero_le -> aKU,le_refl -> aLd
open Int renaming natCast_add -> aKZ,natCast_one -> aK0,natCast_zero -> aK1
open Bool renaming false_and -> aK7,true_and -> aK8,false_eq_true -> aLb,eq_iff_iff -> aLc,false_or -> aLg,and_eq_true -> aLi
open Go Go.Proofs
open Tryz renaming prog -> ν
open Enc (enc)
def ph(gz:Bool)(out:List (List aY)):List AV:=if gz then[.aS 3]else out.map enc
def p4(gz:Bool):Option Nat:=if gz then some 77 else none
theorem lQ(a:Bool)(sz:Nat)(xs:List AV):AV.a1 (.list (p4 a) sz xs)=.list none sz xs:=by cases a<;>rfl
variable {gz:Bool}{out:List (List aY)}
theorem S7(h:gz=true->out=[[]]):(ph gz out).length=out.length:=by
 cases gz with
 |true=>rw[h rfl];rfl|false=>simp[ph]
variable {k:Nat}
theorem S8(h:gz=true->out=[[]])(hk:k<out.length):(ph gz out)[k]?=some (if gz then .aS 3 else enc out[k]!):=by
 cases gz with
 |true =>
  have:=h rfl;subst this;obtain rfl:k=0:=by simpa using hk
  rfl
 |false=>simp[ph,hk]
variable {a:I}{s:List aY}{A:List I}
theorem aJJ{j:Nat}(h:j<A.length)(b:List (List aY))(left:Int):k2 a s (A.drop j) b left=if A[j]!.name != a.name||decide (A[j]!.args.length≠a.args.length)then k2 a s (A.drop (j+1)) b left
  else if decide (left-1<0)||decide ((if(fk a A[j]! s).2 then b++[(fk a A[j]! s).1]else b).length>5000)then none
  else k2 a s (A.drop (j+1)) (if(fk a A[j]! s).2 then b++[(fk a A[j]! s).1]else b) (left-1):=by
 rw[fi h,k2]
def gY(H:List ay)(w:Nat)(left:Int):List ay:=H.set w (.cells [.int .i64 left])
variable {H:List ay}{left:Int}
theorem S9{w:Nat}(h:w<H.length):(gY H w left)[w]?=some (.cells [.int .i64 left]):=by simp[gY,h]
theorem G5(H:List ay)(w:Nat)(l b:Int):(gY H w l).set w (.cells [.int .i64 b])=gY H w b:=by simp[gY]
def Ta(H:List ay)(w:Nat)(R:Option (List (List aY)×Int))(r:AV)(H':List ay):Prop:=match R with
 |none=>r=.bg [.aS 1,.bool false]/\∃l,H'=gY H w l|some (out,l)=>(∃gz,(gz=true->out=[[]])/\r=.bg [.list none 1 (ph gz out),.bool true])/\H'=gY H w l
def Tb(H:List ay)(w:Nat)(ka:AV)(A:List I):Prop:=(ka=.aS 2/\A=[])\/∃id,ka=.bI id 0 A.length 2/\H[id]?=some (.buf 25 (c3 A))/\id≠w
theorem aJK{w:Nat}{L:AV}(B:List Lit)(A:List I)(hw:H[w]?=some (.cells [.int .i64 left]))(qj:Tb H w L A)(aC:0<=left/\left<=1000000)(fN:B.length<=8)(akx:∀x∈B,(ck x.atom).length<=1000)(cE:A.length<=M) :
  bB ν aD 31 [.ptr w 0,enc B,L] H (Ta H w (js A B [[]] left)):=by
 have cP:M=1099511627776:=rfl;have aJL:=dq hw;have yW:gY H w left=H:=by rw[gY];exact C6 hw
 obtain⟨R,de⟩:∃R,R=js A B [[]] left:=⟨_,rfl⟩;rw[<-de];rcases qj with⟨b,HE⟩|⟨id,b,bW,cG⟩
 ·have Du:A.length=0:=by rw[HE];rfl
  have g:(A.length:Int)=0:=by omega
  refine bB.intro (D:=gy) ayi ?_;unfold Zb;refine iv @b @g @lQ ?_;refine bQ (λq:Nat×Bool×List (List aY)×Int=>⟨N [(0,.v (.ptr w 0)),(1,.v (enc B)),(2,.v L),(8,.v (.list (p4 q.2.1) 1 (ph q.2.1 q.2.2.1))),(18,.v (enc B.length)),(19,.v (enc q.1))],gY H w q.2.2.2⟩)
   (λq=>q.1<=B.length/\(q.2.1=true->q.2.2.1=[[]])/\(0<=q.2.2.2/\q.2.2.2<=1000000)/\q.2.2.1.length<=5000/\qU (1000*q.1) q.2.2.1/\js A (B.drop q.1) q.2.2.1 q.2.2.2=R) (λq=>B.length-q.1) (0,true,[[]],left) ⟨aKU _,λ_=>rfl,aC,be,λs ax=>by simp at ax;rw[ax];simp,de.symm⟩ (by(try simp(disch:=first|exact ai|fail) only[go_sem,b,g])<;>(first|rfl|(simp(disch:=first|exact aX|fail) only[b7,aKX,aKY,Env.ins,cp,cq,cr,ct,cu,cv,cw,cx,I.b0,aKQ,aKZ,aK0,aK1,aKR,bL,aKV,aKT,aKW,cy,cz,go_sem,b,g,yW,ph,p4];try rfl))) ?_
  rintro⟨i,gz,out,z⟩ ⟨i1,m,C,T,E,e⟩;simp only at i1 m C T E e;have Dd:=S7 m;rcases aKS i B.length with al|al
  ·obtain⟨x,ah⟩:∃x,x=B[i]!:=⟨_,rfl⟩;have nS:=akx B[i]! (ek al);rw[<-ah]at nS;rw[fi al,js,<-ah]at e;cases n:(x.neg||x.atom.name==eG)with
   |true =>
    rw[n,if_pos rfl]at e;cases o:x.neg with
    |true =>
     refine rp @b @g @lQ (Eq.symm @ah) @o ?_;exact⟨(i+1,gz,out,z),⟨ap,m,C,T,λs ax=>lz,e⟩,ap,by(exact og @b @g)⟩
    |false =>
     have p:(x.atom.name==[100,105,115,116,105,110,99,116])=true:=by rw[o,aLg]at n;exact n
     refine oX @b @g @lQ (Eq.symm @ah) @o @p ?_;exact⟨(i+1,gz,out,z),⟨ap,m,C,T,λs ax=>lz,e⟩,ap,by(exact og @b @g)⟩
   |false =>
    rw[n,if_neg be]at e;simp only[Bool.or_eq_false_iff]at n;obtain⟨o,p⟩:=n;have p:(x.atom.name==[100,105,115,116,105,110,99,116])=false:=p;refine oX @b @g @lQ (Eq.symm @ah) @o @p ?_;obtain⟨Y,fv⟩:∃Y,Y=my x.atom A out [] z:=⟨_,rfl⟩;rw[<-fv]at e;refine bQ (λq:Nat×List (List aY)×Int=>⟨N [(0,.v (.ptr w 0)),(1,.v (enc B)),(2,.v L),(8,.v (.list (p4 gz) 1 (ph gz out))),(10,.b [.str x.atom.name,.list none 2 (x.atom.args.map I.enc)]),(11,.v (.list (some 77) 1 (q.2.1.map enc))),(18,.v (enc B.length)),(19,.v (enc i)),(38,.v (enc out.length)),(39,.v (enc q.1))],gY H w q.2.2⟩)
     (λq=>q.1<=out.length/\(0<=q.2.2/\q.2.2<=1000000)/\q.2.1.length<=5000/\qU (1000*(i+1)) q.2.1/\my x.atom A (out.drop q.1) q.2.1 q.2.2=Y) (λq=>out.length-q.1) (0,[],z) ⟨aKU _,C,be,λs ax=>by simp at ax,fv.symm⟩ (by(try simp(disch:=first|exact ai|fail) only[go_sem,b,g])<;>(exact B4 @b @g @Dd)) ?_
    rintro⟨k,V,W⟩ ⟨cF,er,eo,gd,f⟩;simp only at cF er eo gd f;rcases aKS k out.length with hk|hk
    ·have r:=S8 m hk;obtain⟨s,ax⟩:∃s,s=out[k]!:=⟨_,rfl⟩;have qi:=E out[k]! (ek hk);rw[<-ax]at r qi;rw[fi hk,my,<-ax]at f;obtain⟨Z,o6⟩:∃Z,Z=k2 x.atom s A V W:=⟨_,rfl⟩;rw[<-o6]at f;have hg:s.length+(ck x.atom).length<=1000000:=by omega
     have DD:∀t,(fk x.atom t s).1.length<=1000*(i+1):=λt=>by have:=G3 x.atom t s;omega
     obtain⟨v,uh⟩:∃v,v=(if gz then AV.aS 3 else enc s):=⟨_,rfl⟩;rw[<-uh]at r;have ui:(v=.aS 3/\s=[])\/v=.list none 3 (s.map aY.enc):=by
      cases gz with
      |true =>
       refine .inl ⟨uh,?_⟩;have:=m rfl;rw[ax,this];obtain rfl:k=0:=by rw[this]at hk;simpa using hk
       rfl
      |false=>exact .inr uh
     refine iv @b @g @lQ ?_;refine bQ (λq:Nat×List (List aY)×Int=>⟨N [(0,.v (.ptr w 0)),(1,.v (enc B)),(2,.v L),(8,.v (.list (p4 gz) 1 (ph gz out))),(10,.b [.str x.atom.name,.list none 2 (x.atom.args.map I.enc)]),(11,.v (.list (some 77) 1 (q.2.1.map enc))),(12,.v (enc k)),(18,.v (enc B.length)),(19,.v (enc i)),(38,.v (enc out.length)),(39,.v (enc k)),(43,.v (enc A.length)),(44,.v (enc q.1))],gY H w q.2.2⟩)
      (λq=>q.1<=A.length/\(0<=q.2.2/\q.2.2<=1000000)/\q.2.1.length<=5000/\qU (1000*(i+1)) q.2.1/\k2 x.atom s (A.drop q.1) q.2.1 q.2.2=Z) (λq=>A.length-q.1) (0,V,W) ⟨aKU _,er,eo,gd,o6.symm⟩ (by(try simp(disch:=first|exact ai|fail) only[go_sem,b,g])<;>(exact og @b @g)) ?_
     rintro⟨j,y,F⟩ ⟨ei,dO,O,G,c⟩;simp only at ei dO O G c;rcases aKS j A.length with a8|a8
     ·exfalso;omega
     ·rw[aK3 a8,k2]at c;rw[<-c]at f;refine iv @b @g @lQ ?_;exact⟨(k+1,y,F),⟨ap,dO,O,G,f⟩,ap,by(exact og @b @g)⟩
    ·rw[aK3 hk,my]at f;rw[<-f]at e;refine iv @b @g @lQ ?_;exact⟨(i+1,false,V,W),⟨ap,λh=>d7,er,eo,gd,e⟩,ap,by(first|rfl|(simp(disch:=first|exact aX|fail) only[b7,aKX,aKY,Env.ins,cp,cq,cr,ct,cu,cv,cw,cx,I.b0,aKQ,aKZ,aK0,aK1,aKR,bL,aKV,aKT,aKW,cy,cz,go_sem,b,g,ph,p4,aLb,if_false];try rfl))⟩
  ·rw[aK3 al,js]at e;rw[<-e];have Tc:p4 true=some 77:=rfl;have Td:p4 false=none:=rfl;cases gz with
   |true =>
    refine iv @b @g @Tc ?_;exact⟨_,rfl,⟨true,m,rfl⟩,rfl⟩
   |false =>
    refine iv @b @g @Td ?_;exact⟨_,rfl,⟨false,m,rfl⟩,rfl⟩
 ·have d:∀l,(gY H w l)[id]?=some (.buf 25 (c3 A)):=λl=>by rw[gY,cj (Ne.symm cG)];exact bW
  refine bB.intro (D:=gy) ayi ?_;unfold Zb;refine iv @b @d @lQ ?_;refine bQ (λq:Nat×Bool×List (List aY)×Int=>⟨N [(0,.v (.ptr w 0)),(1,.v (enc B)),(2,.v L),(8,.v (.list (p4 q.2.1) 1 (ph q.2.1 q.2.2.1))),(18,.v (enc B.length)),(19,.v (enc q.1))],gY H w q.2.2.2⟩)
   (λq=>q.1<=B.length/\(q.2.1=true->q.2.2.1=[[]])/\(0<=q.2.2.2/\q.2.2.2<=1000000)/\q.2.2.1.length<=5000/\qU (1000*q.1) q.2.2.1/\js A (B.drop q.1) q.2.2.1 q.2.2.2=R) (λq=>B.length-q.1) (0,true,[[]],left) ⟨aKU _,λ_=>rfl,aC,be,λs ax=>by simp at ax;rw[ax];simp,de.symm⟩ (by(try simp(disch:=first|exact ai|fail) only[go_sem,b,d])<;>(first|rfl|(simp(disch:=first|exact aX|fail) only[b7,aKX,aKY,Env.ins,cp,cq,cr,ct,cu,cv,cw,cx,I.b0,aKQ,aKZ,aK0,aK1,aKR,bL,aKV,aKT,aKW,cy,cz,go_sem,b,d,yW,ph,p4];try rfl))) ?_
  rintro⟨i,gz,out,z⟩ ⟨i1,m,C,T,E,e⟩;simp only at i1 m C T E e;have Dd:=S7 m;rcases aKS i B.length with al|al
  ·obtain⟨x,ah⟩:∃x,x=B[i]!:=⟨_,rfl⟩;have nS:=akx B[i]! (ek al);rw[<-ah]at nS;rw[fi al,js,<-ah]at e;cases n:(x.neg||x.atom.name==eG)with
   |true =>
    rw[n,if_pos rfl]at e;cases o:x.neg with
    |true =>
     refine rp @b @d @lQ (Eq.symm @ah) @o ?_;exact⟨(i+1,gz,out,z),⟨ap,m,C,T,λs ax=>lz,e⟩,ap,lw⟩
    |false =>
     have p:(x.atom.name==[100,105,115,116,105,110,99,116])=true:=by rw[o,aLg]at n;exact n
     refine oX @b @d @lQ (Eq.symm @ah) @o @p ?_;exact⟨(i+1,gz,out,z),⟨ap,m,C,T,λs ax=>lz,e⟩,ap,lw⟩
   |false =>
    rw[n,if_neg be]at e;simp only[Bool.or_eq_false_iff]at n;obtain⟨o,p⟩:=n;have p:(x.atom.name==[100,105,115,116,105,110,99,116])=false:=p;refine oX @b @d @lQ (Eq.symm @ah) @o @p ?_;obtain⟨Y,fv⟩:∃Y,Y=my x.atom A out [] z:=⟨_,rfl⟩;rw[<-fv]at e;refine bQ (λq:Nat×List (List aY)×Int=>⟨N [(0,.v (.ptr w 0)),(1,.v (enc B)),(2,.v L),(8,.v (.list (p4 gz) 1 (ph gz out))),(10,.b [.str x.atom.name,.list none 2 (x.atom.args.map I.enc)]),(11,.v (.list (some 77) 1 (q.2.1.map enc))),(18,.v (enc B.length)),(19,.v (enc i)),(38,.v (enc out.length)),(39,.v (enc q.1))],gY H w q.2.2⟩)
     (λq=>q.1<=out.length/\(0<=q.2.2/\q.2.2<=1000000)/\q.2.1.length<=5000/\qU (1000*(i+1)) q.2.1/\my x.atom A (out.drop q.1) q.2.1 q.2.2=Y) (λq=>out.length-q.1) (0,[],z) ⟨aKU _,C,be,λs ax=>by simp at ax,fv.symm⟩ (by(try simp(disch:=first|exact ai|fail) only[go_sem,b,d])<;>(exact B4 @b @d @Dd)) ?_
    rintro⟨k,V,W⟩ ⟨cF,er,eo,gd,f⟩;simp only at cF er eo gd f;rcases aKS k out.length with hk|hk
    ·have r:=S8 m hk;obtain⟨s,ax⟩:∃s,s=out[k]!:=⟨_,rfl⟩;have qi:=E out[k]! (ek hk);rw[<-ax]at r qi;rw[fi hk,my,<-ax]at f;obtain⟨Z,o6⟩:∃Z,Z=k2 x.atom s A V W:=⟨_,rfl⟩;rw[<-o6]at f;have hg:s.length+(ck x.atom).length<=1000000:=by omega
     have DD:∀t,(fk x.atom t s).1.length<=1000*(i+1):=λt=>by have:=G3 x.atom t s;omega
     obtain⟨v,uh⟩:∃v,v=(if gz then AV.aS 3 else enc s):=⟨_,rfl⟩;rw[<-uh]at r;have ui:(v=.aS 3/\s=[])\/v=.list none 3 (s.map aY.enc):=by
      cases gz with
      |true =>
       refine .inl ⟨uh,?_⟩;have:=m rfl;rw[ax,this];obtain rfl:k=0:=by rw[this]at hk;simpa using hk
       rfl
      |false=>exact .inr uh
     refine iv @b @d @lQ ?_;refine bQ (λq:Nat×List (List aY)×Int=>⟨N [(0,.v (.ptr w 0)),(1,.v (enc B)),(2,.v L),(8,.v (.list (p4 gz) 1 (ph gz out))),(10,.b [.str x.atom.name,.list none 2 (x.atom.args.map I.enc)]),(11,.v (.list (some 77) 1 (q.2.1.map enc))),(12,.v (enc k)),(18,.v (enc B.length)),(19,.v (enc i)),(38,.v (enc out.length)),(39,.v (enc k)),(43,.v (enc A.length)),(44,.v (enc q.1))],gY H w q.2.2⟩)
      (λq=>q.1<=A.length/\(0<=q.2.2/\q.2.2<=1000000)/\q.2.1.length<=5000/\qU (1000*(i+1)) q.2.1/\k2 x.atom s (A.drop q.1) q.2.1 q.2.2=Z) (λq=>A.length-q.1) (0,V,W) ⟨aKU _,er,eo,gd,o6.symm⟩ (by(try simp(disch:=first|exact ai|fail) only[go_sem,b,d])<;>(exact og @b @d)) ?_
     rintro⟨j,y,F⟩ ⟨ei,dO,O,G,c⟩;simp only at ei dO O G c;rcases aKS j A.length with a8|a8
     ·rw[aJJ a8]at c;obtain⟨t,P⟩:∃t,t=A[j]!:=⟨_,rfl⟩;rw[<-P]at c;have n3:((t.args.length:Int) != (x.atom.args.length:Int))=decide (t.args.length≠x.atom.args.length):=by rw[aLc];simp;omega
      cases J:t.name==x.atom.name with
      |false =>
       have Te:(t.name != x.atom.name)=true:=by rw[bne,J];rfl
       rw[Te,Bool.true_or,if_pos rfl]at c;refine rp @b @d @lQ (Eq.symm @P) @J ?_;exact⟨(j+1,y,F),⟨ap,dO,O,G,c⟩,ap,lw⟩
      |true =>
       have Te:(t.name != x.atom.name)=false:=by rw[bne,J];rfl
       rw[Te,aLg]at c;cases Q:decide (t.args.length≠x.atom.args.length)with
       |true =>
        rw[Q,if_pos rfl]at c;refine EG @b @d @lQ (Eq.symm @P) @J @n3 @Q ?_;exact⟨(j+1,y,F),⟨ap,dO,O,G,c⟩,ap,lw⟩
       |false =>
        rw[Q,if_neg be]at c;have hd:=aJD x.atom t s hg;have Si:=DD t;obtain⟨X,bA⟩:∃X,X=fk x.atom t s:=⟨_,rfl⟩;rw[<-bA]at c hd Si;have G6:=λl=>S9 (left:=l) aJL;have S:∀{K:AV->Prop}{tg:aN K},b1 ν aD gy 60 [x.atom.enc,t.enc,v] K tg=K (mz X):=λ{K tg}=>by
         rw[bA]at hd ⊢;rcases ui with⟨rfl,rfl⟩|rfl
         ·exact S1 (D:=gy) (K:=K) (tg:=tg) (x1:=x.atom.enc) (x2:=t.enc) (x3:=.aS 3) hd
         ·exact S1 (D:=gy) (K:=K) (tg:=tg) (x1:=x.atom.enc) (x2:=t.enc) (x3:=enc s) hd
        simp only[mz]at S;cases b9:X.2 with
        |true =>
         rw[b9]at c S;simp only[if_true,aK2,aK5,aK6]at c;have n9:qU (1000*(i+1)) (y++[X.1]):=λu hu=>by
          rcases List.mem_append.1 hu with hu|hu
          ·exact G u hu
          ·rw[List.mem_singleton]at hu;rw[hu];exact Si
         rcases Int.lt_or_le (F-1) 0 with g1|g1
         ·rw[decide_eq_true g1,Bool.true_or,if_pos rfl]at c;rw[<-c]at f;rw[<-f]at e;rw[<-e];rcases ui with⟨rfl,_⟩|rfl
          all_goals
           (repeat' first|simp(disch:=first|exact ai|fail) only[go_sem,b,d,lQ,<-P,J,n3,Q,S,r,G6,G5,aKQ,aK2,aK5,aK6]|(refine ao ?_ ?_<;>intro))
           exact⟨_,rfl,rfl,_,rfl⟩
         ·rw[decide_eq_false am,aLg]at c;rcases aKS 5000 (y.length+(0+1))with g2|g2
          ·rw[decide_eq_true g2,if_pos rfl]at c;rw[<-c]at f;rw[<-f]at e;rw[<-e];rcases ui with⟨rfl,_⟩|rfl
           all_goals
            (repeat' first|simp(disch:=first|exact ai|fail) only[go_sem,b,d,lQ,<-P,J,n3,Q,S,r,G6,G5,aKQ,aK2,aK5,aK6]|(refine ao ?_ ?_<;>intro))
            exact⟨_,rfl,rfl,_,rfl⟩
          ·rw[decide_eq_false am,if_neg be]at c;rcases ui with⟨rfl,_⟩|rfl
           all_goals
            (repeat' first|simp(disch:=first|exact ai|fail) only[go_sem,b,d,lQ,<-P,J,n3,Q,S,r,G6,G5,aKQ,aK2,aK5,aK6]|(refine ao ?_ ?_<;>intro))
            exact⟨(j+1,y++[X.1],F-1),⟨ap,ap,by simp only[aK2,aK5,aK6];omega,n9,c⟩,ap,lw⟩
        |false =>
         rw[b9]at c S;simp only[aLb,if_false]at c;rw[decide_eq_false (show ¬y.length>5000 by omega),Bool.or_false]at c;rcases Int.lt_or_le (F-1) 0 with g1|g1
         ·rw[decide_eq_true g1,if_pos rfl]at c;rw[<-c]at f;rw[<-f]at e;rw[<-e];rcases ui with⟨rfl,_⟩|rfl
          all_goals
           (repeat' first|simp(disch:=first|exact ai|fail) only[go_sem,b,d,lQ,<-P,J,n3,Q,S,r,G6,G5,aKQ,aK2,aK5,aK6]|(refine ao ?_ ?_<;>intro))
           exact⟨_,rfl,rfl,_,rfl⟩
         ·rw[decide_eq_false am,if_neg be]at c;rcases ui with⟨rfl,_⟩|rfl
          all_goals
           (repeat' first|simp(disch:=first|exact ai|fail) only[go_sem,b,d,lQ,<-P,J,n3,Q,S,r,G6,G5,aKQ,aK2,aK5,aK6]|(refine ao ?_ ?_<;>intro))
           exact⟨(j+1,y,F-1),⟨ap,ap,O,G,c⟩,ap,lw⟩
     ·rw[aK3 a8,k2]at c;rw[<-c]at f;refine iv @b @d @lQ ?_;exact⟨(k+1,y,F),⟨ap,dO,O,G,f⟩,ap,lw⟩
    ·rw[aK3 hk,my]at f;rw[<-f]at e;refine iv @b @d @lQ ?_;exact⟨(i+1,false,V,W),⟨ap,λh=>d7,er,eo,gd,e⟩,ap,by(first|rfl|(simp(disch:=first|exact aX|fail) only[b7,aKX,aKY,Env.ins,cp,cq,cr,ct,cu,cv,cw,cx,I.b0,aKQ,aKZ,aK0,aK1,aKR,bL,aKV,aKT,aKW,cy,cz,go_sem,b,d,ph,p4,aLb,if_false];try rfl))⟩
  ·rw[aK3 al,js]at e;rw[<-e];have Tc:p4 true=some 77:=rfl;have Td:p4 false=none:=rfl;cases gz with
   |true =>
    refine iv @b @d @Tc ?_;exact⟨_,rfl,⟨true,m,rfl⟩,rfl⟩
   |false =>
    refine iv @b @d @Td ?_;exact⟨_,rfl,⟨false,m,rfl⟩,rfl⟩
open Enc (enc)
def aJM(H:List ay)(ac:Nat)(S:List I):Prop:=(H[ac]?=some (.cells [.aS 2])/\S=[])\/∃id,H[ac]?=some (.cells [.bI id 0 S.length 2])/\H[id]?=some (.buf 25 (c3 S))
def qY(pk mk ac:Nat)(km:List (ak×Bool))(S:List I)(H:List ay):Prop:=H[pk]?=some (.cells [.map mk])/\(∃n,H[mk]?=some (.map n (cI AV.bool km)))/\aJM H ac S
theorem Lj(km:List (ak×Bool))(s:ak):w6 (.bool false) false ((getM km s).map AV.bool)=.bool ((getM km s).getD false):=by
 cases getM km s<;>rfl
variable {pk mk ac:Nat}{km:List (ak×Bool)}{S:List I}
theorem akz(t:I)(h:qY pk mk ac km S H)(hk:(fy t).length<=M)(hd:cc t<=1000000)(ds:S.length+1<=M) :
  bB ν aD 28 [enc t,.ptr pk 0,.ptr ac 0] H λr H'=>r=.bg []/\qY pk mk ac (gZ (km,S) t).1 (gZ (km,S) t).2 H'/\H.length<=H'.length/\∀i,i<H.length->i≠mk->i≠ac->(∀e cs,H[i]?≠some (.buf e cs))->H'[i]?=H[i]?:=by
 have cP:M=1099511627776:=rfl;obtain⟨c,⟨n,g⟩,b⟩:=h;have cV:=dq c;have R:=dq g
 have E:decide ((cc t:Int)<=4)=decide (cc t<=4):=by rw[aLc];simp;omega
 refine bB.intro (D:=gy) ayf ?_;unfold Y2;cases p:(getM km (fy t)).getD false with
 |true =>
  have e:gZ (km,S) t=(km,S):=by rw[gZ];simp[p]
  rw[e];refine mb @c @g @Lj @p ?_;refine⟨_,rfl,?_⟩;first
   |exact⟨rfl,⟨c,⟨n,g⟩,b⟩,aLd _,λ_ _ _ _ _=>rfl⟩|(simp only[imp_true_iff,forall_const,and_true,aLd];exact⟨rfl,c,⟨n,g⟩,b⟩)|(refine⟨rfl,⟨c,⟨n,g⟩,b⟩,?_⟩;simp)
 |false =>
  cases x:decide (cc t<=4)with
  |false =>
   have e:gZ (km,S) t=(km,S):=by rw[gZ];simp[p,x]
   rw[e];refine oX @c @g @Lj @p @E @x ?_;refine⟨_,rfl,?_⟩;first
   |exact⟨rfl,⟨c,⟨n,g⟩,b⟩,aLd _,λ_ _ _ _ _=>rfl⟩|(simp only[imp_true_iff,forall_const,and_true,aLd];exact⟨rfl,c,⟨n,g⟩,b⟩)|(refine⟨rfl,⟨c,⟨n,g⟩,b⟩,?_⟩;simp)
  |true =>
   have e:gZ (km,S) t=(fV km (fy t) true,S++[t]):=by rw[gZ];simp[p,x]
   rw[e];have T:mk≠pk:=λe=>by rw[e,c]at g;cases g
   rcases b with⟨b,Y⟩|⟨id,b,q⟩
   ·have Z:=dq b;have y:mk≠ac:=λe=>by rw[e,b]at g;cases g
    have F:pk≠ac:=λe=>by rw[e,b]at c;cases c
    subst Y;obtain⟨f,j⟩:∃f,f=H.set mk (ay.map (lo n km (fy t)) (cI AV.bool (fV km (fy t) true))):=⟨_,rfl⟩;have m:f.length=H.length:=by rw[j,aLa]
    have B:f[pk]?=some (.cells [.map mk]):=by rw[j,cj T];exact c
    have C:f[ac]?=some (.cells [.aS 2]):=by rw[j,cj y];exact b
    have G:f[mk]?=some (.map (lo n km (fy t)) (cI AV.bool (fV km (fy t) true))):=by rw[j,dV R]
    have l:=akr (H:=f++[ay.buf 25 [AV.str [],AV.aS 2],.dead]) (id:=H.length) (e:=25) (S:=[]) (t:=t) (by rw[<-m];simp[c3]);have J:(f++[ay.buf 25 [AV.str [],AV.aS 2],.dead]).set H.length (.buf 25 (c3 ([]++[t])))=f++[ay.buf 25 (c3 [t]),.dead]:=by rw[<-m];simp
    rw[J]at l;have L:(f++[ay.buf 25 (c3 [t]),.dead])[ac]?=some (.cells [.aS 2]):=by rw[dE am];exact C
    have u:=aks (i:=H.length) (o:=0) (n:=1) (z:=2) L;simp only[aK6,Nat.zero_mul]at l
    (repeat' first|simp(disch:=first|exact ai|fail) only[go_sem,c,g,b,Lj,p,E,x,aJp,aLa,<-j,m,B,C,akq,l,u]|(refine ao ?_ ?_<;>intro))
    refine⟨_,rfl,rfl,⟨by rw[cj (Ne.symm F),dE am];exact B,⟨_,by rw[cj (Ne.symm y),dE am];exact G⟩,.inr ⟨H.length,by rw[dV (by rw[aK2];omega)];rfl,by rw[cj am,<-m];simp⟩⟩,by first|(rw[aLa,aK2];omega)|(rw[aK2];omega),λi aj O P _=>by rw[cj (Ne.symm P),dE am,j,cj (Ne.symm O)]⟩
   ·have Z:=dq b;have lA:=dq q
    have y:mk≠ac:=λe=>by rw[e,b]at g;cases g
    have F:pk≠ac:=λe=>by rw[e,b]at c;cases c
    have V:mk≠id:=λe=>by rw[e,q]at g;cases g
    have Rt:pk≠id:=λe=>by rw[e,q]at c;cases c
    have n6:ac≠id:=λe=>by rw[e,q]at b;cases b
    obtain⟨f,j⟩:∃f,f=H.set mk (ay.map (lo n km (fy t)) (cI AV.bool (fV km (fy t) true))):=⟨_,rfl⟩;obtain⟨v,w⟩:∃v,v=f.set id .dead:=⟨_,rfl⟩;have m:f.length=H.length:=by rw[j,aLa]
    have Q:v.length=H.length:=by rw[w,aLa];exact m
    have B:f[pk]?=some (.cells [.map mk]):=by rw[j,cj T];exact c
    have C:f[ac]?=some (.cells [.bI id 0 S.length 2]):=by rw[j,cj y];exact b
    have G:f[mk]?=some (.map (lo n km (fy t)) (cI AV.bool (fV km (fy t) true))):=by rw[j,dV R]
    have W:f[id]?=some (.buf 25 (c3 S)):=by rw[j,cj V];exact q
    have X:=λ{e0:Env}{K:au->Prop}{tg:aN K}=>aJq (e0:=e0) (K:=K) (t:=tg) (d:=22) (H:=f) (n:=S.length) ⟨W,rfl,ds⟩;rw[<-w,m]at X;have l:=akr (H:=v++[ay.buf 25 (c3 S++[AV.str [],AV.aS 2]),.dead]) (id:=H.length) (e:=25) (S:=S) (t:=t) (by rw[<-Q];simp);have J:(v++[ay.buf 25 (c3 S++[AV.str [],AV.aS 2]),.dead]).set H.length (.buf 25 (c3 (S++[t])))=v++[ay.buf 25 (c3 (S++[t])),.dead]:=by rw[<-Q];simp
    rw[J]at l;have L:(v++[ay.buf 25 (c3 (S++[t])),.dead])[ac]?=some (.cells [.bI id 0 S.length 2]):=by rw[dE am,w,cj (Ne.symm n6)];exact C
    have u:=aks (i:=H.length) (o:=0) (n:=S.length+1) (z:=2) L
    (repeat' first|simp(disch:=first|exact ai|fail) only[go_sem,c,g,b,q,Lj,p,E,x,aLa,<-j,m,B,C,W,X,akq,l,u]|(refine ao ?_ ?_<;>intro))
    refine⟨_,rfl,rfl,⟨by rw[cj (Ne.symm F),dE am,w,cj (Ne.symm Rt)];exact B,⟨_,by rw[cj (Ne.symm y),dE am,w,cj (Ne.symm V)];exact G⟩,.inr ⟨H.length,by rw[dV (by rw[aK2];omega),aK2];rfl,by rw[cj am,<-Q];simp⟩⟩,by first|(rw[aLa,aK2];omega)|(rw[aK2];omega),λi aj O P bG=>?_⟩;have ev:id≠i:=λe=>bG _ _ (by rw[<-e];exact q);rw[cj (Ne.symm P),dE am,w,cj ev,j,cj (Ne.symm O)]
open Enc (enc)
theorem qY.ex(h:qY pk mk ac km S H)(t:I):∃H',qY pk mk ac (gZ (km,S) t).1 (gZ (km,S) t).2 H'/\H.length<=H'.length/\∀i,i<H.length->i≠mk->i≠ac->(∀e cs,H[i]?≠some (.buf e cs))->H'[i]?=H[i]?:=by
 by_cases g:(!((getM km (fy t)).getD false)&&decide (cc t<=4))=true
 ·rw[gZ,if_pos g];obtain⟨b,⟨n,d⟩,f⟩:=h;have p:mk≠pk:=λe=>by rw[e,b]at d;cases d
  have q:∃c,H[ac]?=some (.cells [c])/\∀m,c≠.map m:=by
   rcases f with⟨f,_⟩|⟨id,f,_⟩
   ·exact⟨_,f,λm h=>d7⟩
   ·exact⟨_,f,λm h=>d7⟩
  obtain⟨c,j,r⟩:=q;have u:mk≠ac:=λe=>by rw[e,j]at d;cases d
  have v:pk≠ac:=λe=>by rw[e,j]at b;simp at b;exact r _ b
  have w:=dq b;have l:=dq d;have o:=dq j
  refine⟨(H.set mk (.map 0 (cI AV.bool (fV km (fy t) true)))).set ac (.cells [.bI H.length 0 (S.length+1) 2])++[.buf 25 (c3 (S++[t]))],⟨?_,⟨0,?_⟩,.inr ⟨H.length,?_,?_⟩⟩,be,λi x y z _=>?_⟩
  ·rw[dE (by simpa using w),cj (Ne.symm v),cj p];exact b
  ·rw[dE (by simpa using l),cj (Ne.symm u),dV l]
  ·rw[dE (by simpa using o),dV (by simpa using o)];simp
  ·simp
  ·rw[dE (by simpa using x),cj (Ne.symm z),cj (Ne.symm y)]
 ·rw[gZ,if_neg g];exact⟨H,h,aLd _,λ_ _ _ _ _=>rfl⟩
theorem akA(H:List ay)(w:Nat)(a b:Int):gY (gY H w a) w b=gY H w b:=by simp[gY]
variable {m:Nat}
theorem Tg(hm:s.length+(ck a).length<=m):∀{bE:List I}{c d:List (List aY)}{left e:Int},k2 a s bE c left=some (d,e)->c.length<=5000->qU m c->0<=left->d.length<=5000/\qU m d/\0<=e/\e<=left
 |[],c,d,left,e,h,h1,f,g=>by
  simp only[k2,Option.some.injEq,Prod.mk.injEq]at h;obtain⟨rfl,rfl⟩:=h;exact⟨h1,f,g,Int.le_refl _⟩
 |t::bE,c,d,left,e,h,h1,f,g=>by
  rw[k2]at h;obtain⟨i,j⟩:∃i,i=(if(fk a t s).2 then c++[(fk a t s).1]else c):=⟨_,rfl⟩;rw[<-j]at h;split at h
  ·exact Tg hm h h1 f g
  ·split at h
   ·cases h
   ·rename_i l;simp only[Bool.or_eq_true,decide_eq_true_eq,not_or]at l;have ae:=G3 a t s;have n:qU m i:=λu b=>by
     rw[j]at b;split at b
     ·rcases List.mem_append.1 b with b|b
      ·exact f u b
      ·rw[List.mem_singleton]at b;rw[b];omega
     ·exact f u b
    obtain⟨o,p,q,r⟩:=Tg hm h am n am;exact⟨o,p,q,am⟩
theorem akB :∀{out b c:List (List aY)}{left d:Int},(∀s∈out,s.length+(ck a).length<=m)->my a A out b left=some (c,d)->b.length<=5000->qU m b->0<=left->c.length<=5000/\qU m c/\0<=d/\d<=left
 |[],b,c,left,d,_,h,h1,e,f=>by
  simp only[my,Option.some.injEq,Prod.mk.injEq]at h;obtain⟨rfl,rfl⟩:=h;exact⟨h1,e,f,Int.le_refl _⟩
 |s::r,b,c,left,d,ax,h,h1,e,f=>by
  rw[my]at h;cases g:k2 a s A b left with
  |none=>rw[g]at h;cases h|some q =>
   obtain⟨v,w⟩:=q;rw[g]at h;obtain⟨i,j,l,x⟩:=Tg (ax s be) g h1 e f;obtain⟨n,o,p,y⟩:=akB (λu t=>ax u (aLj _ t)) h i j l;exact⟨n,o,p,am⟩
theorem Ti :∀{B:List Lit}{out b:List (List aY)}{left c:Int}{m:Nat},(∀x∈B,(ck x.atom).length<=1000)->js A B out left=some (b,c)->out.length<=5000->qU m out->0<=left->b.length<=5000/\qU (m+1000*B.length) b/\0<=c/\c<=left
 |[],out,b,left,c,m,_,h,h1,e,f=>by
  simp only[js,Option.some.injEq,Prod.mk.injEq]at h;obtain⟨rfl,rfl⟩:=h;exact⟨h1,λs ax=>by have:=e s ax;omega,f,Int.le_refl _⟩
 |x::r,out,b,left,c,m,ae,h,h1,e,f=>by
  have d:=λy o=>ae y (aLj x o);have v:=ae x be;rw[js]at h;split at h
  ·obtain⟨g,i,j,n⟩:=Ti d h h1 e f;exact⟨g,λs ax=>by have:=i s ax;simp only[aK5];omega,j,n⟩
  ·cases l:my x.atom A out [] left with
   |none=>rw[l]at h;cases h|some q =>
    obtain⟨w,z⟩:=q;rw[l]at h;obtain⟨p,t,u,C⟩:=akB (m:=m+1000) (λs ax=>by have:=e s ax;omega) l be (λs ax=>by simp at ax) f;obtain⟨g,i,j,n⟩:=Ti d h p t u;exact⟨g,λs ax=>by have:=i s ax;simp only[aK5];omega,j,am⟩
theorem qY.w{km:List (ak×Bool)}{S:List I}{H':List ay}{x:Int}(b:H[0]?=some (.cells [.int .i64 x]))(c:∀i,i<H.length->i≠1->i≠3->(∀e cs,H[i]?≠some (.buf e cs))->H'[i]?=H[i]?):H'[0]?=some (.cells [.int .i64 x]):=by
 rw[c 0 (dq b) am am (λe cs=>by rw[b];simp)];exact b
theorem akD(l:List aU)(given:List I)(b:Bool)(aC:l.length<=1000)(ae:∀r∈l,r.body.length<=8/\∀x∈r.body,(ck x.atom).length<=1000)(aF:given.length<=1000000)(c:kb l given=some b):aA ν aD 10 [enc l,enc given] (enc b):=by
 have cP:M=1099511627776:=rfl;unfold kb at c;cases O:given.all qX with
 |false=>rw[O]at c;simp at c|true =>
 rw[O]at c;simp only[Bool.not_true,aLb,if_false]at c;have O:=aLe.1 O;refine aA.intro (D:=gy) ax4 (by simp only[aLh,List.all_nil,Enc.arg,Bool.and_self]) rfl ?_;unfold Ym
 (repeat' first|simp(disch:=first|exact ai|fail) only[go_sem,jL]|(refine ao ?_ ?_<;>intro))
 refine bQ (λq:Nat×(List (ak×Bool)×List I)×List ay=>⟨N [(0,.v (enc l)),(1,.v (enc given)),(5,.v (.ptr 0 0)),(7,.v (.ptr 3 0)),(8,.v (.fn 28 [.ptr 2 0,.ptr 3 0])),(26,.v (enc given.length)),(27,.v (enc q.1))],q.2.2⟩)
  (λq=>q.1<=given.length/\qY 2 1 3 q.2.1.1 q.2.1.2 q.2.2/\q.2.2[0]?=some (.cells [.int .i64 1000000])/\q.2.1.2.length<=q.1/\(given.drop q.1).foldl gZ q.2.1=given.foldl gZ ([],[])) (λq=>given.length-q.1) (0,([],[]),[ay.cells [AV.int IntKind.i64 1000000],ay.map 0 [],ay.cells [AV.map 1],ay.cells [AV.aS 2]])
  ⟨aKU _,⟨rfl,⟨0,rfl⟩,.inl ⟨rfl,rfl⟩⟩,rfl,aLd _,rfl⟩ ci ?_
 rintro⟨i,p,H⟩ ⟨i1,J,C,R,P⟩;simp only at i1 J C R P;rcases aKS i given.length with al|al
 ·have hk:=O given[i]! (ek al);simp only[qX,aLi,decide_eq_true_eq]at hk;have af:=akz given[i]! J hk.1 hk.2 am;rw[fi al,List.foldl_cons]at P;have sq:=aky p given[i]!;have o:∃(r:AV)(g:List ay),r=.bg []/\qY 2 1 3 (gZ p given[i]!).1 (gZ p given[i]!).2 g/\H.length<=g.length/\∀i,i<H.length->i≠1->i≠3->(∀e cs,H[i]?≠some (.buf e cs))->g[i]?=H[i]?:=by
   obtain⟨g,q⟩:=J.ex given[i]!;exact⟨_,g,rfl,q⟩
  (repeat' first|simp(disch:=first|exact ai|fail) only[go_sem,jL]|(refine ao ?_ ?_<;>intro)|(refine iJ ⟨af,o⟩ ?_;(rintro r' g ⟨rfl,ca,dK,fp⟩)))
  exact⟨(i+1,gZ p given[i]!,g),⟨ap,ca,qY.w (km:=[]) (S:=[]) C fp,ap,P⟩,ap,co⟩
 rw[aK3 al,List.foldl_nil]at P;rw[<-P]at c;clear P O
 (repeat' first|simp(disch:=first|exact ai|fail) only[go_sem]|(refine ao ?_ ?_<;>intro))
 refine bQ (λq:Nat×(List (ak×Bool)×List I)×List ay×Int×Int=>⟨N [(0,.v (enc l)),(5,.v (.ptr 0 0)),(7,.v (.ptr 3 0)),(8,.v (.fn 28 [.ptr 2 0,.ptr 3 0])),(10,.v (.int .i64 q.2.2.2.1))],q.2.2.1⟩)
  (λq=>qY 2 1 3 q.2.1.1 q.2.1.2 q.2.2.1/\q.2.2.1[0]?=some (.cells [.int .i64 q.2.2.2.2])/\q.2.1.2.length<=100000000/\(0<=q.2.2.2.2/\q.2.2.2.2<=1000000)/\(-1<=q.2.2.2.1/\q.2.2.2.1<=100000000)/\y8 l q.1 q.2.1 q.2.2.2.1 q.2.2.2.2=some b) (λq=>q.1) (1003,p,H,-1,1000000) ⟨J,C,ap,ap,ap,c⟩ ci ?_
 clear i1 J C R al c;rintro⟨f,p,H,n,left⟩ ⟨J,C,R,i6,i7,c⟩;simp only at J C R i6 i7 c;obtain⟨h1,⟨jd,ab⟩,B⟩:=J;cases f with
 |zero=>cases c|succ f =>
 rw[y8]at c;have F:decide ((p.2.length:Int)<=1000)=decide (p.2.length<=1000):=by rw[aLc];simp;omega
 obtain⟨S,ds⟩:∃S,S=p.2:=⟨_,rfl⟩;rw[<-ds]at B R c F;have fc:∃v,H[3]?=some (.cells [v])/\Tb H 0 v S/\(∀x,Tb (gY H 0 x) 0 v S):=by
  rcases B with⟨B,y⟩|⟨id,B,L⟩
  ·exact⟨_,B,.inl ⟨rfl,y⟩,λ_=>.inl ⟨rfl,y⟩⟩
  ·have ne:id≠0:=λe=>by rw[e,C]at L;cases L
   exact⟨_,B,.inr ⟨id,rfl,L,ne⟩,λx=>.inr ⟨id,rfl,by rw[gY,cj (Ne.symm ne)];exact L,ne⟩⟩
 obtain⟨v,Tj,qj,V⟩:=fc;have Lk:∀g,ou 1 g v=some (.int .i64 (S.length:Int)):=λg=>by
  rcases qj with⟨rfl,y⟩|⟨id,rfl,_⟩
  ·rw[y];rfl
  ·rfl
 have E:v.a1=v:=by
  rcases qj with⟨rfl,y⟩|⟨id,rfl,_⟩<;>rfl
 have Tk:∀{K:AV->Prop}{tg:aN K},u0 2 (λn:Nat=>some (n:Int)) (λ_=>some (S.length:Int)) v K tg=K v:=λ{K tg}=>by
  rcases qj with⟨rfl,y⟩|⟨id,rfl,_⟩
  ·rw[y,agk];simp[eI]
  ·rw[agl];have:¬((0:Int)<0):=by omega
   simp[eI]
 have sH:∀{s:au}{d x:Nat}{K:au->Prop}{tg:aN K},yD s d x K tg v=di s d v K ⟨⟩:=λ{s d x K tg}=>by
  rcases qj with⟨rfl,y⟩|⟨id,rfl,_⟩<;>rfl
 cases W:decide (n<(S.length:Int))with
 |false =>
  rw[W,aK7,if_neg be]at c;have fS:b=decide (S.length<=1000):=(Option.some.inj c).symm;rw[fS]
  (repeat' first|simp(disch:=first|exact ai|fail) only[go_sem,Tj,Lk,E,Tk,sH,W,F]|(refine ao ?_ ?_<;>intro))
 |true =>
  rw[W,aK8]at c;cases g2:decide (S.length<=1000)with
  |false =>
   rw[g2,if_neg be]at c;have fS:b=false:=(Option.some.inj c).symm;rw[fS]
   (repeat' first|simp(disch:=first|exact ai|fail) only[go_sem,Tj,Lk,E,Tk,sH,W,F,g2]|(refine ao ?_ ?_<;>intro))
  |true =>
   rw[g2,if_pos rfl]at c
   (repeat' first|simp(disch:=first|exact ai|fail) only[go_sem,Tj,Lk,E,Tk,sH,W,F,g2]|(refine ao ?_ ?_<;>intro))
   obtain⟨Y,fv⟩:∃Y,Y=rS S l [] left:=⟨_,rfl⟩;rw[<-fv]at c;have yW:gY H 0 left=H:=by rw[gY];exact C6 C
   have Dl:=dq C;have ajN:S.length<=1000:=of_decide_eq_true g2;refine bQ (λq:Nat×List I×Int=>⟨N [(0,.v (enc l)),(5,.v (.ptr 0 0)),(7,.v (.ptr 3 0)),(8,.v (.fn 28 [.ptr 2 0,.ptr 3 0])),(10,.v (.int .i64 (S.length:Int))),(11,.v v),(12,.v (.list (some 25) 2 (q.2.1.map I.enc))),(52,.v (enc l.length)),(53,.v (enc q.1))],gY H 0 q.2.2⟩)
    (λq=>q.1<=l.length/\(0<=q.2.2/\q.2.2<=1000000)/\q.2.1.length<=q.1*5000/\rS S (l.drop q.1) q.2.1 q.2.2=Y) (λq=>l.length-q.1) (0,[],left) ⟨aKU _,i6,be,fv.symm⟩ (by(try simp(disch:=first|exact ai|fail) only[go_sem])<;>(first|rfl|(simp(disch:=first|exact aX|fail) only[b7,aKX,aKY,Env.ins,cp,cq,cr,ct,cu,cv,cw,cx,I.b0,aKQ,aKZ,aK0,aK1,aKR,bL,aKV,aKT,aKW,cy,cz,go_sem,yW];try rfl))) ?_
   rintro⟨i,more,z⟩ ⟨c1,c2,gv,G⟩;simp only at c1 c2 gv G;rcases aKS i l.length with al|al
   ·rw[fi al,rS]at G;obtain⟨ed,dX⟩:=ae l[i]! (ek al);obtain⟨r,aw⟩:∃r,r=l[i]!:=⟨_,rfl⟩;rw[<-aw]at G ed dX;have Tl:=aJK (H:=gY H 0 z) (w:=0) (left:=z) r.body S (S9 Dl) (V z) c2 ed dX am;obtain⟨Z,o6⟩:∃Z,Z=js S r.body [[]] z:=⟨_,rfl⟩;rw[<-o6]at G Tl;cases Z with
    |none =>
     rw[<-G]at c;have fS:b=false:=(Option.some.inj c).symm;rw[fS];have o:∃(r:AV)(g:List ay),Ta (gY H 0 z) 0 none r g:=⟨_,_,rfl,0,rfl⟩
     (repeat' first|simp(disch:=first|exact ai|fail) only[go_sem,<-aw,E]|(refine ao ?_ ?_<;>intro)|(refine iJ ⟨Tl,o⟩ ?_;(rintro r' g ⟨rfl,yQ,rfl⟩)))
     all_goals rfl
    |some q =>
     obtain⟨all,cH⟩:=q;simp only at G;have o:∃(r:AV)(g:List ay),Ta (gY H 0 z) 0 (some (all,cH)) r g:=⟨_,_,⟨false,λh=>d7,rfl⟩,rfl⟩
     (repeat' first|simp(disch:=first|exact ai|fail) only[go_sem,<-aw,E]|(refine ao ?_ ?_<;>intro)|(refine iJ ⟨Tl,o⟩ ?_;(rintro r' g ⟨⟨gz,j1,rfl⟩,rfl⟩)))
     obtain⟨ba,dN,fu,wx⟩:=Ti (m:=0) dX o6.symm be (λs ax=>by simp at ax;rw[ax];simp) c2.1;have Dd:=S7 j1;refine bQ (λk:Nat=>⟨N [(0,.v (enc l)),(5,.v (.ptr 0 0)),(7,.v (.ptr 3 0)),(8,.v (.fn 28 [.ptr 2 0,.ptr 3 0])),(10,.v (.int .i64 (S.length:Int))),(11,.v v),(12,.v (.list (some 25) 2 ((more++(all.take k).filterMap (hv r.head)).map I.enc))),(13,.v (enc i)),(14,.v (.list none 1 (ph gz all))),(52,.v (enc l.length)),(53,.v (enc i)),(70,.v (enc all.length)),(71,.v (enc k))],gY H 0 cH⟩)
      (λk=>k<=all.length) (λk=>all.length-k) 0 (aKU _) (by(try simp(disch:=first|exact ai|fail) only[go_sem,akA])<;>(first|rfl|(simp(disch:=first|exact aX|fail) only[b7,aKX,aKY,Env.ins,cp,cq,cr,ct,cu,cv,cw,cx,I.b0,aKQ,aKZ,aK0,aK1,aKR,bL,aKV,aKT,aKW,cy,cz,go_sem,Dd,aLk,aLf,akA];try rfl))) ?_
     intro k hk;rcases aKS k all.length with j|j
     ·have gn:=S8 j1 j;obtain⟨s,ax⟩:∃s,s=all[k]!:=⟨_,rfl⟩;have qi:=dN all[k]! (ek j);rw[<-ax]at gn qi;have Ll:(all.take (k+1)).filterMap (hv r.head)=(all.take k).filterMap (hv r.head)++(hv r.head s).toList:=by
       rw[bL j,List.filterMap_append,<-ax];simp only[List.filterMap_cons,aLk];cases hv r.head s<;>rfl
      have akF:((all.take k).filterMap (hv r.head)).length<=5000:=by
       have:=aLl (hv r.head) (all.take k);rw[aK4]at this;omega
      have hd:=aJI s am r.head;obtain⟨X,bA⟩:∃X,X=hv r.head s:=⟨_,rfl⟩;rw[<-bA]at hd Ll;obtain⟨pj,uh⟩:∃pj,pj=(if gz then AV.aS 3 else enc s):=⟨_,rfl⟩;rw[<-uh]at gn;have ui:(pj=.aS 3/\s=[])\/pj=.list none 3 (s.map aY.enc):=by
       cases gz with
       |true =>
        refine .inl ⟨uh,?_⟩;have:=j1 rfl;rw[ax,this];obtain rfl:k=0:=by rw[this]at j;simpa using j
        rfl
       |false=>exact .inr uh
      have sP:∀{K:AV->Prop}{tg:aN K},b1 ν aD gy 32 [r.head.enc,pj] K tg=K (pg r.head X):=λ{K tg}=>by
       rw[bA]at hd ⊢;rcases ui with⟨rfl,rfl⟩|rfl
       ·exact S2 (D:=gy) (K:=K) (tg:=tg) (x1:=r.head.enc) (x2:=.aS 3) hd
       ·exact S2 (D:=gy) (K:=K) (tg:=tg) (x1:=r.head.enc) (x2:=enc s) hd
      have rk:(more++(all.take k).filterMap (hv r.head)).length+1<=M:=by rw[aK2];omega
      obtain⟨mk,Q⟩:∃mk,mk=more++(all.take k).filterMap (hv r.head):=⟨_,rfl⟩;have Lm:more++(all.take (k+1)).filterMap (hv r.head)=mk++X.toList:=by rw[Ll,<-List.append_assoc,Q]
      rw[<-Q]at rk ⊢;cases X with
      |none =>
       simp only[pg]at sP;rcases ui with⟨rfl,_⟩|rfl
       all_goals
        (repeat' first|simp(disch:=first|exact ai|fail) only[go_sem,E,<-aw,gn,sP]|(refine ao ?_ ?_<;>intro))
        exact⟨k+1,am,am,by rw[Lm,Option.toList_none,aLf];(exact bl)⟩
      |some u =>
       simp only[pg]at sP;rcases ui with⟨rfl,_⟩|rfl
       all_goals
        (repeat' first|simp(disch:=first|exact ai|fail) only[go_sem,E,<-aw,gn,sP,aKQ]|(refine ao ?_ ?_<;>intro))
        exact⟨k+1,am,am,by rw[Lm,Option.toList_some];(exact bl)⟩
     ·obtain rfl:k=all.length:=by omega
      rw[aK9];have akF:=aLl (hv r.head) all
      (repeat' first|simp(disch:=first|exact ai|fail) only[go_sem,E]|(refine ao ?_ ?_<;>intro))
      exact⟨(i+1,more++all.filterMap (hv r.head),cH),⟨ap,ap,by simp only[aK2];omega,G⟩,ap,co⟩
   ·rw[aK3 al,rS]at G;rw[<-G]at c
    (repeat' first|simp(disch:=first|exact ai|fail) only[go_sem,E,Lk]|(refine ao ?_ ?_<;>intro))
    simp only at c;obtain⟨T,ej⟩:∃T,T=more++S.filterMap kP:=⟨_,rfl⟩;rw[<-ej]at c;have akG:T.all qX=true:=by
     cases bk:T.all qX with
     |true=>rfl|false=>rw[bk]at c;simp at c
    rw[akG]at c;simp only[Bool.not_true,aLb,if_false]at c;have rk:more.length<=5000000:=by have:i*5000<=1000*5000:=Nat.mul_le_mul_right _ am;omega
    have aJN:∀(n:ak)(a:List I),(I.mk n a).enc=.agg [.str n,.list none 2 (a.map I.enc)]:=λn a=>I.qC _;refine bQ (λk:Nat=>⟨N [(0,.v (enc l)),(5,.v (.ptr 0 0)),(7,.v (.ptr 3 0)),(8,.v (.fn 28 [.ptr 2 0,.ptr 3 0])),(10,.v (.int .i64 (S.length:Int))),(11,.v v),(12,.v (.list (some 25) 2 ((more++(S.take k).filterMap kP).map I.enc))),(95,.v (enc S.length)),(96,.v (enc k))],gY H 0 z⟩)
     (λk=>k<=S.length) (λk=>S.length-k) 0 (aKU _) (by(try simp(disch:=first|exact ai|fail) only[go_sem])<;>(first|rfl|(simp(disch:=first|exact aX|fail) only[b7,aKX,aKY,Env.ins,cp,cq,cr,ct,cu,cv,cw,cx,I.b0,aKQ,aKZ,aK0,aK1,aKR,bL,aKV,aKT,aKW,cy,cz,go_sem,aLk,aLf];try rfl))) ?_
    intro k hk;rcases aKS k S.length with j|j
    ·rcases V z with⟨_,y⟩|⟨id,eF,bW,_⟩
     ·exfalso;rw[y]at j;simp at j
     obtain⟨t,aB⟩:∃t,t=S[k]!:=⟨_,rfl⟩;have Ll:(S.take (k+1)).filterMap kP=(S.take k).filterMap kP++(kP t).toList:=by
      rw[bL j,List.filterMap_append,<-aB];simp only[List.filterMap_cons,aLk];cases kP t<;>rfl
     have akF:((S.take k).filterMap kP).length<=1000:=by
      have:=aLl kP (S.take k);rw[aK4]at this;omega
     obtain⟨mk,Q⟩:∃mk,mk=more++(S.take k).filterMap kP:=⟨_,rfl⟩;have aPe:mk.length+1<=M:=by rw[Q,aK2];omega
     have Lm:more++(S.take (k+1)).filterMap kP=mk++(kP t).toList:=by rw[Ll,<-List.append_assoc,Q]
     rw[<-Q]at ⊢;have ee:((t.args.length:Int)==1)=decide (t.args.length=1):=by rw[aLc];simp;omega
     have c9:((t.args.length:Int)==2)=decide (t.args.length=2):=by rw[aLc];simp;omega
     have DF:kP t=if decide (t.args.length=1)&&(t.name==[105,110,105,116]||t.name==[110,101,120,116])then some (.mk [116,114,117,101] t.args)
      else if decide (t.args.length=2)&&t.name==[108,101,103,97,108]then some (.mk [100,111,101,115] t.args)else none:=rfl
     cases aj:decide (t.args.length=1)<;>cases av:t.name==[105,110,105,116]<;>cases aQ:t.name==[110,101,120,116]<;>cases bG:decide (t.args.length=2)<;>cases ev:t.name==[108,101,103,97,108];all_goals
      rw[aj,av,aQ,bG,ev]at DF;simp only[aK8,aK7,Bool.true_or,aLg,Bool.or_self,Bool.and_self,Bool.and_true,Bool.and_false,aLb,if_true,if_false]at DF
      (repeat' first|simp(disch:=first|exact ai|fail) only[go_sem,eF,bW,<-aB,ee,c9,aj,av,aQ,bG,ev,aKQ]|(refine ao ?_ ?_<;>intro))
      exact⟨k+1,am,am,by rw[Lm,DF];(first|rfl|(simp(disch:=first|exact aX|fail) only[b7,aKX,aKY,Env.ins,cp,cq,cr,ct,cu,cv,cw,cx,I.b0,aKQ,aKZ,aK0,aK1,aKR,bL,aKV,aKT,aKW,cy,cz,go_sem,eF,Option.toList_some,Option.toList_none,aLf,aJN];try rfl))⟩
    ·obtain rfl:k=S.length:=by omega
     rw[aK9,<-ej];refine bU @E ?_;have aPf:T.length<=6000000:=by
      rw[ej,aK2];have:=aLl kP S;omega
     have aJO:=aLe.1 akG;have aJP:qY 2 1 3 p.1 p.2 (gY H 0 z):=by
      refine⟨by rw[gY,cj am];exact h1,⟨jd,by rw[gY,cj am];exact ab⟩,?_⟩;rw[<-ds];rcases B with⟨B,y⟩|⟨id,B,L⟩
      ·exact .inl ⟨by rw[gY,cj am];exact B,y⟩
      ·have ne:id≠0:=λe=>by rw[e,C]at L;cases L
       exact .inr ⟨id,by rw[gY,cj am];exact B,by rw[gY,cj (Ne.symm ne)];exact L⟩
     refine bQ (λq:Nat×(List (ak×Bool)×List I)×List ay=>⟨N [(0,.v (enc l)),(5,.v (.ptr 0 0)),(7,.v (.ptr 3 0)),(8,.v (.fn 28 [.ptr 2 0,.ptr 3 0])),(10,.v (.int .i64 (S.length:Int))),(12,.v (.list (some 25) 2 (T.map I.enc))),(159,.v (enc T.length)),(160,.v (enc q.1))],q.2.2⟩)
      (λq=>q.1<=T.length/\qY 2 1 3 q.2.1.1 q.2.1.2 q.2.2/\q.2.2[0]?=some (.cells [.int .i64 z])/\q.2.1.2.length<=1000+q.1/\(T.drop q.1).foldl gZ q.2.1=T.foldl gZ p) (λq=>T.length-q.1) (0,p,gY H 0 z)
      ⟨aKU _,aJP,S9 Dl,by simp only;rw[<-ds];omega,rfl⟩ ci ?_
     rintro⟨k,aV,H2⟩ ⟨m1,m2,m3,m4,m5⟩;simp only at m1 m2 m3 m4 m5;rcases aKS k T.length with j|j
     ·have lx:=aJO T[k]! (ek j);simp only[qX,aLi,decide_eq_true_eq]at lx;have af:=akz T[k]! m2 lx.1 lx.2 am;rw[fi j,List.foldl_cons]at m5;have sq:=aky aV T[k]!;have o:∃(r:AV)(g:List ay),r=.bg []/\qY 2 1 3 (gZ aV T[k]!).1 (gZ aV T[k]!).2 g/\H2.length<=g.length/\∀i,i<H2.length->i≠1->i≠3->(∀e cs,H2[i]?≠some (.buf e cs))->g[i]?=H2[i]?:=by
       obtain⟨g,q⟩:=m2.ex T[k]!;exact⟨_,g,rfl,q⟩
      (repeat' first|simp(disch:=first|exact ai|fail) only[go_sem,jL]|(refine ao ?_ ?_<;>intro)|(refine iJ ⟨af,o⟩ ?_;(rintro r' g ⟨rfl,ca,dK,fp⟩)))
      exact⟨(k+1,gZ aV T[k]!,g),⟨ap,ca,qY.w (km:=[]) (S:=[]) m3 fp,ap,m5⟩,ap,co⟩
     ·rw[aK3 j,List.foldl_nil]at m5;rw[<-m5]at c;refine ag ?_;exact⟨(f,aV,H2,(S.length:Int),z),⟨m2,m3,ap,c2,ap,c⟩,ap,co⟩
open Enc (enc)
variable {m:Int}
theorem akJ{f:I->Int} :∀(l:List I)(n:Int),(∀t∈l,1<=f t)->ki f m l n<=m->n+(l.map f).sum=ki f m l n
 |[],n,_,_=>by simp[ki]|t::r,n,h,hm=>by
  have d:=h t be;by_cases b:n>m
  ·have:=aho (f:=f) (m:=m) (l:=t::r) (i:=0) (n:=n) be b;simp only[List.drop_zero]at this;omega
  ·have:=ahn (f:=f) (m:=m) (l:=t::r) (i:=0) (n:=n) be b;simp only[List.drop_zero,List.getElem!_cons_zero,List.drop_succ_cons]at this;rw[this]at hm ⊢;have:=akJ r (n+f t) (λu c=>h u (aLj _ c)) hm;simp only[aKT,List.sum_cons];omega
theorem akK(hm:0<=m/\m<=1000):∀(d:Nat)(t:I),j6 m d t<=m->((ck t).length:Int)<=j6 m d t
 |0,t,h=>by
  simp only[j6]at h;omega
 |d+1,t,h=>by
  rw[ahl]at h ⊢;have ae:=λu(b:u∈t.args)=>(Kl hm d u).1;have ax:=akJ t.args 1 ae h;have e:=QT t.args 1 ae am h;have f:=nJ t;have key:∀l:List I,(∀u∈l,((ck u).length:Int)<=j6 m d u)->((bF l).length:Int)<=(l.map (j6 m d)).sum:=λl=>by
   induction l with
   |nil=>intro _;simp[bF]|cons u r ih =>
    intro c;have j:=c u be;have n:=ih λw g=>c w (aLj _ g);simp only[bF,aK2,aKT,List.sum_cons];omega
  have o:=key t.args λu b=>akK hm d u (e.2 u b);rw[<-ax,f];split
  ·rename_i i;rw[List.length_eq_zero_iff.1 i];simp
  ·omega
variable {t:I}
theorem aJV(h:lM 20 t=true):(ck t).length<=20:=by
 simp only[lM,decide_eq_true_eq]at h;have:=akK (m:=20) ⟨am,am⟩ _ t h;omega
open Enc (enc)
def p5(r:aU):Bool:=lM 20 r.head&&decide (r.body.length<=8)&&r.body.all λx=>lM 20 x.atom
def nh(l:List aU)(m:Int):Bool:=decide ((l.length:Int)<=m)&&l.all p5
noncomputable def Tn:List iZ:=[(9,hj λ(t:I)(m:Int)=>enc (lM m t)),
 (10,hj λ(l:List aU)(g:List I)=>enc ((kb l g).getD false)),
 (7,hj λ(l:List aU)(m:Int)=>enc (nh l m&&(kb l []).getD false))]
noncomputable def p6:bj:=ij gy (e1 Tn)
instance aPh{D:bj}[h:bt D p6]:bt D gy:=h.ke
def To:List Nat:=[9,10,7]++S0
theorem akL:fq p6 To:=fq.or akt (kf Tn)
variable {f:Nat}{F:List AV->Option AV}
theorem Tp(h:∀xs,e1 Tn f xs=F xs)(hk:S0.contains f=false:=by rfl):∀xs,p6 f xs=F xs:=λxs=>by rw[<-h];exact kg akt hk
variable {D:bj}{x1 x2:AV}{l:List aU}{g:List I}{K:AV->Prop}{tg:aN K}
theorem akM[bt D p6][aT x1 l][aT x2 g](h:aA ν aD 10 [enc l,enc g] (enc ((kb l g).getD false))):b1 ν aD D 10 [x1,x2] K tg=K (enc ((kb l g).getD false)):=ik (D':=p6) (F:=λ(l:List aU)(g:List I)=>enc ((kb l g).getD false)) (Tp λ_=>rfl) h
theorem aJW[bt D p6][aT x1 t][aT x2 m](h:0<=m/\m<=1000) :b1 ν aD D 9 [x1,x2] K tg=K (enc (lM m t)):=ik (D':=p6) (F:=λ(t:I)(m:Int)=>enc (lM m t)) (Tp λ_=>rfl) (akI t h)
attribute [go_sem ↓ 2000] aJW
theorem akN(h:l.all p5=true):∀r∈l,r.body.length<=8/\∀x∈r.body,(ck x.atom).length<=1000:=λr b=>by
 have:=aLe.1 h r b;simp only[p5,aLi,decide_eq_true_eq,aLe]at this;exact⟨this.1.2,λx ah=>by have:=aJV (this.2 x ah);omega⟩
theorem aJX(l:List aU)(m:Int)(hm:0<=m/\m<=1000)(cf:nh l m=true->(kb l []).isSome=true):aA ν aD 7 [enc l,enc m] (enc (nh l m&&(kb l []).getD false)):=by
 refine aA.h4 λae=>?_;obtain⟨ae,_⟩:=ae;have E:M=1099511627776:=rfl;rcases Int.lt_or_le m (l.length:Int)with u|u
 ·have e:nh l m=false:=by rw[nh,decide_eq_false am,aK7]
  rw[e,aK7];refine aA.intro (D:=p6) ax3 cX c7 ?_;unfold Yj;simp(disch:=first|exact ai|fail) only[go_sem]
  (repeat' first|refine ag ?_|(refine ao ?_ ?_<;>intro))
  all_goals rfl
 ·have e:nh l m=l.all p5:=by rw[nh,decide_eq_true u,aK8]
  rw[e]at cf ⊢;obtain⟨R,de⟩:∃R,R=l.all p5:=⟨_,rfl⟩;rw[<-de]at cf ⊢;have y:∀{K:AV->Prop}{tg:aN K},R=true->b1 ν aD p6 10 [.list none 3 (l.map aU.enc),.aS 2] K tg=K (enc ((kb l []).getD false)):=λ{K tg}d=>by
   obtain⟨b,v⟩:=Option.isSome_iff_exists.1 (cf d);have hd:=akD l [] b am (akN (by rw[<-de];exact d)) be v;have z:(kb l []).getD false=b:=by rw[v];rfl
   exact akM (D:=p6) (K:=K) (tg:=tg) (x1:=enc l) (x2:=.aS 2) (l:=l) (g:=[]) (by rw[z];exact hd)
  refine aA.intro (D:=p6) ax3 cX c7 ?_;unfold Yj;simp(disch:=first|exact ai|fail) only[go_sem]
  (repeat' first|refine ag ?_|(refine ao ?_ ?_<;>intro))
  refine bQ (λi:Nat=>⟨N [(0,.v (enc l)),(12,.v (enc l.length)),(13,.v (enc i))],[]⟩) (λi=>i<=l.length/\(l.drop i).all p5=R) (λi=>l.length-i) 0 ⟨aKU _,de.symm⟩ ew ?_;rintro i ⟨G,c⟩;rcases aKS i l.length with h|h
  ·rw[fi h,aLh]at c;obtain⟨r,d⟩:∃r,r=l[i]!:=⟨_,rfl⟩;rw[<-d]at c;cases o:lM 20 r.head with
   |false =>
    have:p5 r=false:=by simp[p5,o]
    rw[this,aK7]at c;rw[<-c]
    (repeat' first|simp(disch:=first|exact ai|fail) only[go_sem,<-d,o]|(refine ao ?_ ?_<;>intro))
    all_goals rfl
   |true =>
    rcases aKS 8 r.body.length with w|w
    ·have:p5 r=false:=by simp[p5,decide_eq_false (show ¬r.body.length<=8 by omega)]
     rw[this,aK7]at c;rw[<-c]
     (repeat' first|simp(disch:=first|exact ai|fail) only[go_sem,<-d,o]|(refine ao ?_ ?_<;>intro))
     all_goals rfl
    ·have B:p5 r=r.body.all λx=>lM 20 x.atom:=by rw[p5,o,decide_eq_true w];rfl
     rw[B]at c
     (repeat' first|simp(disch:=first|exact ai|fail) only[go_sem,<-d,o]|(refine ao ?_ ?_<;>intro))
     refine bQ (λj:Nat=>⟨N [(0,.v (enc l)),(5,.v (enc i)),(12,.v (enc l.length)),(13,.v (enc i)),(37,.v (enc r.body.length)),(38,.v (enc j))],[]⟩) (λj=>j<=r.body.length/\(((r.body.drop j).all λx=>lM 20 x.atom)&&(l.drop (i+1)).all p5)=R) (λj=>r.body.length-j) 0 ⟨aKU _,c⟩ ew ?_;rintro j ⟨J,n⟩;rcases aKS j r.body.length with q|q
     ·rw[fi q,aLh]at n;cases p:lM 20 r.body[j]!.atom with
      |false =>
       rw[p,aK7,aK7]at n;rw[<-n]
       (repeat' first|simp(disch:=first|exact ai|fail) only[go_sem,<-d,p]|(refine ao ?_ ?_<;>intro))
       all_goals rfl
      |true =>
       rw[p,aK8]at n
       (repeat' first|simp(disch:=first|exact ai|fail) only[go_sem,<-d,p]|(refine ao ?_ ?_<;>intro))
       exact⟨j+1,⟨am,n⟩,am,co⟩
     ·rw[aK3 q,List.all_nil,aK8]at n;refine ag ?_;exact⟨i+1,⟨am,n⟩,am,co⟩
  ·rw[aK3 h,List.all_nil]at c;have C:=λ{K:AV->Prop}{tg:aN K}=>y (K:=K) (tg:=tg) c.symm;rw[<-c,aK8]
   (repeat' first|simp(disch:=first|exact ai|fail) only[go_sem,C]|(refine ao ?_ ?_<;>intro))
   all_goals rfl
open Enc (enc)
noncomputable def TM:List iZ:=[(8,hj λ(l:List I)(m:Int)=>enc (qI m l)),
 (11,λ_=>some (enc (true)))]
noncomputable def oF:bj:=ij p6 (e1 TM)
instance aPi{D:bj}[h:bt D oF]:bt D p6:=h.ke
def TN:List Nat:=[8,11]++To
theorem ali:fq oF TN:=fq.or akL (kf TM)
theorem TO(h:∀xs,e1 TM f xs=F xs)(hk:To.contains f=false:=by rfl):∀xs,oF f xs=F xs:=λxs=>by rw[<-h];exact kg akL hk
theorem aKd[bt D oF]   (h:aA ν aD 11 [] (enc (true))):b1 ν aD D 11 [] K tg=K (enc (true)):=aCq (D':=oF) ((show ∀xs,oF 11 xs=some (enc (true)) from TO λ_=>rfl) []) h
theorem aKe[bt D oF]{l:List I}[aT x1 l][aT x2 m](h:0<=m/\m<=1000) :b1 ν aD D 8 [x1,x2] K tg=K (enc (qI m l)):=ik (D':=oF) (F:=λ(l:List I)(m:Int)=>enc (qI m l)) (TO λ_=>rfl) (aJU l h)
attribute [go_sem ↓ 2000] aKe
theorem aKf[bt D p6][aT x1 l][aT x2 m](h:0<=m/\m<=1000)(b:nh l m=true->(kb l []).isSome=true) :b1 ν aD D 7 [x1,x2] K tg=K (enc (nh l m&&(kb l []).getD false)):=ik (D':=p6) (F:=λ(l:List aU)(m:Int)=>enc (nh l m&&(kb l []).getD false)) (Tp λ_=>rfl) (aJX l m h b)
attribute [go_sem ↓ 2000] aKf
theorem Hc(h:nh l m=true):(l.length:Int)<=m/\∀r∈l,jt r.head<=20/\r.body.length<=8/\∀x∈r.body,jt x.atom<=20:=by
 simp only[nh,aLi,decide_eq_true_eq,aLe,p5]at h;exact⟨h.1,λr b=>⟨TF am (h.2 r b).1.1,(h.2 r b).1.2,λx ah=>TF am ((h.2 r b).2 x ah)⟩⟩
theorem aKg(h:nh l m=true):∀r∈l,∀a∈dx r,cc a<=1000000:=λr b a aG=>by
 obtain⟨c,_,d⟩:=(Hc h).2 r b;simp only[dx,List.mem_cons,List.mem_map]at aG;rcases aG with rfl|⟨x,ah,rfl⟩
 ·have:=Lu 20 _ c;omega
 ·have:=Lu 20 _ (d x ah);omega
theorem alj(h:qI 60 g=true):g.length<=60/\∀a∈g,jt a<=60:=by
 simp only[qI,aLi,decide_eq_true_eq,aLe]at h;exact⟨am,λa aG=>TF am (h.2 a aG)⟩
open Enc (enc)
noncomputable def TP:List iZ:=[(17,eh λ(l:List I)=>enc (fx l))]
noncomputable def y9:bj:=ij oF (e1 TP)
instance aPj{D:bj}[h:bt D y9]:bt D oF:=h.ke
def TQ:List Nat:=[17]++TN
theorem alk:fq y9 TQ:=fq.or ali (kf TP)
theorem aKm(h:∀xs,e1 TP f xs=F xs)(hk:TN.contains f=false:=by rfl):∀xs,y9 f xs=F xs:=λxs=>by rw[<-h];exact kg ali hk
def Bb(L:List I):AV:=match L with
 |[]=>.aS 2|x::r=>enc (x::r)
variable {L:List I}
theorem DM(h:L≠[]):Bb L=.list none 2 (L.map I.enc):=by
 cases L with
 |nil=>exact absurd rfl h|cons x r=>rfl
theorem alm(cE:jo L)(hk:k<=gh L t)(h:k<L.length->¬b6 L[k]! t<0):k=gh L t:=by
 obtain⟨c,b,d⟩:=Ke cE t;by_cases e:k=gh L t
 ·exact e
 ·exact absurd (b k am) (h am)
theorem aKn(ar:k=gh L t)(hk:k<L.length)(b:b6 L[k]! t=0):j4 L t=L:=by
 have ah:L[gh L t]?=some L[k]!:=by rw[<-ar,List.getElem?_eq_getElem hk,getElem!_pos L k hk]
 simp only[j4,ah,b,if_true]
theorem TR(ar:k=gh L t)(h:k<L.length->b6 L[k]! t≠0):j4 L t=L.take k++t::L.drop k:=by
 rcases aKS k L.length with hk|hk
 ·have ah:L[gh L t]?=some L[k]!:=by rw[<-ar,List.getElem?_eq_getElem hk,getElem!_pos L k hk]
  unfold j4;rw[ah];simp only[if_neg (h hk),<-ar]
 ·have ah:L[gh L t]?=none:=List.getElem?_eq_none am;unfold j4;rw[ah];simp only[<-ar]
theorem aKo(l:List I):aA ν aD 17 [enc l] (enc (fx l)):=by
 refine aA.h4 λae=>?_;obtain⟨ae,_⟩:=ae;have O:M=1099511627776:=rfl;refine aA.gK (D:=y9) ap1 cX c7 (by exact Enc.iI _) ?_;unfold TX;refine ag ?_;refine bQ (λi:Nat=>⟨N [(0,.v (enc l)),(3,.v (Bb (fx (l.take i)))),(8,.v (enc l.length)),(9,.v (enc i))],[]⟩) (λi=>i<=l.length) (λi=>l.length-i) 0 (aKU _) (Ir @aKR.{0} (show Bb (fx [])=.aS 2 from rfl)) ?_;intro i al;rcases aKS i l.length with h|h
 ·obtain⟨L,cf⟩:∃L,L=fx (l.take i):=⟨_,rfl⟩;have P:L.length<=i:=by have:=Kf (l.take i);rw[aK4]at this;rw[cf];omega
  have ax:fx (l.take i++[l[i]!])=j4 L l[i]!:=by rw[fx,afZ,<-fx,cf]
  have cE:jo L:=cf▸wZ _;obtain⟨z,Q,B⟩:=Ke cE l[i]!;rw[<-cf];refine ag ?_;refine bQ (λk:Nat=>⟨N [(0,.v (enc l)),(3,.v (Bb L)),(4,.v (enc i)),(5,.v (enc k)),(8,.v (enc l.length)),(9,.v (enc i))],[]⟩) (λk=>k<=gh L l[i]!) (λk=>gh L l[i]!-k) 0 (aKU _) ew ?_;intro k hk;have C:i<M:=by omega
  cases b:L.isEmpty with
  |true =>
   have c:L=[]:=by simpa using b
   subst c;have E:=TR (L:=[]) (t:=l[i]!) (k:=0) (by simp[gh,lH]) (λh=>f9);have G:k=0:=by simp only[aK6]at z;omega
   subst G;rw[show Bb []=.aS 2 from rfl];refine ag ?_;exact⟨i+1,am,am,by(first|rfl|(simp(disch:=first|exact aX|fail) only[b7,aKX,aKY,Env.ins,cp,cq,cr,ct,cu,cv,cw,cx,I.b0,aKQ,aKZ,aK0,aK1,aKR,bL,aKV,aKT,aKW,cy,cz,go_sem,ax,E,Bb,List.take_nil,List.drop_nil,List.nil_append];try rfl))⟩
  |false =>
   have c:L≠[]:=by simpa using b
   rw[DM c];have d:List.drop k (List.take L.length (L.map I.enc))=(L.drop k).map I.enc:=by rw[List.take_of_length_le be,List.map_drop]
   have e:(List.take k (L.map I.enc)).length+1<=M:=by simp only[aK4,aKQ];omega
   have j:(List.take k (L.map I.enc)++[l[i]!.enc]).length+(L.drop k).length<=M:=by simp only[aK2,aK4,aKQ,aK5,aK6,List.length_drop];omega
   have n:List.take k (L.map I.enc)++[l[i]!.enc]++(L.drop k).map I.enc=List.map I.enc (L.take k++l[i]!::L.drop k):=by simp
   rcases aKS k L.length with v|v
   ·rcases Int.lt_or_le (b6 L[k]! l[i]!) 0 with w|w
    ·have o:k<gh L l[i]!:=by
      rcases aKS k (gh L l[i]!)with q|q
      ·exact q
      ·exact absurd w (B k q v)
     refine bU @w ?_;exact⟨k+1,am,am,by(exact qn (DM c))⟩
    ·have o:=alm cE hk (λ_=>am);have y:decide (b6 L[k]! l[i]! < 0)=false:=decide_eq_false am;by_cases u:b6 L[k]! l[i]! = 0
     ·have p:=aKn o v u;refine gS @y @u ?_;exact⟨i+1,am,am,by(exact B4 @ax @p (DM c))⟩
     ·have p:=TR o (λ_=>u);have cG:L.take k++l[i]!::L.drop k≠[]:=by simp
      refine rp @y @u @d @e @j ?_;exact⟨i+1,am,am,by(exact zN @ax @p (DM cG) @n)⟩
   ·have o:=alm cE hk (λ_=>am);have J:k=L.length:=by omega
    have p:=TR o (λ_=>am);have cG:L.take k++l[i]!::L.drop k≠[]:=by simp
    refine iv @d @e @j ?_;exact⟨i+1,am,am,by(exact zN @ax @p (DM cG) @n)⟩
 ·obtain rfl:i=l.length:=by omega
  rw[aK9];cases ds:fx l with
  |nil =>
   rw[show Bb []=.aS 2 from rfl];refine ag ?_;exact⟨_,rfl,bx.aS 2⟩
  |cons x r =>
   rw[DM be];refine ag ?_;exact⟨_,rfl,bx.refl _⟩
open Enc (enc)
def za:Option I->AV
 |some u=>.bg [enc u,.bool true]|none=>.bg [.agg [.str [],.list none 2 []],.bool false]
noncomputable def TT:List iZ:=[(137,eh λ(s:ak)=>enc ((fw s).isSome)),
 (179,eh λ(t:I)=>enc (decide (t.args.length=0)&&(dM t.name||(fw t.name).isSome))),
 (180,eh λ(t:I)=>enc (eJ t)),
 (133,qF λ(t:I)(n:Int)(g:Bool)=>enc (cD n.toNat t (!g))),
 (92,eh λ(t:I)=>enc (cD 4 t false)),
 (132,eh λ(t:I)=>enc (cD 4 t true)),
 (134,eh λ(t:I)=>enc (eJ t)),
 (135,hj λ(s:List aY)(v:ak)=>za (jr s v))]
noncomputable def fR:bj:=ij y9 (e1 TT)
instance aPn{D:bj}[h:bt D fR]:bt D y9:=h.ke
def TU:List Nat:=[137,179,180,133,92,132,134,135]++TQ
theorem aly:fq fR TU:=fq.or alk (kf TT)
theorem rX(h:∀xs,e1 TT f xs=F xs)(hk:TQ.contains f=false:=by rfl):∀xs,fR f xs=F xs:=λxs=>by rw[<-h];exact kg alk hk
variable {x3:AV}{n:Int}
theorem aKv[bt D fR]{g:Bool}[aT x1 t][aT x2 n][aT x3 g](h:aA ν aD 133 [enc t,enc n,enc g] (enc (cD n.toNat t (!g)))):b1 ν aD D 133 [x1,x2,x3] K tg=K (enc (cD n.toNat t (!g))):=u2 (D':=fR) (F:=λ(t:I)(n:Int)(g:Bool)=>enc (cD n.toNat t (!g))) (rX λ_=>rfl) h
theorem DO(n:Nat):((n:Int)==0)=decide (n=0):=by rw[aLc];simp
theorem aKy[bt D fR]{s:ak}[aT x1 s]  :b1 ν aD D 137 [x1] K tg=K (enc ((fw s).isSome)):=ec (D':=fR) (F:=λ(s:ak)=>enc ((fw s).isSome)) (rX λ_=>rfl) (afV s)
attribute [go_sem ↓ 2000] aKy
theorem aKz(t:I):aA ν aD 179 [enc t] (enc (decide (t.args.length=0)&&(dM t.name||(fw t.name).isSome))):=by
 have b:=DO t.args.length;refine aA.intro (D:=fR) afs cX c7 ?_;unfold ad2;simp(disch:=first|exact ai|fail) only[go_sem];cases c:decide (t.args.length=0)<;>cases d:dM t.name<;>cases e:(fw t.name).isSome;all_goals (repeat' first|simp(disch:=first|exact ai|fail) only[go_sem,b,c,d,e]|(refine ao ?_ ?_<;>intro))
 all_goals rfl
theorem aKA[bt D fR][aT x1 t]  :b1 ν aD D 179 [x1] K tg=K (enc (decide (t.args.length=0)&&(dM t.name||(fw t.name).isSome))):=ec (D':=fR) (F:=λ(t:I)=>enc (decide (t.args.length=0)&&(dM t.name||(fw t.name).isSome))) (rX λ_=>rfl) (aKz t)
attribute [go_sem ↓ 2000] aKA
theorem zb(t:I):eJ t=(decide (t.args.length=0)&&eg t.name):=by
 unfold eJ;cases h:t.args with
 |nil=>simp|cons x r=>simp
theorem aKB(t:I):aA ν aD 180 [enc t] (enc (eJ t)):=by
 have b:=DO t.args.length;rw[zb];refine aA.intro (D:=fR) azU cX c7 ?_;unfold ad5;simp(disch:=first|exact ai|fail) only[go_sem];cases c:decide (t.args.length=0)<;>cases d:eg t.name;all_goals (repeat' first|simp(disch:=first|exact ai|fail) only[go_sem,b,c,d]|(refine ao ?_ ?_<;>intro))
 all_goals rfl
theorem aKC[bt D fR][aT x1 t]  :b1 ν aD D 180 [x1] K tg=K (enc (eJ t)):=ec (D':=fR) (F:=λ(t:I)=>enc (eJ t)) (rX λ_=>rfl) (aKB t)
attribute [go_sem ↓ 2000] aKC
theorem aKD(t:I):aA ν aD 134 [enc t] (enc (eJ t)):=by
 have b:=DO t.args.length;rw[zb];refine aA.intro (D:=fR) azo cX c7 ?_;unfold acE;simp(disch:=first|exact ai|fail) only[go_sem];cases c:decide (t.args.length=0)<;>cases d:eg t.name;all_goals (repeat' first|simp(disch:=first|exact ai|fail) only[go_sem,b,c,d]|(refine ao ?_ ?_<;>intro))
 all_goals rfl
theorem aKE[bt D fR][aT x1 t]  :b1 ν aD D 134 [x1] K tg=K (enc (eJ t)):=ec (D':=fR) (F:=λ(t:I)=>enc (eJ t)) (rX λ_=>rfl) (aKD t)
attribute [go_sem ↓ 2000] aKE
theorem aKF:∀(t:I)(n:Int)(g:Bool),0<=n/\n<=100->aA ν aD 133 [enc t,enc n,enc g] (enc (cD n.toNat t (!g))):=I.ind λt ih n g z=>by
 refine aA.h4 λae=>?_;obtain⟨_,ae,_⟩:=(I.j5 t).1 ae;have B:M=1099511627776:=rfl;obtain⟨m,rfl⟩:∃m:Nat,n=m:=⟨n.toNat,am⟩;rw[Int.toNat_natCast];have r:=DO t.args.length;cases m with
 |zero =>
  refine aA.intro (D:=fR) azn cX c7 ?_;unfold acC;simp(disch:=first|exact ai|fail) only[go_sem]
  (repeat' first|simp(disch:=first|exact ai|fail) only[go_sem]|(refine ao ?_ ?_<;>intro))
  all_goals rfl
 |succ m =>
  rw[xb];have hm:decide (((m+1:Nat):Int)<1)=false:=decide_eq_false am;by_cases c:t.args.length=0
  ·have w:eJ t=eg t.name:=by rw[zb,c];rfl
   have e:decide (t.args.length<=4)=true:=decide_eq_true am;have al:((t.args.length:Int)==0)=true:=by rw[r];simp[c]
   have o:decide (t.args.length=0)=true:=decide_eq_true c;rw[if_pos c,e];refine aA.intro (D:=fR) azn cX c7 ?_;unfold acC;simp(disch:=first|exact ai|fail) only[go_sem];cases d:dM t.name<;>cases x:(fw t.name).isSome<;>cases y:eg t.name<;>cases g;all_goals (repeat' first|simp(disch:=first|exact ai|fail) only[go_sem,hm,al,o,w,d,x,y]|(refine ao ?_ ?_<;>intro))
   all_goals rfl
  ·have al:((t.args.length:Int)==0)=false:=by rw[r];simp[c]
   rw[if_neg c];cases d:dM t.name with
   |false =>
    rw[Bool.and_false,Bool.and_false];refine aA.intro (D:=fR) azn cX c7 ?_;unfold acC;simp(disch:=first|exact ai|fail) only[go_sem]
    (repeat' first|simp(disch:=first|exact ai|fail) only[go_sem,hm,al,d]|(refine ao ?_ ?_<;>intro))
    all_goals rfl
   |true =>
    rw[Bool.and_true];by_cases e:t.args.length<=4
    ·rw[decide_eq_true e,aK8];have p:decide ((t.args.length:Int)>4)=false:=decide_eq_false am;have v:(m:Int)+1-1=(m:Int):=by omega
     refine aA.intro (D:=fR) azn cX c7 ?_;unfold acC;simp(disch:=first|exact ai|fail) only[go_sem]
     (repeat' first|simp(disch:=first|exact ai|fail) only[go_sem,hm,al,d,p]|(refine ao ?_ ?_<;>intro))
     refine bQ (λi:Nat=>⟨N [(1,.v (enc ((m+1:Nat):Int))),(2,.v (.bool g)),(3,.v (.cL t.enc.cells)),(36,.v (enc t.args.length)),(37,.v (enc i))],[]⟩)
      (λi=>i<=t.args.length/\(t.args.drop i).all (λu=>cD m u (!g))=t.args.all (λu=>cD m u (!g))) (λi=>t.args.length-i) 0 ⟨aKU _,rfl⟩ ci ?_
     rintro i ⟨C,b⟩;rcases aKS i t.args.length with h|h
     ·have hd:=ih t.args[i]! (ek h) (m:Int) g am;have q:=λ{K:AV->Prop}{tg:aN K}(E:i<t.args.length)=>aKv (D:=fR) (K:=K) (tg:=tg) (x1:=t.args[i]!.enc) (x2:=.int .i64 (m:Int)) (x3:=.bool g) (hd);rw[fi h,aLh]at b;simp only[Int.toNat_natCast]at q;cases j:cD m t.args[i]! (!g)with
      |true =>
       rw[j,aK8]at b
       (repeat' first|simp(disch:=first|exact ai|fail) only[go_sem,q,v,j]|(refine ao ?_ ?_<;>intro))
       exact⟨i+1,⟨am,b⟩,am,co⟩
      |false =>
       rw[j,aK7]at b;rw[<-b]
       (repeat' first|simp(disch:=first|exact ai|fail) only[go_sem,q,v,j]|(refine ao ?_ ?_<;>intro))
       all_goals rfl
     ·rw[aK3 h]at b;rw[<-b]
      (repeat' first|simp(disch:=first|exact ai|fail) only[go_sem]|(refine ao ?_ ?_<;>intro))
      all_goals rfl
    ·rw[decide_eq_false e,aK7];have p:decide ((t.args.length:Int)>4)=true:=decide_eq_true am;refine aA.intro (D:=fR) azn cX c7 ?_;unfold acC;simp(disch:=first|exact ai|fail) only[go_sem]
     (repeat' first|simp(disch:=first|exact ai|fail) only[go_sem,hm,al,d,p]|(refine ao ?_ ?_<;>intro))
     all_goals rfl
theorem aKH[bt D fR]{g:Bool}[aT x1 t][aT x2 n][aT x3 g](h:0<=n/\n<=100) :b1 ν aD D 133 [x1,x2,x3] K tg=K (enc (cD n.toNat t (!g))):=u2 (D':=fR) (F:=λ(t:I)(n:Int)(g:Bool)=>enc (cD n.toNat t (!g))) (rX λ_=>rfl) (aKF t n g h)
attribute [go_sem ↓ 2000] aKH
theorem aKI(t:I):aA ν aD 92 [enc t] (enc (cD 4 t false)):=by
 refine aA.intro (D:=fR) afh cX c7 ?_;unfold Pp;simp(disch:=first|exact ai|fail) only[go_sem]
 (repeat' first|simp(disch:=first|exact ai|fail) only[go_sem,show(4:Int).toNat=4 from rfl]|(refine ao ?_ ?_<;>intro))
 all_goals rfl
theorem aKJ[bt D fR][aT x1 t]  :b1 ν aD D 92 [x1] K tg=K (enc (cD 4 t false)):=ec (D':=fR) (F:=λ(t:I)=>enc (cD 4 t false)) (rX λ_=>rfl) (aKI t)
attribute [go_sem ↓ 2000] aKJ
theorem awd(t:I):aA ν aD 132 [enc t] (enc (cD 4 t true)):=by
 refine aA.intro (D:=fR) azm cX c7 ?_;unfold acB;simp(disch:=first|exact ai|fail) only[go_sem]
 (repeat' first|simp(disch:=first|exact ai|fail) only[go_sem,show(4:Int).toNat=4 from rfl]|(refine ao ?_ ?_<;>intro))
 all_goals rfl
theorem awe[bt D fR][aT x1 t]  :b1 ν aD D 132 [x1] K tg=K (enc (cD 4 t true)):=ec (D':=fR) (F:=λ(t:I)=>enc (cD 4 t true)) (rX λ_=>rfl) (awd t)
attribute [go_sem ↓ 2000] awe
theorem aKK(s:List aY)(v:ak):aA ν aD 135 [enc s,enc v] (za (jr s v)):=by
 refine aA.h4 λae=>?_;obtain⟨ae,_⟩:=ae;have e:M=1099511627776:=rfl;obtain⟨R,de⟩:∃R,R=jr s v:=⟨_,rfl⟩;rw[<-de];refine aA.gK (D:=fR) azp (by simp only[aLh,List.all_nil,Enc.arg,Bool.and_self]) (by rcases R with _|⟨n,l⟩<;>rfl) (λ_ _ _ h=>by cases R<;>cases h) ?_;unfold acG
 (repeat' first|simp(disch:=first|exact ai|fail) only[go_sem]|(refine ao ?_ ?_<;>intro))
 refine bQ (λi:Nat=>⟨N [(0,.v (enc s)),(1,.v (.str v)),(4,.b [.str [],.aS 2]),(6,.v (enc i))],[]⟩)
  (λi=>i<=s.length/\jr (s.drop i) v=R) (λi=>s.length-i) 0 ⟨aKU _,de.symm⟩ ci ?_
 rintro i ⟨j,b⟩;rcases aKS i s.length with h|h
 ·rw[S3 h]at b;cases c:s[i]!.var==v with
  |true =>
   rw[c,if_pos rfl]at b;rw[<-b]
   (repeat' first|simp(disch:=first|exact ai|fail) only[go_sem,c]|(refine ao ?_ ?_<;>intro))
   exact⟨_,rfl,bx.refl _⟩
  |false =>
   rw[c,if_neg be]at b
   (repeat' first|simp(disch:=first|exact ai|fail) only[go_sem,c]|(refine ao ?_ ?_<;>intro))
   exact⟨i+1,⟨am,b⟩,am,co⟩
 ·rw[aK3 h]at b;have d:R=none:=b.symm;rw[d]
  (repeat' first|simp(disch:=first|exact ai|fail) only[go_sem]|(refine ao ?_ ?_<;>intro))
  exact⟨_,rfl,bx.bg (.cons (bx.agg (.cons (bx.refl _) (.cons (bx.aS _) .nil))) (.cons (bx.refl _) .nil))⟩
theorem aKL[bt D fR]{v:ak}[aT x1 s][aT x2 v]  :b1 ν aD D 135 [x1,x2] K tg=K (za (jr s v)):=ik (D':=fR) (F:=λ(s:List aY)(v:ak)=>za (jr s v)) (rX λ_=>rfl) (aKK s v)
attribute [go_sem ↓ 2000] aKL
open Enc (enc)
def gr(l:List I)(s:ak):List I:=l.filter λa=>a.name==s
def gU(l:List I)(p:I):List I:=l.filter λa=>(sU p a).2
theorem Ag{α:Type}[Inhabited α]{l:List α}{i:Nat}(h:i<l.length)(q:α->Bool):(l.take (i+1)).filter q=(l.take i).filter q++if q l[i]! then[l[i]!]else[]:=by
 rw[bL h,List.filter_append];cases b:q l[i]! with
 |true=>rw[List.filter_cons_of_pos b,List.filter_nil,if_pos rfl]|false=>rw[List.filter_cons_of_neg (by rw[b];simp),List.filter_nil,if_neg be]
noncomputable def JC:List iZ:=[(72,eh λ(l:List I)=>enc (l)),
 (38,eh λ(l:List aU)=>enc (l)),
 (44,hj λ(l:List I)(s:ak)=>enc (gr l s)),
 (43,hj λ(l:List I)(m:List I)=>enc (fh l m==0)),
 (48,hj λ(l:List I)(p:I)=>enc (gU l p))]
noncomputable def e6:bj:=ij fR (e1 JC)
instance aJf{D:bj}[h:bt D e6]:bt D fR:=h.ke
def JD:List Nat:=[72,38,44,43,48]++TU
theorem ab5:fq e6 JD:=fq.or aly (kf JC)
theorem wL(h:∀xs,e1 JC f xs=F xs)(hk:TU.contains f=false:=by rfl):∀xs,e6 f xs=F xs:=λxs=>by rw[<-h];exact kg aly hk
variable {l:List I}
theorem awg[bt D e6][aT x1 l](h:aA ν aD 72 [enc l] (enc (l))):b1 ν aD D 72 [x1] K tg=K (enc (l)):=ec (D':=e6) (F:=λ(l:List I)=>enc (l)) (wL λ_=>rfl) h
theorem aca(l:List I)(ih:∀t∈l,aA ν aD 72 [enc t.args] (enc t.args)):aA ν aD 72 [enc l] (enc l):=by
 refine aA.h4 λb=>?_;have e:M=1099511627776:=rfl;have b:l.length<=M:=b.1;refine aA.gK (D:=e6) V5 cX (Enc.res _) (Enc.iI _) ?_;unfold uX
 (repeat' first|simp(disch:=first|exact ai|fail) only[go_sem]|(refine ao ?_ ?_<;>intro))
 refine bQ (λi:Nat=>⟨N [(3,.v (.list (some 25) 2 ((l.take i).map I.enc))),(6,.v (enc l)),(7,.v (enc l.length)),(8,.v (enc i))],[]⟩) (λi=>i<=l.length) (λi=>l.length-i) 0 (aKU _) (by(try simp(disch:=first|exact ai|fail) only[go_sem])<;>(first|rfl|(simp(disch:=first|exact aX|fail) only[b7,aKX,aKY,Env.ins,cp,cq,cr,ct,cu,cv,cw,cx,I.b0,aKQ,aKZ,aK0,aK1,aKR,bL,aKV,aKT,aKW,cy,cz,go_sem,aKR];try rfl))) ?_;intro i al;rcases aKS i l.length with h|h
 ·have j:(l.take i).length=i:=by rw[aK4];omega
  have c:=λ{K:AV->Prop}{tg:aN K}(d:i<l.length)=>awg (D:=e6) (K:=K) (tg:=tg) (x1:=.list none 2 (l[i]!.args.map I.enc)) (ih l[i]! (ek d))
  (repeat' first|simp(disch:=first|exact ai|fail) only[go_sem,c]|(refine ao ?_ ?_<;>intro))
  exact⟨i+1,am,am,co⟩
 ·obtain rfl:i=l.length:=by omega
  rw[aK9]
  (repeat' first|simp(disch:=first|exact ai|fail) only[go_sem]|(refine ao ?_ ?_<;>intro))
  exact⟨_,rfl,el⟩
theorem awk(l:List I):aA ν aD 72 [enc l] (enc l):=by
 have key:∀t:I,aA ν aD 72 [enc t.args] (enc t.args):=I.ind λt ih=>aca t.args ih;exact aca l λt _=>key t
theorem awm[bt D e6][aT x1 l]  :b1 ν aD D 72 [x1] K tg=K (enc (l)):=ec (D':=e6) (F:=λ(l:List I)=>enc (l)) (wL λ_=>rfl) (awk l)
attribute [go_sem ↓ 2000] awm
theorem awo(l:List I)(s:ak):aA ν aD 44 [enc l,enc s] (enc (gr l s)):=by
 refine aA.sy λc _=>?_;have e:M=1099511627776:=rfl;have c:l.length<=M:=c.1;refine aA.gK (D:=e6) ae6 cX (Enc.res _) (Enc.iI _) ?_;unfold Pd
 (repeat' first|simp(disch:=first|exact ai|fail) only[go_sem]|(refine ao ?_ ?_<;>intro))
 refine bQ (λi:Nat=>⟨N [(1,.v (enc s)),(5,.v (.list (some 25) 2 ((gr (l.take i) s).map I.enc))),(8,.v (enc l)),(9,.v (enc l.length)),(10,.v (enc i))],[]⟩) (λi=>i<=l.length) (λi=>l.length-i) 0 (aKU _) (by(try simp(disch:=first|exact ai|fail) only[go_sem])<;>(first|rfl|(simp(disch:=first|exact aX|fail) only[b7,aKX,aKY,Env.ins,cp,cq,cr,ct,cu,cv,cw,cx,I.b0,aKQ,aKZ,aK0,aK1,aKR,bL,aKV,aKT,aKW,cy,cz,go_sem,aKR,gr];try rfl))) ?_;intro i al;rcases aKS i l.length with h|h
 ·have d:(gr (l.take i) s).length<=i:=by
   have:=List.length_filter_le (λa:I=>a.name==s) (l.take i);rw[aK4]at this;unfold gr;omega
  have ax:gr (l.take (i+1)) s=gr (l.take i) s++if l[i]!.name==s then[l[i]!]else[]:=Ag h _;rw[bL h]at ax;obtain⟨X,bA⟩:∃X,X=gr (l.take i) s:=⟨_,rfl⟩;rw[<-bA]at d ax ⊢;cases b:l[i]!.name==s with
  |true =>
   rw[b,if_pos rfl]at ax
   (repeat' first|simp(disch:=first|exact ai|fail) only[go_sem,b]|(refine ao ?_ ?_<;>intro))
   exact⟨i+1,am,am,by(first|rfl|(simp(disch:=first|exact aX|fail) only[b7,aKX,aKY,Env.ins,cp,cq,cr,ct,cu,cv,cw,cx,I.b0,aKQ,aKZ,aK0,aK1,aKR,bL,aKV,aKT,aKW,cy,cz,go_sem,ax];try rfl))⟩
  |false =>
   rw[b,if_neg be,aLf]at ax
   (repeat' first|simp(disch:=first|exact ai|fail) only[go_sem,b]|(refine ao ?_ ?_<;>intro))
   exact⟨i+1,am,am,by(first|rfl|(simp(disch:=first|exact aX|fail) only[b7,aKX,aKY,Env.ins,cp,cq,cr,ct,cu,cv,cw,cx,I.b0,aKQ,aKZ,aK0,aK1,aKR,bL,aKV,aKT,aKW,cy,cz,go_sem,ax];try rfl))⟩
 ·obtain rfl:i=l.length:=by omega
  rw[aK9]
  (repeat' first|simp(disch:=first|exact ai|fail) only[go_sem]|(refine ao ?_ ?_<;>intro))
  exact⟨_,rfl,el⟩
theorem awp[bt D e6]{s:ak}[aT x1 l][aT x2 s]  :b1 ν aD D 44 [x1,x2] K tg=K (enc (gr l s)):=ik (D':=e6) (F:=λ(l:List I)(s:ak)=>enc (gr l s)) (wL λ_=>rfl) (awo l s)
attribute [go_sem ↓ 2000] awp
theorem awr(l m:List I)(h:l.length<=M/\m.length<=M):aA ν aD 43 [enc l,enc m] (enc (fh l m==0)):=by
 refine aA.intro (D:=e6) ayr cX c7 ?_;unfold ZA;simp(disch:=first|exact ai|fail) only[go_sem]
 (repeat' first|simp(disch:=first|exact ai|fail) only[go_sem]|(refine ao ?_ ?_<;>intro))
 all_goals rfl
theorem aws[bt D e6]{m:List I}[aT x1 l][aT x2 m](h:l.length<=M/\m.length<=M) :b1 ν aD D 43 [x1,x2] K tg=K (enc (fh l m==0)):=ik (D':=e6) (F:=λ(l:List I)(m:List I)=>enc (fh l m==0)) (wL λ_=>rfl) (awr l m h)
attribute [go_sem ↓ 2000] aws
theorem awu(l:List I)(p:I)(ar:dI p<=M):aA ν aD 48 [enc l,enc p] (enc (gU l p)):=by
 refine aA.sy λc _=>?_;have e:M=1099511627776:=rfl;have c:l.length<=M:=c.1;refine aA.gK (D:=e6) ayu cX (Enc.res _) (Enc.iI _) ?_;unfold ZJ
 (repeat' first|simp(disch:=first|exact ai|fail) only[go_sem]|(refine ao ?_ ?_<;>intro))
 refine bQ (λi:Nat=>⟨N [(3,.v (.cL p.enc.cells)),(5,.v (.list (some 25) 2 ((gU (l.take i) p).map I.enc))),(10,.v (enc l)),(11,.v (enc l.length)),(12,.v (enc i))],[]⟩) (λi=>i<=l.length) (λi=>l.length-i) 0 (aKU _) (by(try simp(disch:=first|exact ai|fail) only[go_sem])<;>(first|rfl|(simp(disch:=first|exact aX|fail) only[b7,aKX,aKY,Env.ins,cp,cq,cr,ct,cu,cv,cw,cx,I.b0,aKQ,aKZ,aK0,aK1,aKR,bL,aKV,aKT,aKW,cy,cz,go_sem,aKR,gU];try rfl))) ?_;intro i al;rcases aKS i l.length with h|h
 ·have d:(gU (l.take i) p).length<=i:=by
   have:=List.length_filter_le (λa=>(sU p a).2) (l.take i);rw[aK4]at this;unfold gU;omega
  have ax:gU (l.take (i+1)) p=gU (l.take i) p++if(sU p l[i]!).2 then[l[i]!]else[]:=Ag h _;rw[bL h]at ax;obtain⟨X,bA⟩:∃X,X=gU (l.take i) p:=⟨_,rfl⟩;rw[<-bA]at d ax ⊢;obtain⟨⟨R,b⟩,de⟩:∃R,R=sU p l[i]!:=⟨_,rfl⟩;have hm:DQ (sU p l[i]!)=.bg [.list none 3 (R.map aY.enc),.bool b]:=by rw[<-de];rfl
  rw[<-de]at ax;cases b with
  |true =>
   rw[if_pos rfl]at ax
   (repeat' first|simp(disch:=first|exact ai|fail) only[go_sem,hm]|(refine ao ?_ ?_<;>intro))
   exact⟨i+1,am,am,by(first|rfl|(simp(disch:=first|exact aX|fail) only[b7,aKX,aKY,Env.ins,cp,cq,cr,ct,cu,cv,cw,cx,I.b0,aKQ,aKZ,aK0,aK1,aKR,bL,aKV,aKT,aKW,cy,cz,go_sem,ax];try rfl))⟩
  |false =>
   rw[if_neg be,aLf]at ax
   (repeat' first|simp(disch:=first|exact ai|fail) only[go_sem,hm]|(refine ao ?_ ?_<;>intro))
   exact⟨i+1,am,am,by(first|rfl|(simp(disch:=first|exact aX|fail) only[b7,aKX,aKY,Env.ins,cp,cq,cr,ct,cu,cv,cw,cx,I.b0,aKQ,aKZ,aK0,aK1,aKR,bL,aKV,aKT,aKW,cy,cz,go_sem,ax];try rfl))⟩
 ·obtain rfl:i=l.length:=by omega
  rw[aK9]
  (repeat' first|simp(disch:=first|exact ai|fail) only[go_sem]|(refine ao ?_ ?_<;>intro))
  exact⟨_,rfl,el⟩
theorem awv[bt D e6]{p:I}[aT x1 l][aT x2 p](h:dI p<=M) :b1 ν aD D 48 [x1,x2] K tg=K (enc (gU l p)):=ik (D':=e6) (F:=λ(l:List I)(p:I)=>enc (gU l p)) (wL λ_=>rfl) (awu l p h)
attribute [go_sem ↓ 2000] awv
open Enc (enc)
def mh(o:Option Nat)(B:List Lit):AV:=if B=[]then .aS 3 else .list o 3 (B.map Lit.enc)
theorem acK(o:Option Nat):mh o []=.aS 3:=rfl
theorem acN{o:Option Nat}{B:List Lit}(h:B≠[]):mh o B=.list o 3 (B.map Lit.enc):=if_neg h
def oo(r:aU):AV:=.agg [.str r.head.name,.list none 2 (r.head.args.map I.enc),mh none r.body]
def Ft(e:Nat)(r:aU):ay:=.cells [.str r.head.name,.list none 2 (r.head.args.map I.enc),mh (some e) r.body]
instance aT.oo(r:aU):aT (oo r) r:=by
 obtain⟨⟨n,a⟩,B⟩:=r;unfold AM.oo mh;simp only;split
 ·rename_i h;subst h;exact inferInstance
 ·exact inferInstance
theorem hD.oo(l:List aU):hD (l.map oo) l:=by
 induction l with
 |nil=>exact hD.nil|cons r l ih=>exact @hD.cons _ _ _ _ _ _ (aT.oo r) ih
theorem aww(e:Nat)(B:List Lit):(mh (some e) B).a1=mh none B:=by
 unfold mh;split<;>rfl
theorem awx(l:List aU):aA ν aD 38 [enc l] (enc l):=by
 refine aA.h4 λw=>?_;have R:M=1099511627776:=rfl;obtain⟨w,o⟩:=w;refine aA.gK (D:=e6) aym cX (Enc.res _) (Enc.iI _) ?_;unfold Zq
 (repeat' first|simp(disch:=first|exact ai|fail) only[go_sem]|(refine ao ?_ ?_<;>intro))
 refine bQ (λi:Nat=>⟨N [(3,.v (.list (some 61) 3 ((l.take i).map oo))),(9,.v (enc l)),(10,.v (enc l.length)),(11,.v (enc i))],(l.take i).map (Ft 63)⟩) (λi=>i<=l.length) (λi=>l.length-i) 0 (aKU _) (by(try simp(disch:=first|exact ai|fail) only[go_sem])<;>(first|rfl|(simp(disch:=first|exact aX|fail) only[b7,aKX,aKY,Env.ins,cp,cq,cr,ct,cu,cv,cw,cx,I.b0,aKQ,aKZ,aK0,aK1,aKR,bL,aKV,aKT,aKW,cy,cz,go_sem,aKR];try rfl))) ?_;intro i al;rcases aKS i l.length with h|h
 ·obtain⟨X,bA⟩:∃X,X=(l.take i).map (Ft 63):=⟨_,rfl⟩;have d:X.length=i:=by rw[bA,aKQ,aK4];omega
  obtain⟨Z,p⟩:∃Z,Z=(l.take i).map oo:=⟨_,rfl⟩;have y:Z.length=i:=by rw[p,aKQ,aK4];omega
  obtain⟨B,fN⟩:∃B,B=l[i]!.body:=⟨_,rfl⟩;obtain⟨hd,b⟩:∃hd,hd=l[i]!.head:=⟨_,rfl⟩;have z:B.length<=M:=by rw[fN];exact((aU.aqm _).1 (o _ (ek h))).2.2.1
  have q:∀{t:I},([t]:List I)[0]! = t:=rfl;have T:∀{t:I},([t]:List I).length=1:=rfl;rw[<-bA,<-p]
  (repeat' first|simp(disch:=first|exact ai|fail) only[go_sem,<-fN,<-b,d,q]|(refine ao ?_ ?_<;>intro))
  refine bQ (λj:Nat=>⟨N [(3,.v (.list (some 61) 3 Z)),(6,.v (.ptr i 0)),(9,.v (enc l)),(10,.v (enc l.length)),(11,.v (enc i)),(23,.v (enc B)),(24,.v (enc B.length)),(25,.v (enc j))],X++[.cells [.str hd.name,.list none 2 (hd.args.map I.enc),mh (some 63) (B.take j)]]⟩) (λj=>j<=B.length) (λj=>B.length-j) 0 (aKU _) (by(try simp(disch:=first|exact ai|fail) only[go_sem])<;>(first|rfl|(simp(disch:=first|exact aX|fail) only[b7,aKX,aKY,Env.ins,cp,cq,cr,ct,cu,cv,cw,cx,I.b0,aKQ,aKZ,aK0,aK1,aKR,bL,aKV,aKT,aKW,cy,cz,go_sem,aKR,acK];try rfl))) ?_;intro j V;rcases aKS j B.length with C|C
  ·have r:mh (some 63) (B.take j++[B[j]!])=.list (some 63) 3 ((B.take j).map Lit.enc++[B[j]!.enc]):=by
    rw[acN be,aKV];rfl
   have c:(B.take j).length=j:=by rw[aK4];omega
   have E:B[j]!.enc=.agg [.bool B[j]!.neg,.str B[j]!.atom.name,.list none 2 (B[j]!.atom.args.map I.enc)]:=rfl;rcases Nat.eq_zero_or_pos j with x|x
   ·subst x;rw[aKR,acK];rw[aKR,aKW,List.nil_append,List.nil_append]at r
    (repeat' first|simp(disch:=first|exact ai|fail) only[go_sem,d,q]|(refine ao ?_ ?_<;>intro))
    exact⟨1,am,am,by(first|rfl|(simp(disch:=first|exact aX|fail) only[b7,aKX,aKY,Env.ins,cp,cq,cr,ct,cu,cv,cw,cx,I.b0,aKQ,aKZ,aK0,aK1,aKR,bL,aKV,aKT,aKW,cy,cz,go_sem,r];try rfl))⟩
   ·have G:mh (some 63) (B.take j)=.list (some 63) 3 ((B.take j).map Lit.enc):=acN λe=>by rw[e]at c;simp at c;omega
    rw[G]
    (repeat' first|simp(disch:=first|exact ai|fail) only[go_sem,d,q]|(refine ao ?_ ?_<;>intro))
    exact⟨j+1,am,am,by(first|rfl|(simp(disch:=first|exact aX|fail) only[b7,aKX,aKY,Env.ins,cp,cq,cr,ct,cu,cv,cw,cx,I.b0,aKQ,aKZ,aK0,aK1,aKR,bL,aKV,aKT,aKW,cy,cz,go_sem,r];try rfl))⟩
  ·obtain rfl:j=B.length:=by omega
   rw[aK9];have J:=aww 63 B;have O:(mh none B).eH=true:=by unfold mh;split<;>rfl
   (repeat' first|simp(disch:=first|exact ai|fail) only[go_sem,d,J,O]|(refine ao ?_ ?_<;>intro))
   have u:oo l[i]! = .agg [.str hd.name,.list none 2 (hd.args.map I.enc),mh none B]:=by rw[oo,<-b,<-fN]
   have P:Ft 63 l[i]! = .cells [.str hd.name,.list none 2 (hd.args.map I.enc),mh (some 63) B]:=by rw[Ft,<-b,<-fN]
   exact⟨i+1,am,am,by(first|rfl|(simp(disch:=first|exact aX|fail) only[b7,aKX,aKY,Env.ins,cp,cq,cr,ct,cu,cv,cw,cx,I.b0,aKQ,aKZ,aK0,aK1,aKR,bL,aKV,aKT,aKW,cy,cz,go_sem,<-bA,<-p,u,P];try rfl))⟩
 ·obtain rfl:i=l.length:=by omega
  rw[aK9]
  (repeat' first|simp(disch:=first|exact ai|fail) only[go_sem]|(refine ao ?_ ?_<;>intro))
  exact⟨_,rfl,λg v Q=>(aT.list (hD.oo l)).kX g v (bx.disown _ _ _ g v Q)⟩
theorem awA[bt D e6]{l:List aU}[aT x1 l]  :b1 ν aD D 38 [x1] K tg=K (enc (l)):=ec (D':=e6) (F:=λ(l:List aU)=>enc (l)) (wL λ_=>rfl) (awx l)
attribute [go_sem ↓ 2000] awA
end AM
