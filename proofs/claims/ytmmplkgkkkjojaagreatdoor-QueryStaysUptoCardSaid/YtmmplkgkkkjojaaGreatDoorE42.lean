/- What functions of the given program do, as calls of the machine. Conditions: names and lists are bounded where that is said. -/
import Derived.Test.YtmmplkgkkkjojaaGreatDoorE29
import Derived.Test.YtmmplkgkkkjojaaGreatDoorAm9
import Derived.Test.YtmmplkgkkkjojaaGreatDoorW1
import Derived.Test.YtmmplkgkkkjojaaGreatDoorAm10
import Derived.Test.YtmmplkgkkkjojaaGreatDoorT1
set_option linter.unusedSimpArgs false
set_option maxRecDepth 100000
set_option maxHeartbeats 4000000
set_option linter.unusedVariables false
namespace AM
open List renaming length_map -> aKB,length_append -> aKD,take_zero -> aKF,map_append -> aKG,map_cons -> aKH,map_nil -> aKI,length_nil -> aKJ,foldr_cons -> aKK,foldr_nil -> aKL,length_set -> aKP,length_cons -> aKQ,take_length -> aKR,drop_eq_nil_of_le -> aKS,length_take -> aKU,append_nil -> aKW,length_filter_le -> aKX,all_eq_true -> aK2,all_cons -> aK5,all_nil -> aK6,mem_cons_of_mem -> aK8,filterMap_nil -> aK9,length_filterMap_le -> aLa,nil_append -> aLb,nodup_nil -> aLc,take_of_length_le -> aLd
open Nat renaming lt_or_ge -> aKC,zero_le -> aKE,le_refl -> aKT
open Int renaming natCast_add -> aKM,natCast_one -> aKN,natCast_zero -> aKO
open Bool renaming false_and -> aKV,false_eq_true -> aKY,eq_iff_iff -> aKZ,true_and -> aK3,false_or -> aK4,and_eq_true -> aK7
open Go Go.Proofs
open Tryz renaming prog -> ν
open Enc (enc)
def ph(gz:Bool)(out:List (List aY)):List AV:=if gz then[.aS 3]else out.map enc
def p4(gz:Bool):Option Nat:=if gz then some 77 else none
theorem lQ(a:Bool)(sz:Nat)(xs:List AV):AV.a1 (.list (p4 a) sz xs)=.list none sz xs:=by cases a<;>rfl
variable {gz:Bool}{out:List (List aY)}
theorem S7(h:gz=true->out=[[]]):(ph gz out).length=out.length:=by
 cases gz with
 |true=>rw[h rfl];rfl|false=>simp[ph]
theorem S8(h:gz=true->out=[[]]){k:Nat}(hk:k<out.length):(ph gz out)[k]?=some (if gz then .aS 3 else enc out[k]!):=by
 cases gz with
 |true =>
  have:=h rfl;subst this;obtain rfl:k=0:=by simpa using hk
  rfl
 |false=>simp[ph,hk]
variable {a:I}{s:List aY}{A:List I}
theorem aJJ{j:Nat}(h:j<A.length)(b:List (List aY))(left:Int):k2 a s (A.drop j) b left=if A[j]!.name != a.name||decide (A[j]!.args.length≠a.args.length)then k2 a s (A.drop (j+1)) b left
  else if decide (left-1<0)||decide ((if(fk a A[j]! s).2 then b++[(fk a A[j]! s).1]else b).length>5000)then none
  else k2 a s (A.drop (j+1)) (if(fk a A[j]! s).2 then b++[(fk a A[j]! s).1]else b) (left-1):=by
 rw[fi h,k2]
def gY(H:List ay)(w:Nat)(left:Int):List ay:=H.set w (.cells [.int .i64 left])
variable {H:List ay}{left:Int}
theorem S9{w:Nat}(h:w<H.length):(gY H w left)[w]?=some (.cells [.int .i64 left]):=by simp[gY,h]
theorem G5(H:List ay)(w:Nat)(l b:Int):(gY H w l).set w (.cells [.int .i64 b])=gY H w b:=by simp[gY]
def Ta(H:List ay)(w:Nat)(R:Option (List (List aY)×Int))(r:AV)(H':List ay):Prop:=match R with
 |none=>r=.bg [.aS 1,.bool false]/\∃l,H'=gY H w l|some (out,l)=>(∃gz,(gz=true->out=[[]])/\r=.bg [.list none 1 (ph gz out),.bool true])/\H'=gY H w l
def Tb(H:List ay)(w:Nat)(ka:AV)(A:List I):Prop:=(ka=.aS 2/\A=[])\/∃id,ka=.bI id 0 A.length 2/\H[id]?=some (.buf 25 (c3 A))/\id≠w
theorem aJK{w:Nat}{L:AV}(B:List Lit)(A:List I)(hw:H[w]?=some (.cells [.int .i64 left]))(qj:Tb H w L A)(aC:0<=left/\left<=1000000)(fN:B.length<=8)(akx:∀x∈B,(ck x.atom).length<=1000)(cE:A.length<=M) :
  bB ν aD 31 [.ptr w 0,enc B,L] H (Ta H w (js A B [[]] left)):=by
 have cP:M=1099511627776:=rfl;have aJL:=dq hw;have yW:gY H w left=H:=by rw[gY];exact C6 hw
 obtain⟨R,de⟩:∃R,R=js A B [[]] left:=⟨_,rfl⟩;rw[<-de];rcases qj with⟨b,HE⟩|⟨id,b,bW,cG⟩
 ·have Du:A.length=0:=by rw[HE];rfl
  have g:(A.length:Int)=0:=by omega
  refine bB.intro (D:=gy) ayi ?_;unfold Zb;refine iv @b @g @lQ ?_;refine bQ (λq:Nat×Bool×List (List aY)×Int=>⟨N [(0,.v (.ptr w 0)),(1,.v (enc B)),(2,.v L),(8,.v (.list (p4 q.2.1) 1 (ph q.2.1 q.2.2.1))),(18,.v (enc B.length)),(19,.v (enc q.1))],gY H w q.2.2.2⟩)
   (λq=>q.1<=B.length/\(q.2.1=true->q.2.2.1=[[]])/\(0<=q.2.2.2/\q.2.2.2<=1000000)/\q.2.2.1.length<=5000/\qU (1000*q.1) q.2.2.1/\js A (B.drop q.1) q.2.2.1 q.2.2.2=R) (λq=>B.length-q.1) (0,true,[[]],left) ⟨aKE _,λ_=>rfl,aC,be,λs ax=>by simp at ax;rw[ax];simp,de.symm⟩ (by(try simp(disch:=first|exact ai|fail) only[go_sem,b,g])<;>(first|rfl|(simp(disch:=first|exact aX|fail) only[b7,aKK,aKL,Env.ins,cp,cq,cr,ct,cu,cv,cw,cx,I.b0,aKB,aKM,aKN,aKO,aKF,bL,aKG,aKH,aKI,cy,cz,go_sem,b,g,yW,ph,p4];try rfl))) ?_
  rintro⟨i,gz,out,z⟩ ⟨i1,m,C,T,E,e⟩;simp only at i1 m C T E e;have Dd:=S7 m;rcases aKC i B.length with al|al
  ·obtain⟨x,ah⟩:∃x,x=B[i]!:=⟨_,rfl⟩;have nS:=akx B[i]! (ek al);rw[<-ah]at nS;rw[fi al,js,<-ah]at e;cases n:(x.neg||x.atom.name==eG)with
   |true =>
    rw[n,if_pos rfl]at e;cases o:x.neg with
    |true =>
     refine rp @b @g @lQ (Eq.symm @ah) @o ?_;exact⟨(i+1,gz,out,z),⟨ap,m,C,T,λs ax=>lz,e⟩,ap,by(exact og @b @g)⟩
    |false =>
     have p:(x.atom.name==[100,105,115,116,105,110,99,116])=true:=by rw[o,aK4]at n;exact n
     refine oX @b @g @lQ (Eq.symm @ah) @o @p ?_;exact⟨(i+1,gz,out,z),⟨ap,m,C,T,λs ax=>lz,e⟩,ap,by(exact og @b @g)⟩
   |false =>
    rw[n,if_neg be]at e;simp only[Bool.or_eq_false_iff]at n;obtain⟨o,p⟩:=n;have p:(x.atom.name==[100,105,115,116,105,110,99,116])=false:=p;refine oX @b @g @lQ (Eq.symm @ah) @o @p ?_;obtain⟨Y,fv⟩:∃Y,Y=my x.atom A out [] z:=⟨_,rfl⟩;rw[<-fv]at e;refine bQ (λq:Nat×List (List aY)×Int=>⟨N [(0,.v (.ptr w 0)),(1,.v (enc B)),(2,.v L),(8,.v (.list (p4 gz) 1 (ph gz out))),(10,.b [.str x.atom.name,.list none 2 (x.atom.args.map I.enc)]),(11,.v (.list (some 77) 1 (q.2.1.map enc))),(18,.v (enc B.length)),(19,.v (enc i)),(38,.v (enc out.length)),(39,.v (enc q.1))],gY H w q.2.2⟩)
     (λq=>q.1<=out.length/\(0<=q.2.2/\q.2.2<=1000000)/\q.2.1.length<=5000/\qU (1000*(i+1)) q.2.1/\my x.atom A (out.drop q.1) q.2.1 q.2.2=Y) (λq=>out.length-q.1) (0,[],z) ⟨aKE _,C,be,λs ax=>by simp at ax,fv.symm⟩ (by(try simp(disch:=first|exact ai|fail) only[go_sem,b,g])<;>(exact B4 @b @g @Dd)) ?_
    rintro⟨k,V,W⟩ ⟨cF,er,eo,gd,f⟩;simp only at cF er eo gd f;rcases aKC k out.length with hk|hk
    ·have r:=S8 m hk;obtain⟨s,ax⟩:∃s,s=out[k]!:=⟨_,rfl⟩;have qi:=E out[k]! (ek hk);rw[<-ax]at r qi;rw[fi hk,my,<-ax]at f;obtain⟨Z,o6⟩:∃Z,Z=k2 x.atom s A V W:=⟨_,rfl⟩;rw[<-o6]at f;have hg:s.length+(ck x.atom).length<=1000000:=by omega
     have DD:∀t,(fk x.atom t s).1.length<=1000*(i+1):=λt=>by have:=G3 x.atom t s;omega
     obtain⟨v,uh⟩:∃v,v=(if gz then AV.aS 3 else enc s):=⟨_,rfl⟩;rw[<-uh]at r;have ui:(v=.aS 3/\s=[])\/v=.list none 3 (s.map aY.enc):=by
      cases gz with
      |true =>
       refine .inl ⟨uh,?_⟩;have:=m rfl;rw[ax,this];obtain rfl:k=0:=by rw[this]at hk;simpa using hk
       rfl
      |false=>exact .inr uh
     refine iv @b @g @lQ ?_;refine bQ (λq:Nat×List (List aY)×Int=>⟨N [(0,.v (.ptr w 0)),(1,.v (enc B)),(2,.v L),(8,.v (.list (p4 gz) 1 (ph gz out))),(10,.b [.str x.atom.name,.list none 2 (x.atom.args.map I.enc)]),(11,.v (.list (some 77) 1 (q.2.1.map enc))),(12,.v (enc k)),(18,.v (enc B.length)),(19,.v (enc i)),(38,.v (enc out.length)),(39,.v (enc k)),(43,.v (enc A.length)),(44,.v (enc q.1))],gY H w q.2.2⟩)
      (λq=>q.1<=A.length/\(0<=q.2.2/\q.2.2<=1000000)/\q.2.1.length<=5000/\qU (1000*(i+1)) q.2.1/\k2 x.atom s (A.drop q.1) q.2.1 q.2.2=Z) (λq=>A.length-q.1) (0,V,W) ⟨aKE _,er,eo,gd,o6.symm⟩ (by(try simp(disch:=first|exact ai|fail) only[go_sem,b,g])<;>(exact og @b @g)) ?_
     rintro⟨j,y,F⟩ ⟨ei,dO,O,G,c⟩;simp only at ei dO O G c;rcases aKC j A.length with a8|a8
     ·exfalso;omega
     ·rw[aKS a8,k2]at c;rw[<-c]at f;refine iv @b @g @lQ ?_;exact⟨(k+1,y,F),⟨ap,dO,O,G,f⟩,ap,by(exact og @b @g)⟩
    ·rw[aKS hk,my]at f;rw[<-f]at e;refine iv @b @g @lQ ?_;exact⟨(i+1,false,V,W),⟨ap,λh=>d6,er,eo,gd,e⟩,ap,by(first|rfl|(simp(disch:=first|exact aX|fail) only[b7,aKK,aKL,Env.ins,cp,cq,cr,ct,cu,cv,cw,cx,I.b0,aKB,aKM,aKN,aKO,aKF,bL,aKG,aKH,aKI,cy,cz,go_sem,b,g,ph,p4,aKY,if_false];try rfl))⟩
  ·rw[aKS al,js]at e;rw[<-e];have Tc:p4 true=some 77:=rfl;have Td:p4 false=none:=rfl;cases gz with
   |true =>
    refine iv @b @g @Tc ?_;exact⟨_,rfl,⟨true,m,rfl⟩,rfl⟩
   |false =>
    refine iv @b @g @Td ?_;exact⟨_,rfl,⟨false,m,rfl⟩,rfl⟩
 ·have d:∀l,(gY H w l)[id]?=some (.buf 25 (c3 A)):=λl=>by rw[gY,cj (Ne.symm cG)];exact bW
  refine bB.intro (D:=gy) ayi ?_;unfold Zb;refine iv @b @d @lQ ?_;refine bQ (λq:Nat×Bool×List (List aY)×Int=>⟨N [(0,.v (.ptr w 0)),(1,.v (enc B)),(2,.v L),(8,.v (.list (p4 q.2.1) 1 (ph q.2.1 q.2.2.1))),(18,.v (enc B.length)),(19,.v (enc q.1))],gY H w q.2.2.2⟩)
   (λq=>q.1<=B.length/\(q.2.1=true->q.2.2.1=[[]])/\(0<=q.2.2.2/\q.2.2.2<=1000000)/\q.2.2.1.length<=5000/\qU (1000*q.1) q.2.2.1/\js A (B.drop q.1) q.2.2.1 q.2.2.2=R) (λq=>B.length-q.1) (0,true,[[]],left) ⟨aKE _,λ_=>rfl,aC,be,λs ax=>by simp at ax;rw[ax];simp,de.symm⟩ (by(try simp(disch:=first|exact ai|fail) only[go_sem,b,d])<;>(first|rfl|(simp(disch:=first|exact aX|fail) only[b7,aKK,aKL,Env.ins,cp,cq,cr,ct,cu,cv,cw,cx,I.b0,aKB,aKM,aKN,aKO,aKF,bL,aKG,aKH,aKI,cy,cz,go_sem,b,d,yW,ph,p4];try rfl))) ?_
  rintro⟨i,gz,out,z⟩ ⟨i1,m,C,T,E,e⟩;simp only at i1 m C T E e;have Dd:=S7 m;rcases aKC i B.length with al|al
  ·obtain⟨x,ah⟩:∃x,x=B[i]!:=⟨_,rfl⟩;have nS:=akx B[i]! (ek al);rw[<-ah]at nS;rw[fi al,js,<-ah]at e;cases n:(x.neg||x.atom.name==eG)with
   |true =>
    rw[n,if_pos rfl]at e;cases o:x.neg with
    |true =>
     refine rp @b @d @lQ (Eq.symm @ah) @o ?_;exact⟨(i+1,gz,out,z),⟨ap,m,C,T,λs ax=>lz,e⟩,ap,lh⟩
    |false =>
     have p:(x.atom.name==[100,105,115,116,105,110,99,116])=true:=by rw[o,aK4]at n;exact n
     refine oX @b @d @lQ (Eq.symm @ah) @o @p ?_;exact⟨(i+1,gz,out,z),⟨ap,m,C,T,λs ax=>lz,e⟩,ap,lh⟩
   |false =>
    rw[n,if_neg be]at e;simp only[Bool.or_eq_false_iff]at n;obtain⟨o,p⟩:=n;have p:(x.atom.name==[100,105,115,116,105,110,99,116])=false:=p;refine oX @b @d @lQ (Eq.symm @ah) @o @p ?_;obtain⟨Y,fv⟩:∃Y,Y=my x.atom A out [] z:=⟨_,rfl⟩;rw[<-fv]at e;refine bQ (λq:Nat×List (List aY)×Int=>⟨N [(0,.v (.ptr w 0)),(1,.v (enc B)),(2,.v L),(8,.v (.list (p4 gz) 1 (ph gz out))),(10,.b [.str x.atom.name,.list none 2 (x.atom.args.map I.enc)]),(11,.v (.list (some 77) 1 (q.2.1.map enc))),(18,.v (enc B.length)),(19,.v (enc i)),(38,.v (enc out.length)),(39,.v (enc q.1))],gY H w q.2.2⟩)
     (λq=>q.1<=out.length/\(0<=q.2.2/\q.2.2<=1000000)/\q.2.1.length<=5000/\qU (1000*(i+1)) q.2.1/\my x.atom A (out.drop q.1) q.2.1 q.2.2=Y) (λq=>out.length-q.1) (0,[],z) ⟨aKE _,C,be,λs ax=>by simp at ax,fv.symm⟩ (by(try simp(disch:=first|exact ai|fail) only[go_sem,b,d])<;>(exact B4 @b @d @Dd)) ?_
    rintro⟨k,V,W⟩ ⟨cF,er,eo,gd,f⟩;simp only at cF er eo gd f;rcases aKC k out.length with hk|hk
    ·have r:=S8 m hk;obtain⟨s,ax⟩:∃s,s=out[k]!:=⟨_,rfl⟩;have qi:=E out[k]! (ek hk);rw[<-ax]at r qi;rw[fi hk,my,<-ax]at f;obtain⟨Z,o6⟩:∃Z,Z=k2 x.atom s A V W:=⟨_,rfl⟩;rw[<-o6]at f;have hg:s.length+(ck x.atom).length<=1000000:=by omega
     have DD:∀t,(fk x.atom t s).1.length<=1000*(i+1):=λt=>by have:=G3 x.atom t s;omega
     obtain⟨v,uh⟩:∃v,v=(if gz then AV.aS 3 else enc s):=⟨_,rfl⟩;rw[<-uh]at r;have ui:(v=.aS 3/\s=[])\/v=.list none 3 (s.map aY.enc):=by
      cases gz with
      |true =>
       refine .inl ⟨uh,?_⟩;have:=m rfl;rw[ax,this];obtain rfl:k=0:=by rw[this]at hk;simpa using hk
       rfl
      |false=>exact .inr uh
     refine iv @b @d @lQ ?_;refine bQ (λq:Nat×List (List aY)×Int=>⟨N [(0,.v (.ptr w 0)),(1,.v (enc B)),(2,.v L),(8,.v (.list (p4 gz) 1 (ph gz out))),(10,.b [.str x.atom.name,.list none 2 (x.atom.args.map I.enc)]),(11,.v (.list (some 77) 1 (q.2.1.map enc))),(12,.v (enc k)),(18,.v (enc B.length)),(19,.v (enc i)),(38,.v (enc out.length)),(39,.v (enc k)),(43,.v (enc A.length)),(44,.v (enc q.1))],gY H w q.2.2⟩)
      (λq=>q.1<=A.length/\(0<=q.2.2/\q.2.2<=1000000)/\q.2.1.length<=5000/\qU (1000*(i+1)) q.2.1/\k2 x.atom s (A.drop q.1) q.2.1 q.2.2=Z) (λq=>A.length-q.1) (0,V,W) ⟨aKE _,er,eo,gd,o6.symm⟩ (by(try simp(disch:=first|exact ai|fail) only[go_sem,b,d])<;>(exact og @b @d)) ?_
     rintro⟨j,y,F⟩ ⟨ei,dO,O,G,c⟩;simp only at ei dO O G c;rcases aKC j A.length with a8|a8
     ·rw[aJJ a8]at c;obtain⟨t,P⟩:∃t,t=A[j]!:=⟨_,rfl⟩;rw[<-P]at c;have n3:((t.args.length:Int) != (x.atom.args.length:Int))=decide (t.args.length≠x.atom.args.length):=by rw[aKZ];simp;omega
      cases J:t.name==x.atom.name with
      |false =>
       have Te:(t.name != x.atom.name)=true:=by rw[bne,J];rfl
       rw[Te,Bool.true_or,if_pos rfl]at c;refine rp @b @d @lQ (Eq.symm @P) @J ?_;exact⟨(j+1,y,F),⟨ap,dO,O,G,c⟩,ap,lh⟩
      |true =>
       have Te:(t.name != x.atom.name)=false:=by rw[bne,J];rfl
       rw[Te,aK4]at c;cases Q:decide (t.args.length≠x.atom.args.length)with
       |true =>
        rw[Q,if_pos rfl]at c;refine EG @b @d @lQ (Eq.symm @P) @J @n3 @Q ?_;exact⟨(j+1,y,F),⟨ap,dO,O,G,c⟩,ap,lh⟩
       |false =>
        rw[Q,if_neg be]at c;have hd:=aJD x.atom t s hg;have Si:=DD t;obtain⟨X,bA⟩:∃X,X=fk x.atom t s:=⟨_,rfl⟩;rw[<-bA]at c hd Si;have G6:=λl=>S9 (left:=l) aJL;have S:∀{K:AV->Prop}{tg:aN K},b1 ν aD gy 60 [x.atom.enc,t.enc,v] K tg=K (mz X):=λ{K tg}=>by
         rw[bA]at hd ⊢;rcases ui with⟨rfl,rfl⟩|rfl
         ·exact S1 (D:=gy) (K:=K) (tg:=tg) (x1:=x.atom.enc) (x2:=t.enc) (x3:=.aS 3) hd
         ·exact S1 (D:=gy) (K:=K) (tg:=tg) (x1:=x.atom.enc) (x2:=t.enc) (x3:=enc s) hd
        simp only[mz]at S;cases b9:X.2 with
        |true =>
         rw[b9]at c S;simp only[if_true,aKD,aKQ,aKJ]at c;have n9:qU (1000*(i+1)) (y++[X.1]):=λu hu=>by
          rcases List.mem_append.1 hu with hu|hu
          ·exact G u hu
          ·rw[List.mem_singleton]at hu;rw[hu];exact Si
         rcases Int.lt_or_le (F-1) 0 with g1|g1
         ·rw[decide_eq_true g1,Bool.true_or,if_pos rfl]at c;rw[<-c]at f;rw[<-f]at e;rw[<-e];rcases ui with⟨rfl,_⟩|rfl
          all_goals
           (repeat' first|simp(disch:=first|exact ai|fail) only[go_sem,b,d,lQ,<-P,J,n3,Q,S,r,G6,G5,aKB,aKD,aKQ,aKJ]|(refine ao ?_ ?_<;>intro))
           exact⟨_,rfl,rfl,_,rfl⟩
         ·rw[decide_eq_false am,aK4]at c;rcases aKC 5000 (y.length+(0+1))with g2|g2
          ·rw[decide_eq_true g2,if_pos rfl]at c;rw[<-c]at f;rw[<-f]at e;rw[<-e];rcases ui with⟨rfl,_⟩|rfl
           all_goals
            (repeat' first|simp(disch:=first|exact ai|fail) only[go_sem,b,d,lQ,<-P,J,n3,Q,S,r,G6,G5,aKB,aKD,aKQ,aKJ]|(refine ao ?_ ?_<;>intro))
            exact⟨_,rfl,rfl,_,rfl⟩
          ·rw[decide_eq_false am,if_neg be]at c;rcases ui with⟨rfl,_⟩|rfl
           all_goals
            (repeat' first|simp(disch:=first|exact ai|fail) only[go_sem,b,d,lQ,<-P,J,n3,Q,S,r,G6,G5,aKB,aKD,aKQ,aKJ]|(refine ao ?_ ?_<;>intro))
            exact⟨(j+1,y++[X.1],F-1),⟨ap,ap,by simp only[aKD,aKQ,aKJ];omega,n9,c⟩,ap,lh⟩
        |false =>
         rw[b9]at c S;simp only[aKY,if_false]at c;rw[decide_eq_false (show ¬y.length>5000 by omega),Bool.or_false]at c;rcases Int.lt_or_le (F-1) 0 with g1|g1
         ·rw[decide_eq_true g1,if_pos rfl]at c;rw[<-c]at f;rw[<-f]at e;rw[<-e];rcases ui with⟨rfl,_⟩|rfl
          all_goals
           (repeat' first|simp(disch:=first|exact ai|fail) only[go_sem,b,d,lQ,<-P,J,n3,Q,S,r,G6,G5,aKB,aKD,aKQ,aKJ]|(refine ao ?_ ?_<;>intro))
           exact⟨_,rfl,rfl,_,rfl⟩
         ·rw[decide_eq_false am,if_neg be]at c;rcases ui with⟨rfl,_⟩|rfl
          all_goals
           (repeat' first|simp(disch:=first|exact ai|fail) only[go_sem,b,d,lQ,<-P,J,n3,Q,S,r,G6,G5,aKB,aKD,aKQ,aKJ]|(refine ao ?_ ?_<;>intro))
           exact⟨(j+1,y,F-1),⟨ap,ap,O,G,c⟩,ap,lh⟩
     ·rw[aKS a8,k2]at c;rw[<-c]at f;refine iv @b @d @lQ ?_;exact⟨(k+1,y,F),⟨ap,dO,O,G,f⟩,ap,lh⟩
    ·rw[aKS hk,my]at f;rw[<-f]at e;refine iv @b @d @lQ ?_;exact⟨(i+1,false,V,W),⟨ap,λh=>d6,er,eo,gd,e⟩,ap,by(first|rfl|(simp(disch:=first|exact aX|fail) only[b7,aKK,aKL,Env.ins,cp,cq,cr,ct,cu,cv,cw,cx,I.b0,aKB,aKM,aKN,aKO,aKF,bL,aKG,aKH,aKI,cy,cz,go_sem,b,d,ph,p4,aKY,if_false];try rfl))⟩
  ·rw[aKS al,js]at e;rw[<-e];have Tc:p4 true=some 77:=rfl;have Td:p4 false=none:=rfl;cases gz with
   |true =>
    refine iv @b @d @Tc ?_;exact⟨_,rfl,⟨true,m,rfl⟩,rfl⟩
   |false =>
    refine iv @b @d @Td ?_;exact⟨_,rfl,⟨false,m,rfl⟩,rfl⟩
open Enc (enc)
def aJM(H:List ay)(ac:Nat)(S:List I):Prop:=(H[ac]?=some (.cells [.aS 2])/\S=[])\/∃id,H[ac]?=some (.cells [.bI id 0 S.length 2])/\H[id]?=some (.buf 25 (c3 S))
def qY(pk mk ac:Nat)(km:List (ak×Bool))(S:List I)(H:List ay):Prop:=H[pk]?=some (.cells [.map mk])/\(∃n,H[mk]?=some (.map n (cI AV.bool km)))/\aJM H ac S
theorem Lj(km:List (ak×Bool))(s:ak):w6 (.bool false) false ((getM km s).map AV.bool)=.bool ((getM km s).getD false):=by
 cases getM km s<;>rfl
variable {pk mk ac:Nat}{km:List (ak×Bool)}{S:List I}
theorem akz(t:I)(h:qY pk mk ac km S H)(hk:(fy t).length<=M)(hd:cc t<=1000000)(ds:S.length+1<=M) :
  bB ν aD 28 [enc t,.ptr pk 0,.ptr ac 0] H λr H'=>r=.bg []/\qY pk mk ac (gZ (km,S) t).1 (gZ (km,S) t).2 H'/\H.length<=H'.length/\∀i,i<H.length->i≠mk->i≠ac->(∀e cs,H[i]?≠some (.buf e cs))->H'[i]?=H[i]?:=by
 have cP:M=1099511627776:=rfl;obtain⟨c,⟨n,g⟩,b⟩:=h;have cV:=dq c;have Q:=dq g
 have C:decide ((cc t:Int)<=4)=decide (cc t<=4):=by rw[aKZ];simp;omega
 refine bB.intro (D:=gy) ayf ?_;unfold Y2;cases m:(getM km (fy t)).getD false with
 |true =>
  have e:gZ (km,S) t=(km,S):=by rw[gZ];simp[m]
  rw[e];refine mb @c @g @Lj @m ?_;refine⟨_,rfl,?_⟩;first
   |exact⟨rfl,⟨c,⟨n,g⟩,b⟩,aKT _,λ_ _ _ _ _=>rfl⟩|(simp only[imp_true_iff,forall_const,and_true,aKT];exact⟨rfl,c,⟨n,g⟩,b⟩)|(refine⟨rfl,⟨c,⟨n,g⟩,b⟩,?_⟩;simp)
 |false =>
  cases w:decide (cc t<=4)with
  |false =>
   have e:gZ (km,S) t=(km,S):=by rw[gZ];simp[m,w]
   rw[e];refine oX @c @g @Lj @m @C @w ?_;refine⟨_,rfl,?_⟩;first
   |exact⟨rfl,⟨c,⟨n,g⟩,b⟩,aKT _,λ_ _ _ _ _=>rfl⟩|(simp only[imp_true_iff,forall_const,and_true,aKT];exact⟨rfl,c,⟨n,g⟩,b⟩)|(refine⟨rfl,⟨c,⟨n,g⟩,b⟩,?_⟩;simp)
  |true =>
   have e:gZ (km,S) t=(fV km (fy t) true,S++[t]):=by rw[gZ];simp[m,w]
   rw[e];have R:mk≠pk:=λe=>by rw[e,c]at g;cases g
   rcases b with⟨b,X⟩|⟨id,b,p⟩
   ·have Y:=dq b;have x:mk≠ac:=λe=>by rw[e,b]at g;cases g
    have E:pk≠ac:=λe=>by rw[e,b]at c;cases c
    subst X;obtain⟨f,j⟩:∃f,f=H.set mk (ay.map (lo n km (fy t)) (cI AV.bool (fV km (fy t) true))):=⟨_,rfl⟩;have l:f.length=H.length:=by rw[j,aKP]
    have y:f[pk]?=some (.cells [.map mk]):=by rw[j,cj R];exact c
    have B:f[ac]?=some (.cells [.aS 2]):=by rw[j,cj x];exact b
    have F:f[mk]?=some (.map (lo n km (fy t)) (cI AV.bool (fV km (fy t) true))):=by rw[j,dV Q]
    have k:=akr (H:=f++[ay.buf 25 [AV.str [],AV.aS 2],.dead]) (id:=H.length) (e:=25) (S:=[]) (t:=t) (by rw[<-l];simp[c3]);have G:(f++[ay.buf 25 [AV.str [],AV.aS 2],.dead]).set H.length (.buf 25 (c3 ([]++[t])))=f++[ay.buf 25 (c3 [t]),.dead]:=by rw[<-l];simp
    rw[G]at k;have J:(f++[ay.buf 25 (c3 [t]),.dead])[ac]?=some (.cells [.aS 2]):=by rw[dE am];exact B
    have q:=aks (i:=H.length) (o:=0) (n:=1) (z:=2) J;simp only[aKJ,Nat.zero_mul]at k
    (repeat' first|simp(disch:=first|exact ai|fail) only[go_sem,c,g,b,Lj,m,C,w,aJp,aKP,<-j,l,y,B,akq,k,q]|(refine ao ?_ ?_<;>intro))
    refine⟨_,rfl,rfl,⟨by rw[cj (Ne.symm E),dE am];exact y,⟨_,by rw[cj (Ne.symm x),dE am];exact F⟩,.inr ⟨H.length,by rw[dV (by rw[aKD];omega)];rfl,by rw[cj am,<-l];simp⟩⟩,by first|(rw[aKP,aKD];omega)|(rw[aKD];omega),λi Z L O _=>by rw[cj (Ne.symm O),dE am,j,cj (Ne.symm L)]⟩
   ·have Y:=dq b;have lA:=dq p
    have x:mk≠ac:=λe=>by rw[e,b]at g;cases g
    have E:pk≠ac:=λe=>by rw[e,b]at c;cases c
    have T:mk≠id:=λe=>by rw[e,p]at g;cases g
    have Rt:pk≠id:=λe=>by rw[e,p]at c;cases c
    have n6:ac≠id:=λe=>by rw[e,p]at b;cases b
    obtain⟨f,j⟩:∃f,f=H.set mk (ay.map (lo n km (fy t)) (cI AV.bool (fV km (fy t) true))):=⟨_,rfl⟩;obtain⟨u,v⟩:∃u,u=f.set id .dead:=⟨_,rfl⟩;have l:f.length=H.length:=by rw[j,aKP]
    have P:u.length=H.length:=by rw[v,aKP];exact l
    have y:f[pk]?=some (.cells [.map mk]):=by rw[j,cj R];exact c
    have B:f[ac]?=some (.cells [.bI id 0 S.length 2]):=by rw[j,cj x];exact b
    have F:f[mk]?=some (.map (lo n km (fy t)) (cI AV.bool (fV km (fy t) true))):=by rw[j,dV Q]
    have V:f[id]?=some (.buf 25 (c3 S)):=by rw[j,cj T];exact p
    have W:=λ{e0:Env}{K:au->Prop}{tg:aN K}=>aJq (e0:=e0) (K:=K) (t:=tg) (d:=22) (H:=f) (n:=S.length) ⟨V,rfl,ds⟩;rw[<-v,l]at W;have k:=akr (H:=u++[ay.buf 25 (c3 S++[AV.str [],AV.aS 2]),.dead]) (id:=H.length) (e:=25) (S:=S) (t:=t) (by rw[<-P];simp);have G:(u++[ay.buf 25 (c3 S++[AV.str [],AV.aS 2]),.dead]).set H.length (.buf 25 (c3 (S++[t])))=u++[ay.buf 25 (c3 (S++[t])),.dead]:=by rw[<-P];simp
    rw[G]at k;have J:(u++[ay.buf 25 (c3 (S++[t])),.dead])[ac]?=some (.cells [.bI id 0 S.length 2]):=by rw[dE am,v,cj (Ne.symm n6)];exact B
    have q:=aks (i:=H.length) (o:=0) (n:=S.length+1) (z:=2) J
    (repeat' first|simp(disch:=first|exact ai|fail) only[go_sem,c,g,b,p,Lj,m,C,w,aKP,<-j,l,y,B,V,W,akq,k,q]|(refine ao ?_ ?_<;>intro))
    refine⟨_,rfl,rfl,⟨by rw[cj (Ne.symm E),dE am,v,cj (Ne.symm Rt)];exact y,⟨_,by rw[cj (Ne.symm x),dE am,v,cj (Ne.symm T)];exact F⟩,.inr ⟨H.length,by rw[dV (by rw[aKD];omega),aKD];rfl,by rw[cj am,<-P];simp⟩⟩,by first|(rw[aKP,aKD];omega)|(rw[aKD];omega),λi Z L O bG=>?_⟩;have ev:id≠i:=λe=>bG _ _ (by rw[<-e];exact p);rw[cj (Ne.symm O),dE am,v,cj ev,j,cj (Ne.symm L)]
open Enc (enc)
theorem qY.ex(h:qY pk mk ac km S H)(t:I):∃H',qY pk mk ac (gZ (km,S) t).1 (gZ (km,S) t).2 H'/\H.length<=H'.length/\∀i,i<H.length->i≠mk->i≠ac->(∀e cs,H[i]?≠some (.buf e cs))->H'[i]?=H[i]?:=by
 by_cases g:(!((getM km (fy t)).getD false)&&decide (cc t<=4))=true
 ·rw[gZ,if_pos g];obtain⟨b,⟨n,d⟩,f⟩:=h;have o:mk≠pk:=λe=>by rw[e,b]at d;cases d
  have p:∃c,H[ac]?=some (.cells [c])/\∀m,c≠.map m:=by
   rcases f with⟨f,_⟩|⟨id,f,_⟩
   ·exact⟨_,f,λm h=>d6⟩
   ·exact⟨_,f,λm h=>d6⟩
  obtain⟨c,j,q⟩:=p;have r:mk≠ac:=λe=>by rw[e,j]at d;cases d
  have u:pk≠ac:=λe=>by rw[e,j]at b;simp at b;exact q _ b
  have v:=dq b;have k:=dq d;have l:=dq j
  refine⟨(H.set mk (.map 0 (cI AV.bool (fV km (fy t) true)))).set ac (.cells [.bI H.length 0 (S.length+1) 2])++[.buf 25 (c3 (S++[t]))],⟨?_,⟨0,?_⟩,.inr ⟨H.length,?_,?_⟩⟩,be,λi w x y _=>?_⟩
  ·rw[dE (by simpa using v),cj (Ne.symm u),cj o];exact b
  ·rw[dE (by simpa using k),cj (Ne.symm r),dV k]
  ·rw[dE (by simpa using l),dV (by simpa using l)];simp
  ·simp
  ·rw[dE (by simpa using w),cj (Ne.symm y),cj (Ne.symm x)]
 ·rw[gZ,if_neg g];exact⟨H,h,aKT _,λ_ _ _ _ _=>rfl⟩
theorem akA(H:List ay)(w:Nat)(a b:Int):gY (gY H w a) w b=gY H w b:=by simp[gY]
variable {m:Nat}
theorem Tg(hm:s.length+(ck a).length<=m):∀{bE:List I}{c d:List (List aY)}{left e:Int},k2 a s bE c left=some (d,e)->c.length<=5000->qU m c->0<=left->d.length<=5000/\qU m d/\0<=e/\e<=left
 |[],c,d,left,e,h,h1,f,g=>by
  simp only[k2,Option.some.injEq,Prod.mk.injEq]at h;obtain⟨rfl,rfl⟩:=h;exact⟨h1,f,g,Int.le_refl _⟩
 |t::bE,c,d,left,e,h,h1,f,g=>by
  rw[k2]at h;obtain⟨i,j⟩:∃i,i=(if(fk a t s).2 then c++[(fk a t s).1]else c):=⟨_,rfl⟩;rw[<-j]at h;split at h
  ·exact Tg hm h h1 f g
  ·split at h
   ·cases h
   ·rename_i k;simp only[Bool.or_eq_true,decide_eq_true_eq,not_or]at k;have ae:=G3 a t s;have l:qU m i:=λu b=>by
     rw[j]at b;split at b
     ·rcases List.mem_append.1 b with b|b
      ·exact f u b
      ·rw[List.mem_singleton]at b;rw[b];omega
     ·exact f u b
    obtain⟨n,o,p,q⟩:=Tg hm h am l am;exact⟨n,o,p,am⟩
theorem akB :∀{out b c:List (List aY)}{left d:Int},(∀s∈out,s.length+(ck a).length<=m)->my a A out b left=some (c,d)->b.length<=5000->qU m b->0<=left->c.length<=5000/\qU m c/\0<=d/\d<=left
 |[],b,c,left,d,_,h,h1,e,f=>by
  simp only[my,Option.some.injEq,Prod.mk.injEq]at h;obtain⟨rfl,rfl⟩:=h;exact⟨h1,e,f,Int.le_refl _⟩
 |s::r,b,c,left,d,ax,h,h1,e,f=>by
  rw[my]at h;cases g:k2 a s A b left with
  |none=>rw[g]at h;cases h|some q =>
   obtain⟨t,v⟩:=q;rw[g]at h;obtain⟨i,j,k,w⟩:=Tg (ax s be) g h1 e f;obtain⟨l,n,o,x⟩:=akB (λu p=>ax u (aK8 _ p)) h i j k;exact⟨l,n,o,am⟩
theorem Ti :∀{B:List Lit}{out b:List (List aY)}{left c:Int}{m:Nat},(∀x∈B,(ck x.atom).length<=1000)->js A B out left=some (b,c)->out.length<=5000->qU m out->0<=left->b.length<=5000/\qU (m+1000*B.length) b/\0<=c/\c<=left
 |[],out,b,left,c,m,_,h,h1,e,f=>by
  simp only[js,Option.some.injEq,Prod.mk.injEq]at h;obtain⟨rfl,rfl⟩:=h;exact⟨h1,λs ax=>by have:=e s ax;omega,f,Int.le_refl _⟩
 |x::r,out,b,left,c,m,ae,h,h1,e,f=>by
  have d:=λy n=>ae y (aK8 x n);have u:=ae x be;rw[js]at h;split at h
  ·obtain⟨g,i,j,l⟩:=Ti d h h1 e f;exact⟨g,λs ax=>by have:=i s ax;simp only[aKQ];omega,j,l⟩
  ·cases k:my x.atom A out [] left with
   |none=>rw[k]at h;cases h|some q =>
    obtain⟨v,w⟩:=q;rw[k]at h;obtain⟨o,p,t,z⟩:=akB (m:=m+1000) (λs ax=>by have:=e s ax;omega) k be (λs ax=>by simp at ax) f;obtain⟨g,i,j,l⟩:=Ti d h o p t;exact⟨g,λs ax=>by have:=i s ax;simp only[aKQ];omega,j,am⟩
variable {H':List ay}
theorem qY.w{km:List (ak×Bool)}{S:List I}{x:Int}(b:H[0]?=some (.cells [.int .i64 x]))(c:∀i,i<H.length->i≠1->i≠3->(∀e cs,H[i]?≠some (.buf e cs))->H'[i]?=H[i]?):H'[0]?=some (.cells [.int .i64 x]):=by
 rw[c 0 (dq b) am am (λe cs=>by rw[b];simp)];exact b
theorem akD(l:List aU)(given:List I)(b:Bool)(aC:l.length<=1000)(ae:∀r∈l,r.body.length<=8/\∀x∈r.body,(ck x.atom).length<=1000)(aF:given.length<=1000000)(c:kb l given=some b):aA ν aD 10 [enc l,enc given] (enc b):=by
 have cP:M=1099511627776:=rfl;unfold kb at c;cases L:given.all qX with
 |false=>rw[L]at c;simp at c|true =>
 rw[L]at c;simp only[Bool.not_true,aKY,if_false]at c;have L:=aK2.1 L;refine aA.intro (D:=gy) ax4 (by simp only[aK5,aK6,Enc.arg,Bool.and_self]) rfl ?_;unfold Ym
 (repeat' first|simp(disch:=first|exact ai|fail) only[go_sem,jL]|(refine ao ?_ ?_<;>intro))
 refine bQ (λq:Nat×(List (ak×Bool)×List I)×List ay=>⟨N [(0,.v (enc l)),(1,.v (enc given)),(5,.v (.ptr 0 0)),(7,.v (.ptr 3 0)),(8,.v (.fn 28 [.ptr 2 0,.ptr 3 0])),(26,.v (enc given.length)),(27,.v (enc q.1))],q.2.2⟩)
  (λq=>q.1<=given.length/\qY 2 1 3 q.2.1.1 q.2.1.2 q.2.2/\q.2.2[0]?=some (.cells [.int .i64 1000000])/\q.2.1.2.length<=q.1/\(given.drop q.1).foldl gZ q.2.1=given.foldl gZ ([],[])) (λq=>given.length-q.1) (0,([],[]),[ay.cells [AV.int IntKind.i64 1000000],ay.map 0 [],ay.cells [AV.map 1],ay.cells [AV.aS 2]])
  ⟨aKE _,⟨rfl,⟨0,rfl⟩,.inl ⟨rfl,rfl⟩⟩,rfl,aKT _,rfl⟩ dl ?_
 rintro⟨i,p,H⟩ ⟨i1,G,B,Q,O⟩;simp only at i1 G B Q O;rcases aKC i given.length with al|al
 ·have hk:=L given[i]! (ek al);simp only[qX,aK7,decide_eq_true_eq]at hk;have af:=akz given[i]! G hk.1 hk.2 am;rw[fi al,List.foldl_cons]at O;have sq:=aky p given[i]!;have j:∃(r:AV)(H':List ay),r=.bg []/\qY 2 1 3 (gZ p given[i]!).1 (gZ p given[i]!).2 H'/\H.length<=H'.length/\∀i,i<H.length->i≠1->i≠3->(∀e cs,H[i]?≠some (.buf e cs))->H'[i]?=H[i]?:=by
   obtain⟨H',q⟩:=G.ex given[i]!;exact⟨_,H',rfl,q⟩
  (repeat' first|simp(disch:=first|exact ai|fail) only[go_sem,jL]|(refine ao ?_ ?_<;>intro)|(refine iJ ⟨af,j⟩ ?_;(rintro r' H' ⟨rfl,ca,dK,fp⟩))|fail)
  exact⟨(i+1,gZ p given[i]!,H'),⟨ap,ca,qY.w (km:=[]) (S:=[]) B fp,ap,O⟩,ap,ci⟩
 rw[aKS al,List.foldl_nil]at O;rw[<-O]at c;clear O L
 (repeat' first|simp(disch:=first|exact ai|fail) only[go_sem]|(refine ao ?_ ?_<;>intro))
 refine bQ (λq:Nat×(List (ak×Bool)×List I)×List ay×Int×Int=>⟨N [(0,.v (enc l)),(5,.v (.ptr 0 0)),(7,.v (.ptr 3 0)),(8,.v (.fn 28 [.ptr 2 0,.ptr 3 0])),(10,.v (.int .i64 q.2.2.2.1))],q.2.2.1⟩)
  (λq=>qY 2 1 3 q.2.1.1 q.2.1.2 q.2.2.1/\q.2.2.1[0]?=some (.cells [.int .i64 q.2.2.2.2])/\q.2.1.2.length<=100000000/\(0<=q.2.2.2.2/\q.2.2.2.2<=1000000)/\(-1<=q.2.2.2.1/\q.2.2.2.1<=100000000)/\y8 l q.1 q.2.1 q.2.2.2.1 q.2.2.2.2=some b) (λq=>q.1) (1003,p,H,-1,1000000) ⟨G,B,ap,ap,ap,c⟩ dl ?_
 clear i1 G B Q al c;rintro⟨f,p,H,n,left⟩ ⟨G,B,Q,i6,i7,c⟩;simp only at G B Q i6 i7 c;obtain⟨h1,⟨jd,ab⟩,z⟩:=G;cases f with
 |zero=>cases c|succ f =>
 rw[y8]at c;have E:decide ((p.2.length:Int)<=1000)=decide (p.2.length<=1000):=by rw[aKZ];simp;omega
 obtain⟨S,ds⟩:∃S,S=p.2:=⟨_,rfl⟩;rw[<-ds]at z Q c E;have fc:∃o,H[3]?=some (.cells [o])/\Tb H 0 o S/\(∀x,Tb (gY H 0 x) 0 o S):=by
  rcases z with⟨z,v⟩|⟨id,z,J⟩
  ·exact⟨_,z,.inl ⟨rfl,v⟩,λ_=>.inl ⟨rfl,v⟩⟩
  ·have ne:id≠0:=λe=>by rw[e,B]at J;cases J
   exact⟨_,z,.inr ⟨id,rfl,J,ne⟩,λx=>.inr ⟨id,rfl,by rw[gY,cj (Ne.symm ne)];exact J,ne⟩⟩
 obtain⟨o,Tj,qj,R⟩:=fc;have Lk:∀H',ou 1 H' o=some (.int .i64 (S.length:Int)):=λH'=>by
  rcases qj with⟨rfl,v⟩|⟨id,rfl,_⟩
  ·rw[v];rfl
  ·rfl
 have C:o.a1=o:=by
  rcases qj with⟨rfl,v⟩|⟨id,rfl,_⟩<;>rfl
 have Tk:∀{K:AV->Prop}{tg:aN K},u0 2 (λn:Nat=>some (n:Int)) (λ_=>some (S.length:Int)) o K tg=K o:=λ{K tg}=>by
  rcases qj with⟨rfl,v⟩|⟨id,rfl,_⟩
  ·rw[v,agk];simp[eI]
  ·rw[agl];have:¬((0:Int)<0):=by omega
   simp[eI]
 have sH:∀{s:au}{d x:Nat}{K:au->Prop}{tg:aN K},yD s d x K tg o=di s d o K ⟨⟩:=λ{s d x K tg}=>by
  rcases qj with⟨rfl,v⟩|⟨id,rfl,_⟩<;>rfl
 cases V:decide (n<(S.length:Int))with
 |false =>
  rw[V,aKV,if_neg be]at c;have W:b=decide (S.length<=1000):=(Option.some.inj c).symm;rw[W]
  (repeat' first|simp(disch:=first|exact ai|fail) only[go_sem,Tj,Lk,C,Tk,sH,V,E]|(refine ao ?_ ?_<;>intro))
 |true =>
  rw[V,aK3]at c;cases g2:decide (S.length<=1000)with
  |false =>
   rw[g2,if_neg be]at c;have W:b=false:=(Option.some.inj c).symm;rw[W]
   (repeat' first|simp(disch:=first|exact ai|fail) only[go_sem,Tj,Lk,C,Tk,sH,V,E,g2]|(refine ao ?_ ?_<;>intro))
  |true =>
   rw[g2,if_pos rfl]at c
   (repeat' first|simp(disch:=first|exact ai|fail) only[go_sem,Tj,Lk,C,Tk,sH,V,E,g2]|(refine ao ?_ ?_<;>intro))
   obtain⟨Y,fv⟩:∃Y,Y=rS S l [] left:=⟨_,rfl⟩;rw[<-fv]at c;have yW:gY H 0 left=H:=by rw[gY];exact C6 B
   have Dl:=dq B;have ajN:S.length<=1000:=of_decide_eq_true g2;refine bQ (λq:Nat×List I×Int=>⟨N [(0,.v (enc l)),(5,.v (.ptr 0 0)),(7,.v (.ptr 3 0)),(8,.v (.fn 28 [.ptr 2 0,.ptr 3 0])),(10,.v (.int .i64 (S.length:Int))),(11,.v o),(12,.v (.list (some 25) 2 (q.2.1.map I.enc))),(52,.v (enc l.length)),(53,.v (enc q.1))],gY H 0 q.2.2⟩)
    (λq=>q.1<=l.length/\(0<=q.2.2/\q.2.2<=1000000)/\q.2.1.length<=q.1*5000/\rS S (l.drop q.1) q.2.1 q.2.2=Y) (λq=>l.length-q.1) (0,[],left) ⟨aKE _,i6,be,fv.symm⟩ (by(try simp(disch:=first|exact ai|fail) only[go_sem])<;>(first|rfl|(simp(disch:=first|exact aX|fail) only[b7,aKK,aKL,Env.ins,cp,cq,cr,ct,cu,cv,cw,cx,I.b0,aKB,aKM,aKN,aKO,aKF,bL,aKG,aKH,aKI,cy,cz,go_sem,yW];try rfl))) ?_
   rintro⟨i,more,y⟩ ⟨c1,c2,gv,F⟩;simp only at c1 c2 gv F;rcases aKC i l.length with al|al
   ·rw[fi al,rS]at F;obtain⟨ed,dX⟩:=ae l[i]! (ek al);obtain⟨r,aw⟩:∃r,r=l[i]!:=⟨_,rfl⟩;rw[<-aw]at F ed dX;have Tl:=aJK (H:=gY H 0 y) (w:=0) (left:=y) r.body S (S9 Dl) (R y) c2 ed dX am;obtain⟨Z,o6⟩:∃Z,Z=js S r.body [[]] y:=⟨_,rfl⟩;rw[<-o6]at F Tl;cases Z with
    |none =>
     rw[<-F]at c;have W:b=false:=(Option.some.inj c).symm;rw[W];have j:∃(r:AV)(H':List ay),Ta (gY H 0 y) 0 none r H':=⟨_,_,rfl,0,rfl⟩
     (repeat' first|simp(disch:=first|exact ai|fail) only[go_sem,<-aw,C]|(refine ao ?_ ?_<;>intro)|(refine iJ ⟨Tl,j⟩ ?_;(rintro r' H' ⟨rfl,yQ,rfl⟩))|fail)
     all_goals rfl
    |some q =>
     obtain⟨all,cH⟩:=q;simp only at F;have j:∃(r:AV)(H':List ay),Ta (gY H 0 y) 0 (some (all,cH)) r H':=⟨_,_,⟨false,λh=>d6,rfl⟩,rfl⟩
     (repeat' first|simp(disch:=first|exact ai|fail) only[go_sem,<-aw,C]|(refine ao ?_ ?_<;>intro)|(refine iJ ⟨Tl,j⟩ ?_;(rintro r' H' ⟨⟨gz,j1,rfl⟩,rfl⟩))|fail)
     obtain⟨ba,dN,fu,wx⟩:=Ti (m:=0) dX o6.symm be (λs ax=>by simp at ax;rw[ax];simp) c2.1;have Dd:=S7 j1;refine bQ (λk:Nat=>⟨N [(0,.v (enc l)),(5,.v (.ptr 0 0)),(7,.v (.ptr 3 0)),(8,.v (.fn 28 [.ptr 2 0,.ptr 3 0])),(10,.v (.int .i64 (S.length:Int))),(11,.v o),(12,.v (.list (some 25) 2 ((more++(all.take k).filterMap (hv r.head)).map I.enc))),(13,.v (enc i)),(14,.v (.list none 1 (ph gz all))),(52,.v (enc l.length)),(53,.v (enc i)),(70,.v (enc all.length)),(71,.v (enc k))],gY H 0 cH⟩)
      (λk=>k<=all.length) (λk=>all.length-k) 0 (aKE _) (by(try simp(disch:=first|exact ai|fail) only[go_sem,akA])<;>(first|rfl|(simp(disch:=first|exact aX|fail) only[b7,aKK,aKL,Env.ins,cp,cq,cr,ct,cu,cv,cw,cx,I.b0,aKB,aKM,aKN,aKO,aKF,bL,aKG,aKH,aKI,cy,cz,go_sem,Dd,aK9,aKW,akA];try rfl))) ?_
     intro k hk;rcases aKC k all.length with g|g
     ·have gn:=S8 j1 g;obtain⟨s,ax⟩:∃s,s=all[k]!:=⟨_,rfl⟩;have qi:=dN all[k]! (ek g);rw[<-ax]at gn qi;have Ll:(all.take (k+1)).filterMap (hv r.head)=(all.take k).filterMap (hv r.head)++(hv r.head s).toList:=by
       rw[bL g,List.filterMap_append,<-ax];simp only[List.filterMap_cons,aK9];cases hv r.head s<;>rfl
      have akF:((all.take k).filterMap (hv r.head)).length<=5000:=by
       have:=aLa (hv r.head) (all.take k);rw[aKU]at this;omega
      have hd:=aJI s am r.head;obtain⟨X,bA⟩:∃X,X=hv r.head s:=⟨_,rfl⟩;rw[<-bA]at hd Ll;obtain⟨pj,uh⟩:∃pj,pj=(if gz then AV.aS 3 else enc s):=⟨_,rfl⟩;rw[<-uh]at gn;have ui:(pj=.aS 3/\s=[])\/pj=.list none 3 (s.map aY.enc):=by
       cases gz with
       |true =>
        refine .inl ⟨uh,?_⟩;have:=j1 rfl;rw[ax,this];obtain rfl:k=0:=by rw[this]at g;simpa using g
        rfl
       |false=>exact .inr uh
      have sP:∀{K:AV->Prop}{tg:aN K},b1 ν aD gy 32 [r.head.enc,pj] K tg=K (pg r.head X):=λ{K tg}=>by
       rw[bA]at hd ⊢;rcases ui with⟨rfl,rfl⟩|rfl
       ·exact S2 (D:=gy) (K:=K) (tg:=tg) (x1:=r.head.enc) (x2:=.aS 3) hd
       ·exact S2 (D:=gy) (K:=K) (tg:=tg) (x1:=r.head.enc) (x2:=enc s) hd
      have rk:(more++(all.take k).filterMap (hv r.head)).length+1<=M:=by rw[aKD];omega
      obtain⟨mk,P⟩:∃mk,mk=more++(all.take k).filterMap (hv r.head):=⟨_,rfl⟩;have Lm:more++(all.take (k+1)).filterMap (hv r.head)=mk++X.toList:=by rw[Ll,<-List.append_assoc,P]
      rw[<-P]at rk ⊢;cases X with
      |none =>
       simp only[pg]at sP;rcases ui with⟨rfl,_⟩|rfl
       all_goals
        (repeat' first|simp(disch:=first|exact ai|fail) only[go_sem,C,<-aw,gn,sP]|(refine ao ?_ ?_<;>intro))
        exact⟨k+1,am,am,by rw[Lm,Option.toList_none,aKW];(exact bl)⟩
      |some u =>
       simp only[pg]at sP;rcases ui with⟨rfl,_⟩|rfl
       all_goals
        (repeat' first|simp(disch:=first|exact ai|fail) only[go_sem,C,<-aw,gn,sP,aKB]|(refine ao ?_ ?_<;>intro))
        exact⟨k+1,am,am,by rw[Lm,Option.toList_some];(exact bl)⟩
     ·obtain rfl:k=all.length:=by omega
      rw[aKR];have akF:=aLa (hv r.head) all
      (repeat' first|simp(disch:=first|exact ai|fail) only[go_sem,C]|(refine ao ?_ ?_<;>intro))
      exact⟨(i+1,more++all.filterMap (hv r.head),cH),⟨ap,ap,by simp only[aKD];omega,F⟩,ap,ci⟩
   ·rw[aKS al,rS]at F;rw[<-F]at c
    (repeat' first|simp(disch:=first|exact ai|fail) only[go_sem,C,Lk]|(refine ao ?_ ?_<;>intro))
    simp only at c;obtain⟨T,ej⟩:∃T,T=more++S.filterMap kP:=⟨_,rfl⟩;rw[<-ej]at c;have akG:T.all qX=true:=by
     cases bk:T.all qX with
     |true=>rfl|false=>rw[bk]at c;simp at c
    rw[akG]at c;simp only[Bool.not_true,aKY,if_false]at c;have rk:more.length<=5000000:=by have:i*5000<=1000*5000:=Nat.mul_le_mul_right _ am;omega
    have aJN:∀(n:ak)(a:List I),(I.mk n a).enc=.agg [.str n,.list none 2 (a.map I.enc)]:=λn a=>I.qC _;refine bQ (λk:Nat=>⟨N [(0,.v (enc l)),(5,.v (.ptr 0 0)),(7,.v (.ptr 3 0)),(8,.v (.fn 28 [.ptr 2 0,.ptr 3 0])),(10,.v (.int .i64 (S.length:Int))),(11,.v o),(12,.v (.list (some 25) 2 ((more++(S.take k).filterMap kP).map I.enc))),(95,.v (enc S.length)),(96,.v (enc k))],gY H 0 y⟩)
     (λk=>k<=S.length) (λk=>S.length-k) 0 (aKE _) (by(try simp(disch:=first|exact ai|fail) only[go_sem])<;>(first|rfl|(simp(disch:=first|exact aX|fail) only[b7,aKK,aKL,Env.ins,cp,cq,cr,ct,cu,cv,cw,cx,I.b0,aKB,aKM,aKN,aKO,aKF,bL,aKG,aKH,aKI,cy,cz,go_sem,aK9,aKW];try rfl))) ?_
    intro k hk;rcases aKC k S.length with g|g
    ·rcases R y with⟨_,v⟩|⟨id,eF,bW,_⟩
     ·exfalso;rw[v]at g;simp at g
     obtain⟨t,aB⟩:∃t,t=S[k]!:=⟨_,rfl⟩;have Ll:(S.take (k+1)).filterMap kP=(S.take k).filterMap kP++(kP t).toList:=by
      rw[bL g,List.filterMap_append,<-aB];simp only[List.filterMap_cons,aK9];cases kP t<;>rfl
     have akF:((S.take k).filterMap kP).length<=1000:=by
      have:=aLa kP (S.take k);rw[aKU]at this;omega
     obtain⟨mk,P⟩:∃mk,mk=more++(S.take k).filterMap kP:=⟨_,rfl⟩;have aPe:mk.length+1<=M:=by rw[P,aKD];omega
     have Lm:more++(S.take (k+1)).filterMap kP=mk++(kP t).toList:=by rw[Ll,<-List.append_assoc,P]
     rw[<-P]at ⊢;have ee:((t.args.length:Int)==1)=decide (t.args.length=1):=by rw[aKZ];simp;omega
     have c9:((t.args.length:Int)==2)=decide (t.args.length=2):=by rw[aKZ];simp;omega
     have DF:kP t=if decide (t.args.length=1)&&(t.name==[105,110,105,116]||t.name==[110,101,120,116])then some (.mk [116,114,117,101] t.args)
      else if decide (t.args.length=2)&&t.name==[108,101,103,97,108]then some (.mk [100,111,101,115] t.args)else none:=rfl
     cases aj:decide (t.args.length=1)<;>cases av:t.name==[105,110,105,116]<;>cases aQ:t.name==[110,101,120,116]<;>cases bG:decide (t.args.length=2)<;>cases ev:t.name==[108,101,103,97,108];all_goals
      rw[aj,av,aQ,bG,ev]at DF;simp only[aK3,aKV,Bool.true_or,aK4,Bool.or_self,Bool.and_self,Bool.and_true,Bool.and_false,aKY,if_true,if_false]at DF
      (repeat' first|simp(disch:=first|exact ai|fail) only[go_sem,eF,bW,<-aB,ee,c9,aj,av,aQ,bG,ev,aKB]|(refine ao ?_ ?_<;>intro))
      exact⟨k+1,am,am,by rw[Lm,DF];(first|rfl|(simp(disch:=first|exact aX|fail) only[b7,aKK,aKL,Env.ins,cp,cq,cr,ct,cu,cv,cw,cx,I.b0,aKB,aKM,aKN,aKO,aKF,bL,aKG,aKH,aKI,cy,cz,go_sem,eF,Option.toList_some,Option.toList_none,aKW,aJN];try rfl))⟩
    ·obtain rfl:k=S.length:=by omega
     rw[aKR,<-ej];refine bU @C ?_;have aPf:T.length<=6000000:=by
      rw[ej,aKD];have:=aLa kP S;omega
     have aJO:=aK2.1 akG;have aJP:qY 2 1 3 p.1 p.2 (gY H 0 y):=by
      refine⟨by rw[gY,cj am];exact h1,⟨jd,by rw[gY,cj am];exact ab⟩,?_⟩;rw[<-ds];rcases z with⟨z,v⟩|⟨id,z,J⟩
      ·exact .inl ⟨by rw[gY,cj am];exact z,v⟩
      ·have ne:id≠0:=λe=>by rw[e,B]at J;cases J
       exact .inr ⟨id,by rw[gY,cj am];exact z,by rw[gY,cj (Ne.symm ne)];exact J⟩
     refine bQ (λq:Nat×(List (ak×Bool)×List I)×List ay=>⟨N [(0,.v (enc l)),(5,.v (.ptr 0 0)),(7,.v (.ptr 3 0)),(8,.v (.fn 28 [.ptr 2 0,.ptr 3 0])),(10,.v (.int .i64 (S.length:Int))),(12,.v (.list (some 25) 2 (T.map I.enc))),(159,.v (enc T.length)),(160,.v (enc q.1))],q.2.2⟩)
      (λq=>q.1<=T.length/\qY 2 1 3 q.2.1.1 q.2.1.2 q.2.2/\q.2.2[0]?=some (.cells [.int .i64 y])/\q.2.1.2.length<=1000+q.1/\(T.drop q.1).foldl gZ q.2.1=T.foldl gZ p) (λq=>T.length-q.1) (0,p,gY H 0 y)
      ⟨aKE _,aJP,S9 Dl,by simp only;rw[<-ds];omega,rfl⟩ dl ?_
     rintro⟨k,aV,H2⟩ ⟨m1,m2,m3,m4,m5⟩;simp only at m1 m2 m3 m4 m5;rcases aKC k T.length with g|g
     ·have lx:=aJO T[k]! (ek g);simp only[qX,aK7,decide_eq_true_eq]at lx;have af:=akz T[k]! m2 lx.1 lx.2 am;rw[fi g,List.foldl_cons]at m5;have sq:=aky aV T[k]!;have j:∃(r:AV)(H':List ay),r=.bg []/\qY 2 1 3 (gZ aV T[k]!).1 (gZ aV T[k]!).2 H'/\H2.length<=H'.length/\∀i,i<H2.length->i≠1->i≠3->(∀e cs,H2[i]?≠some (.buf e cs))->H'[i]?=H2[i]?:=by
       obtain⟨H',q⟩:=m2.ex T[k]!;exact⟨_,H',rfl,q⟩
      (repeat' first|simp(disch:=first|exact ai|fail) only[go_sem,jL]|(refine ao ?_ ?_<;>intro)|(refine iJ ⟨af,j⟩ ?_;(rintro r' H' ⟨rfl,ca,dK,fp⟩))|fail)
      exact⟨(k+1,gZ aV T[k]!,H'),⟨ap,ca,qY.w (km:=[]) (S:=[]) m3 fp,ap,m5⟩,ap,ci⟩
     ·rw[aKS g,List.foldl_nil]at m5;rw[<-m5]at c;refine ag ?_;exact⟨(f,aV,H2,(S.length:Int),y),⟨m2,m3,ap,c2,ap,c⟩,ap,ci⟩
open Enc (enc)
variable {m:Int}
theorem akJ{f:I->Int} :∀(l:List I)(n:Int),(∀t∈l,1<=f t)->ki f m l n<=m->n+(l.map f).sum=ki f m l n
 |[],n,_,_=>by simp[ki]|t::r,n,h,hm=>by
  have d:=h t be;by_cases b:n>m
  ·have:=aho (f:=f) (m:=m) (l:=t::r) (i:=0) (n:=n) be b;simp only[List.drop_zero]at this;omega
  ·have:=ahn (f:=f) (m:=m) (l:=t::r) (i:=0) (n:=n) be b;simp only[List.drop_zero,List.getElem!_cons_zero,List.drop_succ_cons]at this;rw[this]at hm ⊢;have:=akJ r (n+f t) (λu c=>h u (aK8 _ c)) hm;simp only[aKH,List.sum_cons];omega
theorem akK(hm:0<=m/\m<=1000):∀(d:Nat)(t:I),j6 m d t<=m->((ck t).length:Int)<=j6 m d t
 |0,t,h=>by
  simp only[j6]at h;omega
 |d+1,t,h=>by
  rw[ahl]at h ⊢;have ae:=λu(b:u∈t.args)=>(Kl hm d u).1;have ax:=akJ t.args 1 ae h;have e:=QT t.args 1 ae am h;have f:=nJ t;have key:∀l:List I,(∀u∈l,((ck u).length:Int)<=j6 m d u)->((bF l).length:Int)<=(l.map (j6 m d)).sum:=λl=>by
   induction l with
   |nil=>intro _;simp[bF]|cons u r ih =>
    intro c;have j:=c u be;have k:=ih λw g=>c w (aK8 _ g);simp only[bF,aKD,aKH,List.sum_cons];omega
  have n:=key t.args λu b=>akK hm d u (e.2 u b);rw[<-ax,f];split
  ·rename_i i;rw[List.length_eq_zero_iff.1 i];simp
  ·omega
variable {t:I}
theorem aJV(h:lM 20 t=true):(ck t).length<=20:=by
 simp only[lM,decide_eq_true_eq]at h;have:=akK (m:=20) ⟨am,am⟩ _ t h;omega
open Enc (enc)
def p5(r:aU):Bool:=lM 20 r.head&&decide (r.body.length<=8)&&r.body.all λx=>lM 20 x.atom
def nh(l:List aU)(m:Int):Bool:=decide ((l.length:Int)<=m)&&l.all p5
noncomputable def Tn:List iZ:=[(9,hj λ(t:I)(m:Int)=>enc (lM m t)),
 (10,hj λ(l:List aU)(g:List I)=>enc ((kb l g).getD false)),
 (7,hj λ(l:List aU)(m:Int)=>enc (nh l m&&(kb l []).getD false))]
noncomputable def p6:bj:=ij gy (e1 Tn)
instance aPh{D:bj}[h:bt D p6]:bt D gy:=h.ke
def To:List Nat:=[9,10,7]++S0
theorem akL:fq p6 To:=fq.or akt (kf Tn)
variable {f:Nat}{F:List AV->Option AV}
theorem Tp(h:∀xs,e1 Tn f xs=F xs)(hk:S0.contains f=false:=by rfl):∀xs,p6 f xs=F xs:=λxs=>by rw[<-h];exact kg akt hk
variable {D:bj}{x1 x2:AV}{l:List aU}{g:List I}{K:AV->Prop}{tg:aN K}
theorem akM[bt D p6][aT x1 l][aT x2 g](h:aA ν aD 10 [enc l,enc g] (enc ((kb l g).getD false))):b1 ν aD D 10 [x1,x2] K tg=K (enc ((kb l g).getD false)):=ik (D':=p6) (F:=λ(l:List aU)(g:List I)=>enc ((kb l g).getD false)) (Tp λ_=>rfl) h
theorem aJW[bt D p6][aT x1 t][aT x2 m](h:0<=m/\m<=1000) :b1 ν aD D 9 [x1,x2] K tg=K (enc (lM m t)):=ik (D':=p6) (F:=λ(t:I)(m:Int)=>enc (lM m t)) (Tp λ_=>rfl) (akI t h)
attribute [go_sem ↓ 2000] aJW
theorem akN(h:l.all p5=true):∀r∈l,r.body.length<=8/\∀x∈r.body,(ck x.atom).length<=1000:=λr b=>by
 have:=aK2.1 h r b;simp only[p5,aK7,decide_eq_true_eq,aK2]at this;exact⟨this.1.2,λx ah=>by have:=aJV (this.2 x ah);omega⟩
theorem aJX(l:List aU)(m:Int)(hm:0<=m/\m<=1000)(cf:nh l m=true->(kb l []).isSome=true):aA ν aD 7 [enc l,enc m] (enc (nh l m&&(kb l []).getD false)):=by
 refine aA.h4 λae=>?_;obtain⟨ae,_⟩:=ae;have C:M=1099511627776:=rfl;rcases Int.lt_or_le m (l.length:Int)with q|q
 ·have e:nh l m=false:=by rw[nh,decide_eq_false am,aKV]
  rw[e,aKV];refine aA.intro (D:=p6) ax3 cX c7 ?_;unfold Yj;simp(disch:=first|exact ai|fail) only[go_sem]
  (repeat' first|refine ag ?_|(refine ao ?_ ?_<;>intro))
  all_goals rfl
 ·have e:nh l m=l.all p5:=by rw[nh,decide_eq_true q,aK3]
  rw[e]at cf ⊢;obtain⟨R,de⟩:∃R,R=l.all p5:=⟨_,rfl⟩;rw[<-de]at cf ⊢;have w:∀{K:AV->Prop}{tg:aN K},R=true->b1 ν aD p6 10 [.list none 3 (l.map aU.enc),.aS 2] K tg=K (enc ((kb l []).getD false)):=λ{K tg}d=>by
   obtain⟨b,u⟩:=Option.isSome_iff_exists.1 (cf d);have hd:=akD l [] b am (akN (by rw[<-de];exact d)) be u;have y:(kb l []).getD false=b:=by rw[u];rfl
   exact akM (D:=p6) (K:=K) (tg:=tg) (x1:=enc l) (x2:=.aS 2) (l:=l) (g:=[]) (by rw[y];exact hd)
  refine aA.intro (D:=p6) ax3 cX c7 ?_;unfold Yj;simp(disch:=first|exact ai|fail) only[go_sem]
  (repeat' first|refine ag ?_|(refine ao ?_ ?_<;>intro))
  refine bQ (λi:Nat=>⟨N [(0,.v (enc l)),(12,.v (enc l.length)),(13,.v (enc i))],[]⟩) (λi=>i<=l.length/\(l.drop i).all p5=R) (λi=>l.length-i) 0 ⟨aKE _,de.symm⟩ ew ?_;rintro i ⟨E,c⟩;rcases aKC i l.length with h|h
  ·rw[fi h,aK5]at c;obtain⟨r,d⟩:∃r,r=l[i]!:=⟨_,rfl⟩;rw[<-d]at c;cases n:lM 20 r.head with
   |false =>
    have:p5 r=false:=by simp[p5,n]
    rw[this,aKV]at c;rw[<-c]
    (repeat' first|simp(disch:=first|exact ai|fail) only[go_sem,<-d,n]|(refine ao ?_ ?_<;>intro))
    all_goals rfl
   |true =>
    rcases aKC 8 r.body.length with v|v
    ·have:p5 r=false:=by simp[p5,decide_eq_false (show ¬r.body.length<=8 by omega)]
     rw[this,aKV]at c;rw[<-c]
     (repeat' first|simp(disch:=first|exact ai|fail) only[go_sem,<-d,n]|(refine ao ?_ ?_<;>intro))
     all_goals rfl
    ·have z:p5 r=r.body.all λx=>lM 20 x.atom:=by rw[p5,n,decide_eq_true v];rfl
     rw[z]at c
     (repeat' first|simp(disch:=first|exact ai|fail) only[go_sem,<-d,n]|(refine ao ?_ ?_<;>intro))
     refine bQ (λj:Nat=>⟨N [(0,.v (enc l)),(5,.v (enc i)),(12,.v (enc l.length)),(13,.v (enc i)),(37,.v (enc r.body.length)),(38,.v (enc j))],[]⟩) (λj=>j<=r.body.length/\(((r.body.drop j).all λx=>lM 20 x.atom)&&(l.drop (i+1)).all p5)=R) (λj=>r.body.length-j) 0 ⟨aKE _,c⟩ ew ?_;rintro j ⟨G,k⟩;rcases aKC j r.body.length with p|p
     ·rw[fi p,aK5]at k;cases o:lM 20 r.body[j]!.atom with
      |false =>
       rw[o,aKV,aKV]at k;rw[<-k]
       (repeat' first|simp(disch:=first|exact ai|fail) only[go_sem,<-d,o]|(refine ao ?_ ?_<;>intro))
       all_goals rfl
      |true =>
       rw[o,aK3]at k
       (repeat' first|simp(disch:=first|exact ai|fail) only[go_sem,<-d,o]|(refine ao ?_ ?_<;>intro))
       exact⟨j+1,⟨am,k⟩,am,ci⟩
     ·rw[aKS p,aK6,aK3]at k;refine ag ?_;exact⟨i+1,⟨am,k⟩,am,ci⟩
  ·rw[aKS h,aK6]at c;have B:=λ{K:AV->Prop}{tg:aN K}=>w (K:=K) (tg:=tg) c.symm;rw[<-c,aK3]
   (repeat' first|simp(disch:=first|exact ai|fail) only[go_sem,B]|(refine ao ?_ ?_<;>intro))
   all_goals rfl
open Enc (enc)
noncomputable def TM:List iZ:=[(8,hj λ(l:List I)(m:Int)=>enc (qI m l)),
 (11,λ_=>some (enc (true)))]
noncomputable def oF:bj:=ij p6 (e1 TM)
instance aPi{D:bj}[h:bt D oF]:bt D p6:=h.ke
def TN:List Nat:=[8,11]++To
theorem ali:fq oF TN:=fq.or akL (kf TM)
theorem TO(h:∀xs,e1 TM f xs=F xs)(hk:To.contains f=false:=by rfl):∀xs,oF f xs=F xs:=λxs=>by rw[<-h];exact kg akL hk
theorem aKd[bt D oF]   (h:aA ν aD 11 [] (enc (true))):b1 ν aD D 11 [] K tg=K (enc (true)):=aCq (D':=oF) ((show ∀xs,oF 11 xs=some (enc (true)) from TO λ_=>rfl) []) h
theorem aKe[bt D oF]{l:List I}[aT x1 l][aT x2 m](h:0<=m/\m<=1000) :b1 ν aD D 8 [x1,x2] K tg=K (enc (qI m l)):=ik (D':=oF) (F:=λ(l:List I)(m:Int)=>enc (qI m l)) (TO λ_=>rfl) (aJU l h)
attribute [go_sem ↓ 2000] aKe
theorem aKf[bt D p6][aT x1 l][aT x2 m](h:0<=m/\m<=1000)(b:nh l m=true->(kb l []).isSome=true) :b1 ν aD D 7 [x1,x2] K tg=K (enc (nh l m&&(kb l []).getD false)):=ik (D':=p6) (F:=λ(l:List aU)(m:Int)=>enc (nh l m&&(kb l []).getD false)) (Tp λ_=>rfl) (aJX l m h b)
attribute [go_sem ↓ 2000] aKf
theorem Hc(h:nh l m=true):(l.length:Int)<=m/\∀r∈l,jt r.head<=20/\r.body.length<=8/\∀x∈r.body,jt x.atom<=20:=by
 simp only[nh,aK7,decide_eq_true_eq,aK2,p5]at h;exact⟨h.1,λr b=>⟨TF am (h.2 r b).1.1,(h.2 r b).1.2,λx ah=>TF am ((h.2 r b).2 x ah)⟩⟩
theorem aKg(h:nh l m=true):∀r∈l,∀a∈dx r,cc a<=1000000:=λr b a aG=>by
 obtain⟨c,_,d⟩:=(Hc h).2 r b;simp only[dx,List.mem_cons,List.mem_map]at aG;rcases aG with rfl|⟨x,ah,rfl⟩
 ·have:=Lu 20 _ c;omega
 ·have:=Lu 20 _ (d x ah);omega
theorem alj(h:qI 60 g=true):g.length<=60/\∀a∈g,jt a<=60:=by
 simp only[qI,aK7,decide_eq_true_eq,aK2]at h;exact⟨am,λa aG=>TF am (h.2 a aG)⟩
open Enc (enc)
noncomputable def TP:List iZ:=[(17,eh λ(l:List I)=>enc (fx l))]
noncomputable def y9:bj:=ij oF (e1 TP)
instance aPj{D:bj}[h:bt D y9]:bt D oF:=h.ke
def TQ:List Nat:=[17]++TN
theorem alk:fq y9 TQ:=fq.or ali (kf TP)
open Enc (enc)
def za:Option I->AV
 |some u=>.bg [enc u,.bool true]|none=>.bg [.agg [.str [],.list none 2 []],.bool false]
noncomputable def TT:List iZ:=[(137,eh λ(s:ak)=>enc ((fw s).isSome)),
 (179,eh λ(t:I)=>enc (decide (t.args.length=0)&&(dM t.name||(fw t.name).isSome))),
 (180,eh λ(t:I)=>enc (eJ t)),
 (133,qF λ(t:I)(n:Int)(g:Bool)=>enc (cD n.toNat t (!g))),
 (92,eh λ(t:I)=>enc (cD 4 t false)),
 (132,eh λ(t:I)=>enc (cD 4 t true)),
 (134,eh λ(t:I)=>enc (eJ t)),
 (135,hj λ(s:List aY)(v:ak)=>za (jr s v))]
noncomputable def fR:bj:=ij y9 (e1 TT)
instance aPn{D:bj}[h:bt D fR]:bt D y9:=h.ke
def TU:List Nat:=[137,179,180,133,92,132,134,135]++TQ
theorem aly:fq fR TU:=fq.or alk (kf TT)
open Enc (enc)
def eb(l:List I)(s:ak):List I:=l.filter λa=>a.name==s
def nk(l:List I)(p:I):List I:=l.filter λa=>(sU p a).2
theorem Js{α:Type}[Inhabited α]{l:List α}{i:Nat}(h:i<l.length)(q:α->Bool):(l.take (i+1)).filter q=(l.take i).filter q++if q l[i]! then[l[i]!]else[]:=by
 rw[bL h,List.filter_append];cases b:q l[i]! with
 |true=>rw[List.filter_cons_of_pos b,List.filter_nil,if_pos rfl]|false=>rw[List.filter_cons_of_neg (by rw[b];simp),List.filter_nil,if_neg be]
noncomputable def O3:List iZ:=[(72,eh λ(l:List I)=>enc (l)),
 (38,eh λ(l:List aU)=>enc (l)),
 (44,hj λ(l:List I)(s:ak)=>enc (eb l s)),
 (43,hj λ(l:List I)(m:List I)=>enc (fh l m==0)),
 (48,hj λ(l:List I)(p:I)=>enc (nk l p))]
noncomputable def hI:bj:=ij fR (e1 O3)
instance aJg{D:bj}[h:bt D hI]:bt D fR:=h.ke
def O4:List Nat:=[72,38,44,43,48]++TU
theorem ado:fq hI O4:=fq.or aly (kf O3)
theorem A7(h:∀xs,e1 O3 f xs=F xs)(hk:TU.contains f=false:=by rfl):∀xs,hI f xs=F xs:=λxs=>by rw[<-h];exact kg aly hk
variable {l:List I}
theorem awB[bt D hI][aT x1 l](h:aA ν aD 72 [enc l] (enc (l))):b1 ν aD D 72 [x1] K tg=K (enc (l)):=ec (D':=hI) (F:=λ(l:List I)=>enc (l)) (A7 λ_=>rfl) h
theorem adp(l:List I)(ih:∀t∈l,aA ν aD 72 [enc t.args] (enc t.args)):aA ν aD 72 [enc l] (enc l):=by
 refine aA.h4 λb=>?_;have e:M=1099511627776:=rfl;have b:l.length<=M:=b.1;refine aA.gK (D:=hI) V5 cX (Enc.res _) (Enc.iI _) ?_;unfold uX;refine ag ?_;refine bQ (λi:Nat=>⟨N [(3,.v (.list (some 25) 2 ((l.take i).map I.enc))),(6,.v (enc l)),(7,.v (enc l.length)),(8,.v (enc i))],[]⟩) (λi=>i<=l.length) (λi=>l.length-i) 0 (aKE _) (rm @aKF.{0}) ?_;intro i al;rcases aKC i l.length with h|h
 ·have j:(l.take i).length=i:=by rw[aKU];omega
  have c:=λ{K:AV->Prop}{tg:aN K}(d:i<l.length)=>awB (D:=hI) (K:=K) (tg:=tg) (x1:=.list none 2 (l[i]!.args.map I.enc)) (ih l[i]! (ek d));refine bU @c ?_;exact⟨i+1,am,am,ci⟩
 ·obtain rfl:i=l.length:=by omega
  rw[aKR];refine ag ?_;exact⟨_,rfl,g8⟩
theorem awD(l:List I):aA ν aD 72 [enc l] (enc l):=by
 have key:∀t:I,aA ν aD 72 [enc t.args] (enc t.args):=I.ind λt ih=>adp t.args ih;exact adp l λt _=>key t
theorem awG[bt D hI][aT x1 l]  :b1 ν aD D 72 [x1] K tg=K (enc (l)):=ec (D':=hI) (F:=λ(l:List I)=>enc (l)) (A7 λ_=>rfl) (awD l)
attribute [go_sem ↓ 2000] awG
theorem awI(l:List I)(s:ak):aA ν aD 44 [enc l,enc s] (enc (eb l s)):=by
 refine aA.sy λc _=>?_;have e:M=1099511627776:=rfl;have c:l.length<=M:=c.1;refine aA.gK (D:=hI) ae6 cX (Enc.res _) (Enc.iI _) ?_;unfold Pd;refine ag ?_;refine bQ (λi:Nat=>⟨N [(1,.v (enc s)),(5,.v (.list (some 25) 2 ((eb (l.take i) s).map I.enc))),(8,.v (enc l)),(9,.v (enc l.length)),(10,.v (enc i))],[]⟩) (λi=>i<=l.length) (λi=>l.length-i) 0 (aKE _) (by(try simp(disch:=first|exact ai|fail) only[go_sem])<;>(first|rfl|(simp(disch:=first|exact aX|fail) only[b7,aKK,aKL,Env.ins,cp,cq,cr,ct,cu,cv,cw,cx,I.b0,aKB,aKM,aKN,aKO,aKF,bL,aKG,aKH,aKI,cy,cz,go_sem,aKF,eb];try rfl))) ?_;intro i al;rcases aKC i l.length with h|h
 ·have d:(eb (l.take i) s).length<=i:=by
   have:=aKX (λa:I=>a.name==s) (l.take i);rw[aKU]at this;unfold eb;omega
  have ax:eb (l.take (i+1)) s=eb (l.take i) s++if l[i]!.name==s then[l[i]!]else[]:=Js h _;rw[bL h]at ax;obtain⟨X,bA⟩:∃X,X=eb (l.take i) s:=⟨_,rfl⟩;rw[<-bA]at d ax ⊢;cases b:l[i]!.name==s with
  |true =>
   rw[b,if_pos rfl]at ax;refine bU @b ?_;exact⟨i+1,am,am,ii⟩
  |false =>
   rw[b,if_neg be,aKW]at ax
   (repeat' first|refine bU @b ?_|(refine ao ?_ ?_<;>intro))
   exact⟨i+1,am,am,ii⟩
 ·obtain rfl:i=l.length:=by omega
  rw[aKR];refine ag ?_;exact⟨_,rfl,g8⟩
theorem awJ[bt D hI]{s:ak}[aT x1 l][aT x2 s]  :b1 ν aD D 44 [x1,x2] K tg=K (enc (eb l s)):=ik (D':=hI) (F:=λ(l:List I)(s:ak)=>enc (eb l s)) (A7 λ_=>rfl) (awI l s)
attribute [go_sem ↓ 2000] awJ
theorem awK(l m:List I)(h:l.length<=M/\m.length<=M):aA ν aD 43 [enc l,enc m] (enc (fh l m==0)):=by
 refine aA.intro (D:=hI) ayr cX c7 ?_;unfold ZA;simp(disch:=first|exact ai|fail) only[go_sem]
 (repeat' first|refine ag ?_|(refine ao ?_ ?_<;>intro))
 all_goals rfl
theorem awL[bt D hI]{m:List I}[aT x1 l][aT x2 m](h:l.length<=M/\m.length<=M) :b1 ν aD D 43 [x1,x2] K tg=K (enc (fh l m==0)):=ik (D':=hI) (F:=λ(l:List I)(m:List I)=>enc (fh l m==0)) (A7 λ_=>rfl) (awK l m h)
attribute [go_sem ↓ 2000] awL
theorem awM(l:List I)(p:I)(ar:kl p<=M):aA ν aD 48 [enc l,enc p] (enc (nk l p)):=by
 refine aA.sy λc _=>?_;have e:M=1099511627776:=rfl;have c:l.length<=M:=c.1;refine aA.gK (D:=hI) ayu cX (Enc.res _) (Enc.iI _) ?_;unfold ZJ;refine ag ?_;refine bQ (λi:Nat=>⟨N [(3,.v (.cL p.enc.cells)),(5,.v (.list (some 25) 2 ((nk (l.take i) p).map I.enc))),(10,.v (enc l)),(11,.v (enc l.length)),(12,.v (enc i))],[]⟩) (λi=>i<=l.length) (λi=>l.length-i) 0 (aKE _) (by(try simp(disch:=first|exact ai|fail) only[go_sem])<;>(first|rfl|(simp(disch:=first|exact aX|fail) only[b7,aKK,aKL,Env.ins,cp,cq,cr,ct,cu,cv,cw,cx,I.b0,aKB,aKM,aKN,aKO,aKF,bL,aKG,aKH,aKI,cy,cz,go_sem,aKF,nk];try rfl))) ?_;intro i al;rcases aKC i l.length with h|h
 ·have d:(nk (l.take i) p).length<=i:=by
   have:=aKX (λa=>(sU p a).2) (l.take i);rw[aKU]at this;unfold nk;omega
  have ax:nk (l.take (i+1)) p=nk (l.take i) p++if(sU p l[i]!).2 then[l[i]!]else[]:=Js h _;rw[bL h]at ax;obtain⟨X,bA⟩:∃X,X=nk (l.take i) p:=⟨_,rfl⟩;rw[<-bA]at d ax ⊢;obtain⟨⟨R,b⟩,de⟩:∃R,R=sU p l[i]!:=⟨_,rfl⟩;have hm:DQ (sU p l[i]!)=.bg [.list none 3 (R.map aY.enc),.bool b]:=by rw[<-de];rfl
  rw[<-de]at ax;cases b with
  |true =>
   rw[if_pos rfl]at ax;refine bU @hm ?_;exact⟨i+1,am,am,ii⟩
  |false =>
   rw[if_neg be,aKW]at ax;refine bU @hm ?_;exact⟨i+1,am,am,ii⟩
 ·obtain rfl:i=l.length:=by omega
  rw[aKR];refine ag ?_;exact⟨_,rfl,g8⟩
theorem awN[bt D hI]{p:I}[aT x1 l][aT x2 p](h:kl p<=M) :b1 ν aD D 48 [x1,x2] K tg=K (enc (nk l p)):=ik (D':=hI) (F:=λ(l:List I)(p:I)=>enc (nk l p)) (A7 λ_=>rfl) (awM l p h)
attribute [go_sem ↓ 2000] awN
open Enc (enc)
def nH(o:Option Nat)(B:List Lit):AV:=if B=[]then .aS 3 else .list o 3 (B.map Lit.enc)
theorem adB(o:Option Nat):nH o []=.aS 3:=rfl
theorem adD{o:Option Nat}{B:List Lit}(h:B≠[]):nH o B=.list o 3 (B.map Lit.enc):=if_neg h
def rD(r:aU):AV:=.agg [.str r.head.name,.list none 2 (r.head.args.map I.enc),nH none r.body]
def Jt(e:Nat)(r:aU):ay:=.cells [.str r.head.name,.list none 2 (r.head.args.map I.enc),nH (some e) r.body]
instance aT.rD(r:aU):aT (rD r) r:=by
 obtain⟨⟨n,a⟩,B⟩:=r;unfold AM.rD nH;simp only;split
 ·rename_i h;subst h;exact inferInstance
 ·exact inferInstance
theorem hD.rD(l:List aU):hD (l.map rD) l:=by
 induction l with
 |nil=>exact hD.nil|cons r l ih=>exact @hD.cons _ _ _ _ _ _ (aT.rD r) ih
theorem awO(e:Nat)(B:List Lit):(nH (some e) B).a1=nH none B:=by
 unfold nH;split<;>rfl
theorem awP(l:List aU):aA ν aD 38 [enc l] (enc l):=by
 refine aA.h4 λr=>?_;have O:M=1099511627776:=rfl;obtain⟨r,k⟩:=r;refine aA.gK (D:=hI) aym cX (Enc.res _) (Enc.iI _) ?_;unfold Zq;refine ag ?_;refine bQ (λi:Nat=>⟨N [(3,.v (.list (some 61) 3 ((l.take i).map rD))),(9,.v (enc l)),(10,.v (enc l.length)),(11,.v (enc i))],(l.take i).map (Jt 63)⟩) (λi=>i<=l.length) (λi=>l.length-i) 0 (aKE _) (rm @aKF.{0}) ?_;intro i al;rcases aKC i l.length with h|h
 ·obtain⟨X,bA⟩:∃X,X=(l.take i).map (Jt 63):=⟨_,rfl⟩;have d:X.length=i:=by rw[bA,aKB,aKU];omega
  obtain⟨Z,n⟩:∃Z,Z=(l.take i).map rD:=⟨_,rfl⟩;have w:Z.length=i:=by rw[n,aKB,aKU];omega
  obtain⟨B,fN⟩:∃B,B=l[i]!.body:=⟨_,rfl⟩;obtain⟨hd,b⟩:∃hd,hd=l[i]!.head:=⟨_,rfl⟩;have x:B.length<=M:=by rw[fN];exact((aU.aqx _).1 (k _ (ek h))).2.2.1
  have o:∀{t:I},([t]:List I)[0]! = t:=rfl;have P:∀{t:I},([t]:List I).length=1:=rfl;rw[<-bA,<-n];refine mb (Eq.symm @fN) (Eq.symm @b) @d @o ?_;refine bQ (λj:Nat=>⟨N [(3,.v (.list (some 61) 3 Z)),(6,.v (.ptr i 0)),(9,.v (enc l)),(10,.v (enc l.length)),(11,.v (enc i)),(23,.v (enc B)),(24,.v (enc B.length)),(25,.v (enc j))],X++[.cells [.str hd.name,.list none 2 (hd.args.map I.enc),nH (some 63) (B.take j)]]⟩) (λj=>j<=B.length) (λj=>B.length-j) 0 (aKE _) (Ir @aKF.{0} @adB) ?_;intro j Q;rcases aKC j B.length with y|y
  ·have p:nH (some 63) (B.take j++[B[j]!])=.list (some 63) 3 ((B.take j).map Lit.enc++[B[j]!.enc]):=by
    rw[adD be,aKG];rfl
   have c:(B.take j).length=j:=by rw[aKU];omega
   have z:B[j]!.enc=.agg [.bool B[j]!.neg,.str B[j]!.atom.name,.list none 2 (B[j]!.atom.args.map I.enc)]:=rfl;rcases Nat.eq_zero_or_pos j with u|u
   ·subst u;rw[aKF,adB];rw[aKF,aKI,aLb,aLb]at p;refine gS @d @o ?_;exact⟨1,am,am,by(exact qn @p)⟩
   ·have C:nH (some 63) (B.take j)=.list (some 63) 3 ((B.take j).map Lit.enc):=adD λe=>by rw[e]at c;simp at c;omega
    rw[C];refine gS @d @o ?_;exact⟨j+1,am,am,by(exact qn @p)⟩
  ·obtain rfl:j=B.length:=by omega
   rw[aKR];have E:=awO 63 B;have G:(nH none B).eH=true:=by unfold nH;split<;>rfl
   refine iv @d @E @G ?_;have q:rD l[i]! = .agg [.str hd.name,.list none 2 (hd.args.map I.enc),nH none B]:=by rw[rD,<-b,<-fN]
   have J:Jt 63 l[i]! = .cells [.str hd.name,.list none 2 (hd.args.map I.enc),nH (some 63) B]:=by rw[Jt,<-b,<-fN]
   exact⟨i+1,am,am,by(exact zN (Eq.symm @bA) (Eq.symm @n) @q @J)⟩
 ·obtain rfl:i=l.length:=by omega
  rw[aKR];refine ag ?_;exact⟨_,rfl,λg v L=>(aT.list (hD.rD l)).kX g v (bx.disown _ _ _ g v L)⟩
theorem awU[bt D hI]{l:List aU}[aT x1 l]  :b1 ν aD D 38 [x1] K tg=K (enc (l)):=ec (D':=hI) (F:=λ(l:List aU)=>enc (l)) (A7 λ_=>rfl) (awP l)
attribute [go_sem ↓ 2000] awU
open Enc (enc)
theorem aw5(E:List bR)(q:E.length<=M):bB ν aD 125 [enc E] [] λr H'=>r=.map 0/\∃n c,H'=[.map n (cI (h0 9) c)]/\tN E c:=by
 have u:M=1099511627776:=rfl;refine bB.intro (D:=hI) azg ?_;unfold acn;refine ag ?_;refine bQ (λp:Nat×Nat×List (ak×List ak)=>⟨N [(3,.v (.map 0)),(7,.v (enc E)),(8,.v (enc E.length)),(9,.v (enc p.1))],[.map p.2.1 (cI (h0 9) p.2.2)]⟩)
  (λp=>p.1<=E.length/\tN (E.take p.1) p.2.2) (λp=>E.length-p.1) (0,0,[]) ⟨aKE _,λx=>by simp[getM,b2]⟩ (by(try simp(disch:=first|exact ai|fail) only[go_sem])<;>(first|rfl|(simp(disch:=first|exact aX|fail) only[b7,aKK,aKL,Env.ins,cp,cq,cr,ct,cu,cv,cw,cx,I.b0,aKB,aKM,aKN,aKO,aKF,bL,aKG,aKH,aKI,cy,cz,go_sem,cI];try rfl))) ?_
 rintro⟨i,n,c⟩ ⟨k,d⟩;simp only at k d;rcases aKC i E.length with h|h
 ·have ax:=d.snoc E[i]!;rw[<-bL h]at ax;have b:=d E[i]!.src;obtain⟨L,cf⟩:∃L,L=b2 (E.take i) E[i]!.src:=⟨_,rfl⟩;have v:L.length<=i:=by
   rw[cf,b2,aKB];have:=aKX (λe:bR=>e.src==E[i]!.src) (E.take i);rw[aKU]at this;omega
  rw[<-cf]at ax b;by_cases j:L=[]
  ·rw[if_pos j]at b;rw[j,aLb]at ax;have ah:[AV.str E[i]!.dst]=List.map AV.str [E[i]!.dst]:=rfl
   (repeat' first|simp(disch:=first|exact ai|fail) only[go_sem,b,aw2 b,aw4 b ah]|(refine ao ?_ ?_<;>intro))
   exact⟨(i+1,n+1,fV c E[i]!.src [E[i]!.dst]),⟨ap,ax⟩,ap,ci⟩
  ·rw[if_neg j]at b;have o:(getM c E[i]!.src).isSome=true:=by rw[b];rfl
   have ah:L.map AV.str++[AV.str E[i]!.dst]=(L++[E[i]!.dst]).map AV.str:=by rw[aKG];rfl
   (repeat' first|simp(disch:=first|exact ai|fail) only[go_sem,b,aw1 b,aw3 o ah]|(refine ao ?_ ?_<;>intro))
   exact⟨(i+1,n,fV c E[i]!.src (L++[E[i]!.dst])),⟨ap,ax⟩,ap,ci⟩
 ·obtain rfl:i=E.length:=by omega
  rw[aKR]at d
  (repeat' first|refine ag ?_|(refine ao ?_ ?_<;>intro))
  exact⟨_,rfl,rfl,n,c,rfl,d⟩
theorem aw6(l:List ak)(c:l≠[])(e:l.length<=M):bB ν aD 170 [.list none 1 (l.map AV.str)] H λr H'=>∃id,r=.bI id 0 l.length 1/\H.length<id/\H'[id]?=some (.buf 9 (l.map AV.str))/\∀i,i<H.length->H'[i]?=H[i]?:=by
 have h:M=1099511627776:=rfl;refine bB.intro (D:=hI) azN ?_;unfold adG;have b:∀(ne:Bool)(o:Option Nat)(z:Nat),Ge ne (.list o z (l.map AV.str))=some (.bool ne):=λne o z=>by simp only[Ge,List.map_eq_nil_iff,if_neg c]
 have d:(H++[.buf 9 [],.dead])[H.length]?=some (.buf 9 [])/\0<=([]:List AV).length/\([]:List AV).take 0=([]:List ak).map AV.str/\0+l.length<=M:=⟨be,aKT _,rfl,am⟩;refine bU @b ?_;simp only[List.flatten_nil,Ju d,aLb,Nat.zero_add];refine ag ?_;refine⟨_,rfl,_,rfl,?_,?_,λi al=>?_⟩
 ·simp
 ·simp
 ·rw[List.getElem?_append_left d9];exact List.getElem?_append_left al
theorem aw7(H:List ay):bB ν aD 170 [.aS 1] H λr H'=>r=.aS 1/\H'=H:=by
 refine bB.intro (D:=hI) azN ?_;unfold adG;refine ag ?_;exact⟨_,rfl,rfl⟩
def adO(E:List bR)(s:ak)(H:List ay):Prop:=∃m km,H[1]?=some (.map m (cI AV.bool km))/\(cd km).Nodup/\(∀x,x∈cd km↔x∈rV E s)/\km.length<=200000
theorem aw8(E:List bR)(s:ak){n:Nat}{h:List (ak×List ak)}(iH:E.length<=100000)(ah:tN E h):bB ν aD 124 [.map 0,enc s] [.map n (cI (h0 9) h)] λr H'=>r=.map 1/\adO E s H':=by
 have cP:M=1099511627776:=rfl;refine bB.intro (D:=hI) azf ?_;unfold acm;have G:=ah s;have Ei:∀x,(b2 E x).length<=E.length:=λx=>by
  rw[b2,aKB];exact aKX _ _
 have vS:∀met,kM E met<=E.length:=λmet=>aKX _ _;by_cases J:b2 E s=[]
 ·rw[if_pos J]at G
  (repeat' first|simp(disch:=first|exact ai|fail) only[go_sem,G]|(refine ao ?_ ?_<;>intro)|refine cA (aw7 _) ?_)
  refine bQ (λ_:Unit=>⟨N [(0,.v (.map 0)),(5,.v (.map 1)),(6,.v (.aS 1))],[.map n (cI (h0 9) h),.map 0 []]⟩) (λ_=>True) (λ_=>0) () trivial ew ?_;intro _ _
  (repeat' first|refine ag ?_|(refine ao ?_ ?_<;>intro))
  refine⟨_,rfl,rfl,0,[],rfl,aLc,λx=>?_,be⟩;rw[rV,J,adH];simp[cd]
 ·rw[if_neg J]at G;have B:∃(r:AV)(H':List ay),∃id,r=.bI id 0 (b2 E s).length 1/\([.map n (cI (h0 9) h),.map 0 []]:List ay).length<id/\H'[id]?=some (.buf 9 ((b2 E s).map AV.str))/\∀i,i<([.map n (cI (h0 9) h),.map 0 []]:List ay).length->H'[i]?=([.map n (cI (h0 9) h),.map 0 []]:List ay)[i]? :=
   ⟨_,[.map n (cI (h0 9) h),.map 0 [],.dead,.buf 9 ((b2 E s).map AV.str)],3,rfl,be,rfl,λi al=>by
    match i,al with
    |0,_=>rfl|1,_=>rfl⟩
  have aJi:=Ei s
  (repeat' first|simp(disch:=first|exact ai|fail) only[go_sem,G]|(refine ao ?_ ?_<;>intro)|(refine iJ ⟨aw6 (b2 E s) J am,B⟩ ?_;(rintro r O ⟨oo,rfl,g1,g2,V⟩))|fail)
  have g4:O[0]?=some (.map n (cI (h0 9) h)):=V 0 be;have g5:O[1]?=some (.map 0 []):=V 1 be;simp only[aKQ,aKJ]at g1
  (repeat' first|refine ag ?_|(refine ao ?_ ?_<;>intro))
  refine bQ (λp:List ay×Nat×List ak×List ak×Nat×List (ak×Bool)=>⟨N [(0,.v (.map 0)),(5,.v (.map 1)),(6,.v (.bI p.2.1 0 p.2.2.1.length 1))],p.1⟩)
   (λp=>p.1[0]?=some (.map n (cI (h0 9) h))/\p.1[1]?=some (.map p.2.2.2.2.1 (cI AV.bool p.2.2.2.2.2))/\1<p.2.1/\(∃cs,p.1[p.2.1]?=some (.buf 9 cs)/\p.2.2.1.length<=cs.length/\cs.take p.2.2.1.length=p.2.2.1.map AV.str) /\
    (cd p.2.2.2.2.2).Nodup/\(∀x,getM p.2.2.2.2.2 x=if p.2.2.2.1.contains x=true then some true else none)/\p.2.2.2.2.2.length+p.2.2.1.length+kM E p.2.2.2.1<=200000/\mA E (p.2.2.1.length+kM E p.2.2.2.1) p.2.2.1 p.2.2.2.1=rV E s)
   (λp=>p.2.2.1.length+kM E p.2.2.2.1) (O,oo,b2 E s,[],0,[]) ⟨g4,g5,ap,⟨_,g2,be,aLd be⟩,aLc,λx=>by simp[getM],by have:=vS [];simp only[aKJ];omega,rfl⟩ ew ?_
  clear g1 g2 V g4 g5 B O oo;rintro⟨H,id,b,met,m,km⟩ ⟨z,o,Jv,⟨cs,v,iT,W⟩,P,C,hlen,hw⟩;simp only at z o Jv v iT W P C hlen hw;have kA:=dq z;have cV:=dq o;have cH:=dq v
  cases e:b.getLast? with
  |none =>
   have aB:b=[]:=List.getLast?_eq_none_iff.1 e;subst aB;refine ag ?_;refine⟨_,rfl,rfl,m,km,o,P,λx=>?_,am⟩;have:=getM_none (l:=km) (s:=x);rw[adH]at hw;rw[<-hw,<-Decidable.not_iff_not,<-this,C x];by_cases q:met.contains x=true
   ·rw[if_pos q];simp only[reduceCtorEq,false_iff,Decidable.not_not];simpa using q
   ·rw[if_neg q];simp only[true_iff];simpa using q
  |some x =>
   have ar:0<b.length:=by
    cases b with
    |nil=>cases e|cons=>simp
   obtain⟨j,a8⟩:∃j,b.length=j+1:=⟨b.length-1,am⟩;have hd:b.dropLast.length=j:=by rw[List.length_dropLast];omega
   have X:((b.length:Nat):Int)-1=(j:Int):=by omega
   have Y:(j:Int)<(b.length:Int):=by omega
   have Z:decide ((b.length:Int)>0)=true:=by simpa using ar
   have axb:cs[j]?=some (.str x):=by
    have aH:(cs.take b.length)[j]?=cs[j]?:=by rw[List.getElem?_take,if_pos am]
    rw[<-aH,W,List.getElem?_map];rw[List.getLast?_eq_getElem?,a8]at e;rw[show j+1-1=j by omega]at e;rw[e];rfl
   have oe:wV 1 j (some (.buf 9 cs))=some [.str x]:=by
    rw[CR,if_pos am];obtain⟨bJ,aq⟩:=List.getElem?_eq_some_iff.1 axb;rw[List.drop_eq_getElem_cons bJ,aq];rfl
   have kd:cs.take j=b.dropLast.map AV.str:=by
    have aH:(cs.take b.length).take j=cs.take j:=by rw[List.take_take,Nat.min_eq_left am]
    rw[<-aH,W,List.dropLast_eq_take,List.map_take,a8,show j+1-1=j by omega]
   have ax:=awW (E:=E) (met:=met) e;rw[hw]at ax;have w:=C x;have Q:=ah x;cases q:met.contains x with
   |true =>
    rw[q,if_pos rfl]at w ax;refine EG @v @X @Y @Z @oe @w @o ?_;rw[if_neg be];exact⟨(H,id,b.dropLast,met,m,km),⟨z,o,Jv,⟨cs,v,ap,by simp only[hd];exact kd⟩,P,C,ap,ax.symm⟩,ap,by(exact og @hd @Nat.sub_zero)⟩
   |false =>
    rw[q,if_neg be]at w ax;have oS:=Pg (E:=E) q;have qk:(fV km x true).length=km.length+1:=by rw[ahy,w];rfl
    have aq:lo m km x=m+1:=by rw[lo,w]
    have axc:∀y,getM (fV km x true) y=if(met++[x]).contains y=true then some true else none:=λy=>by
     rw[w5];by_cases a7:y=x
     ·subst a7;simp
     ·rw[if_neg a7,C y];have:(met++[x]).contains y=met.contains y:=by rw[aKZ];simp[a7]
      rw[this]
    have aJj:=Ei x;have axd:(1:Nat)≠id:=by omega
    obtain⟨c,u⟩:∃c,c=H.set 1 (.map (lo m km x) (cI AV.bool (fV km x true))):=⟨_,rfl⟩;have gQ:c[0]?=some (.map n (cI (h0 9) h)):=by rw[u,cj am];exact z
    have cF:c[1]?=some (.map (m+1) (cI AV.bool (fV km x true))):=by rw[u,<-aq];exact dV cV
    have cO:c[id]?=some (.buf 9 cs):=by rw[u,cj axd];exact v
    have axe:c.length=H.length:=by rw[u,aKP]
    have DO:j-0=j:=Nat.sub_zero j;have fin:∀L:List ak,L=b2 E x->(c.set id .dead++[ay.buf 9 ((b.dropLast++L).map AV.str),.dead])[0]?=some (.map n (cI (h0 9) h))/\(c.set id .dead++[ay.buf 9 ((b.dropLast++L).map AV.str),.dead])[1]?=some (.map (m+1) (cI AV.bool (fV km x true)))/\1<c.length /\
      (∃cs,(c.set id .dead++[ay.buf 9 ((b.dropLast++L).map AV.str),.dead])[c.length]?=some (.buf 9 cs)/\(b.dropLast++L).length<=cs.length/\cs.take (b.dropLast++L).length=(b.dropLast++L).map AV.str) /\
      (cd (fV km x true)).Nodup/\(∀y,getM (fV km x true) y=if(met++[x]).contains y=true then some true else none)/\(fV km x true).length+(b.dropLast++L).length+kM E (met++[x])<=200000/\mA E ((b.dropLast++L).length+kM E (met++[x])) (b.dropLast++L) (met++[x])=rV E s:=by
     rintro L rfl;refine⟨?_,?_,am,⟨_,e5 (by rw[aKP]),by rw[aKB];exact aKT _,aLd (by rw[aKB];exact aKT _)⟩,AE P _ _,axc,?_,ax.symm⟩
     ·rw[dE (by rw[aKP];omega),cj am];exact gQ
     ·rw[dE (by rw[aKP];omega),cj am];exact cF
     ·rw[qk,aKD,hd];omega
    by_cases R:b2 E x=[]
    ·rw[if_pos R]at Q;have k:c[id]?=some (.buf 9 cs)/\j<=cs.length/\cs.take j=b.dropLast.map AV.str/\j+([]:List ak).length<=M:=⟨cO,am,kd,by simp only[aKJ];omega⟩;rw[u]at k;have T:=λ{e0:Env}{K:au->Prop}{t:aN K}{d:Nat}=>Ju (e0:=e0) (K:=K) (t:=t) (d:=d) k;simp only[aKI,aKW,aKJ,Nat.add_zero]at T;refine EG @v @X @Y @Z @oe @w @o ?_;rw[if_neg be];refine rp @o @z @Q @DO @T ?_;have fn:=fin [] R.symm;rw[aKW]at fn;exact⟨(c.set id .dead++[ay.buf 9 (b.dropLast.map AV.str),.dead],c.length,b.dropLast,met++[x],m+1,fV km x true),fn,by rw[R]at oS;simp only[aKJ,hd]at oS ⊢;omega,by(exact B4 @u @hd @aKP.{0})⟩
    ·rw[if_neg R]at Q;have k:c[id]?=some (.buf 9 cs)/\j<=cs.length/\cs.take j=b.dropLast.map AV.str/\j+(b2 E x).length<=M:=⟨cO,am,kd,am⟩;rw[u]at k;have T:=λ{e0:Env}{K:au->Prop}{t:aN K}{d:Nat}=>Ju (e0:=e0) (K:=K) (t:=t) (d:=d) k;refine EG @v @X @Y @Z @oe @w @o ?_;rw[if_neg be];refine rp @o @z @Q @DO @T ?_;have fn:=fin (b2 E x) rfl;exact⟨(c.set id .dead++[ay.buf 9 ((b.dropLast++b2 E x).map AV.str),.dead],c.length,b.dropLast++b2 E x,met++[x],m+1,fV km x true),fn,by simp only[aKD,hd];omega,by(exact zN @u @hd @aKP.{0} @aKD.{0})⟩
open Enc (enc)
def bm(l:List aU):List ak:=qB ((l.map λr=>r.head.name).filter λs=>!(s==eG))
noncomputable def Pq:List iZ:=[(87,hj λ(l:List bR)(s:ak)=>.list (some 9) 1 ((cM l s).map AV.str)),
 (40,eh λ(l:List aU)=>enc (bm l))]
noncomputable def ie:bj:=ij hI (e1 Pq)
instance aJk{D:bj}[h:bt D ie]:bt D hI:=h.ke
def adS:List Nat:=[87,40]++O4
theorem axi:fq ie adS:=fq.or ado (kf Pq)
theorem adT(h:∀xs,e1 Pq f xs=F xs)(hk:O4.contains f=false:=by rfl):∀xs,ie f xs=F xs:=λxs=>by rw[<-h];exact kg ado hk
theorem axj:∀E:List bR,∃b,tN E b:=λE=>by
 have:∀k,∃b,tN (E.take k) b:=λk=>by
  induction k with
  |zero=>exact⟨[],λx=>by simp[getM,b2]⟩|succ k ih =>
   obtain⟨b,h⟩:=ih;rcases aKC k E.length with hk|hk
   ·rw[bL hk];exact⟨_,h.snoc E[k]!⟩
   ·rw[aLd am];rw[aLd hk]at h;exact⟨b,h⟩
 obtain⟨b,h⟩:=this E.length;rw[aKR]at h;exact⟨b,h⟩
theorem axk:∀l:List ak,l.length<=200000->∃km:List (ak×Bool),(cd km).Nodup/\(∀x,x∈cd km↔x∈l)/\km.length<=l.length:=λl _=>by
 induction l with
 |nil=>exact⟨[],aLc,λx=>by simp[cd],aKT _⟩|cons a l ih =>
  obtain⟨km,b,c,d⟩:=ih (by simp only[aKQ]at *;omega);refine⟨fV km a true,AE b _ _,λx=>by rw[ahx,c,List.mem_cons],?_⟩;rw[ahy,aKQ];split<;>omega
theorem axp(E:List bR):∀f b met,(mA E f b met).length<=met.length+f:=λf=>by
 induction f with
 |zero=>intro b met;exact aKT _|succ f ih =>
  intro b met;rw[mA];split
  ·omega
  ·split
   ·have:=ih b.dropLast met;omega
   ·rename_i x _ _;have:=ih (b.dropLast++b2 E x) (met++[x]);rw[aKD,List.length_singleton]at this;omega
theorem Pw(E:List bR)(s:ak):(rV E s).length<=2*E.length:=by
 have h:=axp E ((b2 E s).length+kM E []) (b2 E s) [];have b:(b2 E s).length<=E.length:=by rw[b2,aKB];exact aKX _ _
 have c:kM E []<=E.length:=aKX _ _;simp only[aKJ]at h;unfold rV;omega
theorem axq:ko ν 9 1=true:=by kernel_rfl
theorem aLt(E:List bR)(s:ak)(iH:E.length<=100000):aA ν aD 87 [enc E,enc s] (.list (some 9) 1 ((cM E s).map AV.str)):=by
 have B:M=1099511627776:=rfl;refine aA.axf (D:=ie) ayT (by simp only[aK5,aK6,Enc.arg,Bool.and_self]) rfl ?_;unfold abc;obtain⟨c,j⟩:=axj E;obtain⟨b,k,o,C⟩:=axk (rV E s) (by have:=Pw E s;omega);have d:∃(r:AV)(H':List ay),r=.map 0/\∃n e,H'=[.map n (cI (h0 9) e)]/\tN E e:=⟨_,_,rfl,0,c,rfl,j⟩;have h:∃(r:AV)(H':List ay),r=.map 1/\adO E s H':=⟨_,[.dead,.map 0 (cI AV.bool b)],rfl,0,b,rfl,k,o,by have:=Pw E s;omega⟩;have p:=aw5 E (show E.length<=M by omega)
 (repeat' first|simp(disch:=first|exact ai|fail) only[go_sem]|(refine ao ?_ ?_<;>intro)|(refine iJ (And.intro p d) ?_;(rintro r G ⟨rfl,n,e,rfl,q⟩))|fail)
 have u:=aw8 E s (n:=n) iH q
 (repeat' first|simp(disch:=first|exact ai|fail) only[go_sem]|(refine ao ?_ ?_<;>intro)|(refine iJ (And.intro u h) ?_;(rintro r v ⟨rfl,m,km,w,y,z,J⟩))|fail)
 have t:=aIA (H:=v) (mid:=1) w am (X:=cM E s) λks ar=>adF (ar.nodup_iff.2 y) λx=>by rw[ar.mem_iff];exact z x
 have i:∃(r:AV)(H':List ay),GY (cM E s) r:=⟨_,[],.inr rfl⟩
 (repeat' first|simp(disch:=first|exact ai|fail) only[go_sem]|(refine ao ?_ ?_<;>intro)|(refine iJ (And.intro t i) ?_;(rintro r H' (⟨hk,rfl⟩|rfl)))|fail)
 ·rw[hk];exact⟨_,rfl,wJ.aS axq⟩
 ·exact⟨_,rfl,wJ.refl _⟩
theorem axu[bt D ie]{l:List bR}{s:ak}[aT x1 l][aT x2 s](h:l.length<=100000) :b1 ν aD D 87 [x1,x2] K tg=K (.list (some 9) 1 ((cM l s).map AV.str)):=ik (D':=ie) (F:=λ(l:List bR)(s:ak)=>.list (some 9) 1 ((cM l s).map AV.str)) (adT λ_=>rfl) (aLt l s h)
attribute [go_sem ↓ 2000] axu
theorem adV(l:List aU)(v:l.length<=100000):aA ν aD 40 [enc l] (enc (bm l)):=by
 have w:M=1099511627776:=rfl;refine aA.gK (D:=ie) ayo (by simp only[aK5,aK6,Enc.arg,Bool.and_self]) (Enc.res _) (Enc.iI _) ?_;unfold Zt;refine ag ?_;refine bQ (λp:Nat×Nat×List (ak×Bool)=>⟨N [(3,.v (.map 0)),(7,.v (enc l)),(8,.v (enc l.length)),(9,.v (enc p.1))],[.map p.2.1 (cI AV.bool p.2.2)]⟩)
  (λp=>p.1<=l.length/\(cd p.2.2).Nodup/\(∀x,x∈cd p.2.2↔x∈(l.take p.1).map λr=>r.head.name)/\p.2.2.length<=p.1) (λp=>l.length-p.1) (0,0,[]) ⟨aKE _,aLc,λx=>by simp[cd],aKE _⟩ (by(try simp(disch:=first|exact ai|fail) only[go_sem])<;>(first|rfl|(simp(disch:=first|exact aX|fail) only[b7,aKK,aKL,Env.ins,cp,cq,cr,ct,cu,cv,cw,cx,I.b0,aKB,aKM,aKN,aKO,aKF,bL,aKG,aKH,aKI,cy,cz,go_sem,cI];try rfl))) ?_
 rintro⟨i,n,km⟩ ⟨k,c,d,o⟩;simp only at k c d o;rcases aKC i l.length with h|h
 ·obtain⟨hd,b⟩:∃hd,hd=l[i]!.head.name:=⟨_,rfl⟩;refine bU (Eq.symm @b) ?_;refine⟨(i+1,lo n km hd,fV km hd true),⟨ap,AE c _ _,λx=>?_,?_⟩,ap,ci⟩
  ·simp only[ahx,d,bL h,aKG,aKH,aKI,List.mem_append,List.mem_singleton,<-b];exact or_comm
  ·simp only[ahy];split<;>omega
 ·obtain rfl:i=l.length:=by omega
  rw[aKR]at d;have bA:∀ks:List ak,ks.Perm (cd (mm km eG))->(Sort.sort ng ks.toArray).toList=bm l:=λks ar=>adF (ar.nodup_iff.2 (QX c _)) λx=>by
   rw[ar.mem_iff,List.mem_filter,<-d x];have:=QY c eG x;have e:=getM_none (l:=mm km eG) (s:=x);have q:=getM_none (l:=km) (s:=x);by_cases ah:x=eG
   ·rw[if_pos ah]at this;subst ah;simp[e.1 this]
   ·rw[if_neg ah]at this;rw[this]at e;have:x∈cd (mm km eG)↔x∈cd km:=by
     rw[<-Decidable.not_iff_not,<-e,q]
    simp[this,ah]
  have u:(mm km eG).length<=M:=Nat.le_trans (QW.length_le) am;have t:=aIA (H:=[.map n (cI AV.bool (mm km eG))]) (mid:=0) rfl u bA;have j:∃(r:AV)(H':List ay),GY (bm l) r:=⟨_,[],.inr rfl⟩
  (repeat' first|simp(disch:=first|exact ai|fail) only[go_sem]|(refine ao ?_ ?_<;>intro)|(refine iJ (And.intro t j) ?_;(rintro r H' (⟨hk,rfl⟩|rfl)))|fail)
  ·exact⟨_,rfl,ajQ (.inl ⟨hk,rfl⟩)⟩
  ·exact⟨_,rfl,ajQ (.inr rfl)⟩
theorem axv[bt D ie]{l:List aU}[aT x1 l](h:l.length<=100000) :b1 ν aD D 40 [x1] K tg=K (enc (bm l)):=ec (D':=ie) (F:=λ(l:List aU)=>enc (bm l)) (adT λ_=>rfl) (adV l h)
attribute [go_sem ↓ 2000] axv
open Enc (enc)
def lE(eU:Bool)(mid:Nat)(q:bp):List AV:=[.bool true,.list none 3 (q.rules.map aU.enc),.list none 3 ((mv q.rules).map bR.enc),.list none 1 ((bm q.rules).map AV.str),dg eU q.given,.map mid,.int .i64 (q.work:Int)]
structure bf(H:List ay)(id mid:Nat)(q:bp):Prop where
 ne:id≠mid
 o:∃eU,H[id]?=some (.cells (lE eU mid q))
 m:∃jd m,H[mid]?=some (.map jd (cI iC m))/\(cd m).Nodup/\∀s,getM m s=q.st s
 k:∀s,(q.st s).isSome=true->s∈bm q.rules
variable {id mid:Nat}{q:bp}
theorem bf.of(h:bf H id mid q)(b:H'[id]?=H[id]?)(c:H'[mid]?=H[mid]?):bf H' id mid q :=
 ⟨h.ne,by rw[b];exact h.o,by rw[c];exact h.m,h.k⟩
theorem DP(h:bf H id mid q):bB ν aD 41 [.ptr id 0] H λr H'=>r=.bool true/\H'=H:=by
 obtain⟨b,aE⟩:=h.o;unfold lE at aE;refine bB.intro (D:=ie) ayp ?_;unfold Zv;refine bU @aE ?_;exact⟨_,rfl,rfl⟩
theorem axw(st:ak->Option (List I))(ns:List ak)(n:ak):dh st (ns++[n])=dh st ns+if(st n).isNone then 1 else 0:=by
 unfold dh;rw[List.filter_append,aKD];congr 1
 cases b:st n<;>simp[b]
theorem adW(h:bf H id mid q)(ns:List ak)(j:ns.length<=100000) :
  bB ν aD 50 [.ptr id 0,enc ns] H λr H'=>r=.int .i64 (dh q.st ns:Int)/\H'=H:=by
 have k:M=1099511627776:=rfl;obtain⟨o,aE⟩:=h.o;obtain⟨jd,m,hm,p,e⟩:=h.m;unfold lE at aE;refine bB.intro (D:=ie) ae8 ?_;unfold Pf;refine ag ?_;refine bQ (λi:Nat=>⟨N [(0,.v (.ptr id 0)),(5,.v (.int .i64 (dh q.st (ns.take i):Int))),(10,.v (enc ns)),(11,.v (enc ns.length)),(12,.v (enc i))],H⟩) (λi=>i<=ns.length) (λi=>ns.length-i) 0 (aKE _) (by(try simp(disch:=first|exact ai|fail) only[go_sem])<;>(first|rfl|(simp(disch:=first|exact aX|fail) only[b7,aKK,aKL,Env.ins,cp,cq,cr,ct,cu,cv,cw,cx,I.b0,aKB,aKM,aKN,aKO,aKF,bL,aKG,aKH,aKI,cy,cz,go_sem,dh];try rfl))) ?_;intro i al;rcases aKC i ns.length with u|v
 ·have ax:=axw q.st (ns.take i) ns[i]!;have c:dh q.st (ns.take i)<=i:=by
   have:=aKX (λn=>(q.st n).isNone) (ns.take i);rw[aKU]at this;unfold dh;omega
  have b:=e ns[i]!;obtain⟨X,bA⟩:∃X,X=dh q.st (ns.take i):=⟨_,rfl⟩;rw[<-bA]at ax c ⊢;cases d:q.st ns[i]! with
  |none =>
   rw[d]at b ax;simp only[Option.isNone_none,if_true]at ax;refine iv @aE @hm @b ?_;exact⟨i+1,am,am,ii⟩
  |some L =>
   rw[d]at b ax;simp only[Option.isNone_some,aKY,if_false,Nat.add_zero]at ax;refine iv @aE @hm @b ?_;exact⟨i+1,am,am,ii⟩
 ·obtain rfl:i=ns.length:=by omega
  rw[aKR];refine ag ?_;first|exact⟨_,rfl,rfl,rfl⟩|exact⟨_,rfl,rfl⟩|rfl
theorem axx(st:ak->Option (List I))(g:List I)(ns:List ak)(n:ak):jU st g (ns++[n])=jU st g ns+((st n).getD []).length:=by
 unfold jU;rw[List.foldl_append];rfl
theorem axy(h:bf H id mid q)(ns:List ak)(w:ns.length<=100000)(x:q.given.length<=100000)(cf:∀s L,q.st s=some L->L.length<=100000) :
  bB ν aD 51 [.ptr id 0,enc ns] H λr H'=>r=.int .i64 (jU q.st q.given ns:Int)/\H'=H:=by
 have y:M=1099511627776:=rfl;obtain⟨j,aE⟩:=h.o;obtain⟨jd,m,hm,z,p⟩:=h.m;unfold lE at aE;have o:=λi=>axx q.st q.given (ns.take i) ns[i]!;have ae:∀i,i<=ns.length->jU q.st q.given (ns.take i)<=100000+i*100000:=λi=>by
  induction i with
  |zero=>intro _;rw[aKF];unfold jU;simp only[List.foldl_nil];omega|succ i ih =>
   intro al;have:=ih am;have u:=o i;rw[<-bL am]at u;have B:((q.st ns[i]!).getD []).length<=100000:=by
    cases b:q.st ns[i]! with
    |none=>simp|some L=>exact cf _ _ b
   omega
 have v:jU q.st q.given []=q.given.length:=rfl;refine bB.intro (D:=ie) aqd ?_;unfold ZY;have k:(dg j q.given=.aS 2/\((q.given.length:Nat):Int)=0)\/(dg j q.given=.list none 2 (q.given.map I.enc)/\((q.given.length:Nat):Int)=q.given.length):=by
  rcases Wk j q.given with⟨e,c⟩|e
  ·exact .inl ⟨e,by rw[c];rfl⟩
  ·exact .inr ⟨e,rfl⟩
 rcases k with⟨e,c⟩|⟨e,c⟩
 all_goals rw[e]at aE
 all_goals refine bU @aE ?_
 all_goals refine bQ (λi:Nat=>⟨N [(0,.v (.ptr id 0)),(5,.v (.int .i64 (jU q.st q.given (ns.take i):Int))),(13,.v (enc ns)),(14,.v (enc ns.length)),(15,.v (enc i))],H⟩) (λi=>i<=ns.length) (λi=>ns.length-i) 0 (aKE _) (by simp only[aKF,v,c];(try simp(disch:=first|exact ai|fail) only[go_sem])<;>(exact bl)) ?_
 all_goals
  intro i al;rcases aKC i ns.length with C|E
  ·have ax:=o i;have n:=ae i al;have d:=p ns[i]!;obtain⟨X,bA⟩:∃X,X=jU q.st q.given (ns.take i):=⟨_,rfl⟩;rw[<-bA]at ax n ⊢;cases b:q.st ns[i]! with
   |none =>
    rw[b]at d ax;simp only[Option.getD_none,aKJ,Nat.add_zero]at ax;refine iv @aE @hm @d ?_;exact⟨i+1,am,am,ii⟩
   |some L =>
    have G:=cf _ _ b;rw[b]at d ax;simp only[Option.getD_some]at ax;refine iv @aE @hm @d ?_;exact⟨i+1,am,am,ii⟩
  ·obtain rfl:i=ns.length:=by omega
   rw[aKR];refine ag ?_;first|exact⟨_,rfl,rfl,rfl⟩|exact⟨_,rfl,rfl⟩|rfl
end AM
