/- What functions of the given program do, as calls of the machine. Conditions: names and lists are bounded where that is said. -/
import Derived.Test.YtmmplkgkkkjojaaGreatDoorE42
import Derived.Test.YtmmplkgkkkjojaaGreatDoorAm10
set_option linter.unusedSimpArgs false
set_option maxRecDepth 100000
set_option maxHeartbeats 4000000
set_option linter.unusedVariables false
namespace AM
open List renaming length_set -> aKB,length_cons -> aKC,length_append -> aKD,length_filter_le -> aKE,length_nil -> aKF,mem_filter -> aKG,take_length -> aKI,filter_cons -> aKJ,take_zero -> aKK,filter_sublist -> aKN
open Nat renaming zero_le -> aKH,eq_zero_or_pos -> aKL
open Option renaming getD_some -> aKM
open Go Go.Proofs
open Enc (enc)
theorem Px(l:List aU)(ax:List ak)(s:ak):(eT l ax s).length<=ax.length:=aKE _ _
theorem Py(l:List aU)(ns:List ak):(jJ l ns).length<=l.length:=aKE _ _
variable {H:List ay}{id mid:Nat}{q:bp}
theorem axz(h:bf H id mid q)(s:ak)(iH:(mv q.rules).length<=100000)(t:(bm q.rules).length<=100000)(de:q.rules.length<=100000) :
  bB Tryz.prog aD 49 [.ptr id 0,enc s] H λr H'=>r=.bg [enc (eT q.rules (bm q.rules) s),enc (jJ q.rules (eT q.rules (bm q.rules) s))]/\H'=H:=by
 have E:M=1099511627776:=rfl;obtain⟨F,aE⟩:=h.o;unfold lE at aE;have G:(cM (mv q.rules) s).length<=200000:=by
  have J:=Pw (mv q.rules) s;have u:∀(l acc:List ak),(l.foldl (λacc s=>xf s acc) acc).length<=acc.length+l.length:=λl=>by
   induction l with
   |nil=>intro acc;simp|cons x l ih =>
    intro acc;have o:=ih (xf x acc);have v:∀a:List ak,(xf x a).length<=a.length+1:=λa=>by
     induction a with
     |nil=>simp[xf]|cons y a K=>rw[xf];split<;>(try split)<;>simp only[aKC]<;>omega
    have:=v acc;simp only[List.foldl_cons,aKC];omega
  have o:=u (rV (mv q.rules) s) [];simp only[aKF]at o;unfold cM qB;omega
 obtain⟨A,cE⟩:∃A,A=cM (mv q.rules) s++[s]:=⟨_,rfl⟩;obtain⟨T,ej⟩:∃T,T=bm q.rules:=⟨_,rfl⟩;obtain⟨b,e⟩:∃b,b=eT q.rules T s:=⟨_,rfl⟩;have f:b=T.filter λn=>A.contains n:=by rw[e,eT,cE]
 rw[<-ej]at aE t;rw[<-ej,<-e];refine bB.intro (D:=ie) ayv ?_;unfold ZL;have m:(cM (mv q.rules) s).map AV.str++[.str s]=A.map AV.str:=by rw[cE,List.map_append];rfl
 have w:((mv q.rules).map bR.enc)=(mv q.rules).map Enc.enc:=rfl;refine gS @aE @m ?_;refine bQ (λi:Nat=>⟨N [(0,.v (.ptr id 0)),(6,.v (.list (some 9) 1 (A.map AV.str))),(7,.v (.list (some 9) 1 (((T.take i).filter λn=>A.contains n).map AV.str))),(25,.v (enc T)),(26,.v (enc T.length)),(27,.v (enc i))],H⟩) (λi=>i<=T.length) (λi=>T.length-i) 0 (aKH _) (Ir @aKK.{0} @List.filter_nil.{0}) ?_;intro i al;rcases Nat.lt_or_ge i T.length with g|z
 ·have ax:=Js g (λn=>A.contains n);rw[bL g]at ax;have d:((T.take i).filter λn=>A.contains n).length<=i:=by
   have:=aKE (λn=>A.contains n) (T.take i);rw[List.length_take]at this;omega
  obtain⟨X,bA⟩:∃X,X=(T.take i).filter λn=>A.contains n:=⟨_,rfl⟩;rw[<-bA]at ax d ⊢;cases c:A.contains T[i]! with
  |true =>
   rw[c,if_pos rfl]at ax;refine bU @c ?_;exact⟨i+1,am,am,ii⟩
  |false =>
   rw[c,if_neg be,List.append_nil]at ax;refine bU @c ?_;exact⟨i+1,am,am,ii⟩
 ·obtain rfl:i=T.length:=by omega
  have B:b.length<=T.length:=by rw[f];exact aKE _ _
  rw[aKI,<-f];obtain⟨R,p⟩:∃R,R=q.rules:=⟨_,rfl⟩;rw[<-p]at aE de;rw[<-p];refine bU @aE ?_;refine bQ (λj:Nat=>⟨N [(7,.v (.list (some 9) 1 (b.map AV.str))),(10,.v (.list (some 61) 3 ((jJ (R.take j) b).map aU.enc))),(42,.v (enc R)),(43,.v (enc R.length)),(44,.v (enc j))],H⟩) (λj=>j<=R.length) (λj=>R.length-j) 0 (aKH _) (by(try simp(disch:=first|exact ai|fail) only[go_sem])<;>(first|rfl|(simp(disch:=first|exact aX|fail) only[b7,List.foldr_cons,List.foldr_nil,Env.ins,cp,cq,cr,ct,cu,cv,cw,cx,I.b0,List.length_map,Int.natCast_add,Int.natCast_one,Int.natCast_zero,aKK,bL,List.map_append,List.map_cons,List.map_nil,cy,cz,go_sem,aKK,jJ,List.filter_nil];try rfl))) ?_;intro j L;rcases Nat.lt_or_ge j R.length with g|z
  ·have ax:=Js g (λr:aU=>b.contains r.head.name);rw[bL g]at ax;have k:jJ (R.take j++[R[j]!]) b=jJ (R.take j) b++if b.contains R[j]!.head.name then[R[j]!]else[]:=ax;have d:(jJ (R.take j) b).length<=j:=by
    have:=Py (R.take j) b;rw[List.length_take]at this;omega
   obtain⟨X,bA⟩:∃X,X=jJ (R.take j) b:=⟨_,rfl⟩;rw[<-bA]at k d ⊢;have C:R[j]!.enc=.agg [.str R[j]!.head.name,.list none 2 (R[j]!.head.args.map I.enc),.list none 3 (R[j]!.body.map Lit.enc)]:=rfl;cases c:b.contains R[j]!.head.name with
   |true =>
    rw[c,if_pos rfl]at k;refine bU @c ?_;exact⟨j+1,am,am,by(exact qn @k)⟩
   |false =>
    rw[c,if_neg be,List.append_nil]at k;refine bU @c ?_;exact⟨j+1,am,am,by(exact qn @k)⟩
  ·obtain rfl:j=R.length:=by omega
   rw[aKI];refine ag ?_;first|exact⟨_,rfl,rfl,rfl⟩|exact⟨_,rfl,rfl⟩|rfl
theorem adZ(A:List I)(st:ak->Option (List I))(ns:List ak)(n s:ak):jl A st (ns++[n]) s=if s=n then some (eb A n)else jl A st ns s:=by
 unfold jl eb;by_cases h:s=n
 ·subst h;simp
 ·have:(ns++[n]).contains s=ns.contains s:=by rw[Bool.eq_iff_iff];simp[h]
  rw[this,if_neg h]
theorem ad0(A:List I)(st:ak->Option (List I))(s:ak):jl A st [] s=st s:=rfl
variable {A:List I}{e:Nat}
theorem axC(h:bf H id mid q)(ns:List ak)(b:List aU)(C:ns.length<=100000)(hk:∀n∈ns,n∈bm q.rules)(Y:q.work<=1000000000000)
  (hd:∀r∈b,∀a∈dx r,cc a<=1000000)(cE:iz b q.given=some (A,e)) :
  bB Tryz.prog aD 52 [.ptr id 0,enc ns,enc b] H λr H'=>r=.int .i64 (e:Int)/\mq (λi=>i=id\/i=mid) H H' /\
   (if e=0 then bf H' id mid ⟨q.rules,q.given,jl A q.st ns,q.work+dh q.st ns⟩else H'=H):=by
 have Z:M=1099511627776:=rfl;have E:=adW h ns C;have cG:=h.ne;have x:=Ne.symm cG;have F:dh q.st ns<=ns.length:=aKE _ _;obtain⟨f,aE⟩:=h.o;obtain⟨jd,m,hm,G,J⟩:=h.m;have EY:=aE;unfold lE at aE;have bc:=dq aE;have lm:=dq hm
 have L:=Lg b q.given hd (by rw[cE];rfl);have g:=λ{K:AV->Prop}{tg:aN K}=>K5 (D:=ie) (K:=K) (tg:=tg) (x1:=enc b) (x2:=dg f q.given) (l:=b) (a:=q.given) L;rw[cE]at g;simp only[j8]at g;have v:(enc b:AV)=.list none 3 (b.map aU.enc):=rfl;rw[v]at g;refine bB.intro (D:=ie) aqf ?_;unfold Z1;rcases aKL e with he|he
 ·subst he;have y:=λ{K:AV->Prop}{tg:aN K}=>g (K:=K) (tg:=tg);simp only[show enc A=AV.list none 2 (A.map I.enc) from rfl]at y
  (repeat' first|simp(disch:=first|exact ai|fail) only[go_sem,aE,y,Wl]|(refine ao ?_ ?_<;>intro)|refine cA E ?_)
  refine⟨⟨0,be⟩,?_⟩;obtain⟨z,FP⟩:∃z:bp,z=⟨q.rules,q.given,q.st,q.work+dh q.st ns⟩:=⟨_,rfl⟩;obtain⟨c,k⟩:∃c,c=H.set id (.cells [.bool true,.list none 3 (q.rules.map aU.enc),.list none 3 ((mv q.rules).map bR.enc),.list none 1 ((bm q.rules).map AV.str),dg f q.given,.map mid,.int .i64 ((q.work:Int)+(dh q.st ns:Int))]):=⟨_,rfl⟩;rw[<-k];have t:c[id]?=some (.cells (lE f mid ⟨q.rules,q.given,jl A q.st ns,q.work+dh q.st ns⟩)):=by rw[k,dV bc,lE];simp only[Int.natCast_add]
  have O:=t;unfold lE at t;simp only[Int.natCast_add]at t;have P:c[mid]?=some (.map jd (cI iC m)):=by rw[k,cj cG];exact hm
  have Q:c.length=H.length:=by rw[k,aKB]
  have R:=C6 P;refine bQ (λp:Nat×Nat×List (ak×List I)=>⟨N [(0,.v (.ptr id 0)),(7,.v (enc A)),(33,.v (enc ns)),(34,.v (enc ns.length)),(35,.v (enc p.1))],c.set mid (.map p.2.1 (cI iC p.2.2))⟩)
   (λp=>p.1<=ns.length/\(cd p.2.2).Nodup/\∀s,getM p.2.2 s=jl A q.st (ns.take p.1) s) (λp=>ns.length-p.1) (0,jd,m) ⟨aKH _,G,λs=>by rw[aKK,ad0];exact J s⟩ (rm @R) ?_
  rintro⟨i,o,d⟩ ⟨S,w,u⟩;simp only at S w u;rcases Nat.lt_or_ge i ns.length with T|qh
  ·have V:(c.set mid (.map o (cI iC d)))[id]?=some (.cells [.bool true,.list none 3 (q.rules.map aU.enc),.list none 3 ((mv q.rules).map bR.enc),.list none 1 ((bm q.rules).map AV.str),dg f q.given,.map mid,.int .i64 ((q.work:Int)+(dh q.st ns:Int))]):=by rw[cj x];exact t
   have W:(c.set mid (.map o (cI iC d)))[mid]?=some (.map o (cI iC d)):=dV am;refine gS @V @W ?_;exact⟨(i+1,lo o d ns[i]!,fV d ns[i]! (eb A ns[i]!)),⟨ap,AE w _ _,λs=>by simp only[bL T];rw[adZ,w5,u]⟩,ap,by(exact qn @List.set_set.{0})⟩
  ·obtain rfl:i=ns.length:=by omega
   rw[aKI]at u;refine ag ?_;refine⟨_,rfl,rfl,⟨by rw[aKB];omega,λj a8 B=>?_⟩,?_⟩
   ·rw[cj (λe=>B (.inr e.symm)),k,cj (λe=>B (.inl e.symm))]
   ·refine⟨cG,⟨f,by rw[cj x];exact O⟩,⟨o,d,dV am,w,u⟩,λs ax=>?_⟩;simp only[jl]at ax;split at ax
    ·rename_i X;exact hk s (by simpa using X)
    ·exact h.k s ax
 ·have xW:((e:Nat):Int)≠0:=by omega
  refine iv @aE @g @Wl ?_;exact⟨_,rfl,rfl,mq.refl _ _,by rw[if_neg am];trivial⟩
theorem axE(h:bf H id mid q)(rel:ak)(iH:(mv q.rules).length<=100000)(L:(bm q.rules).length<=100000) :
  bB Tryz.prog aD 45 [.ptr id 0,enc rel] H λr H'=>r=.bg []/\mq (λi=>i=id\/i=mid) H H'/\bf H' id mid ⟨q.rules,q.given,oq q.rules q.st rel,q.work⟩:=by
 have O:M=1099511627776:=rfl;have cG:=h.ne;have o:=Ne.symm cG;obtain⟨t,aE⟩:=h.o;obtain⟨jd,m,hm,y,z⟩:=h.m;have B:=aE;unfold lE at aE;have bc:=dq aE;have d:=dq hm
 obtain⟨C,u⟩:∃C:ak->Bool,C=λs=>(cM (mv q.rules) s).contains rel:=⟨_,rfl⟩;have E:=C6 hm;have P:m.length<=m.length:=Nat.le_refl _;refine bB.intro (D:=ie) ays ?_;unfold ZE;refine gS @aE @hm ?_;refine bQ (λp:List ak×List (ak×List I)=>⟨N [(0,.v (.ptr id 0)),(1,.v (enc rel)),(9,.v (.ptr H.length 0))],H.set mid (.map jd (cI iC p.2))++[.iter (some mid) jd (p.1.map AV.str)]⟩)
  (λp=>o4 C m p.1 p.2) (λp=>m.length-p.1.length) ([],m) (o4.start y) (rm @E) ?_
 rintro⟨ks,b⟩ gq;simp only at gq;have Q:=gq.len;have v:(H.set mid (.map jd (cI iC b))++[.iter (some mid) jd (ks.map AV.str)])[id]?=some (.cells [.bool true,.list none 3 (q.rules.map aU.enc),.list none 3 ((mv q.rules).map bR.enc),.list none 1 ((bm q.rules).map AV.str),dg t q.given,.map mid,.int .i64 (q.work:Int)]):=by
  rw[dE (by rw[aKB];exact bc),cj o];exact aE
 have w:(H.set mid (.map jd (cI iC b))++[.iter (some mid) jd (ks.map AV.str)])[mid]?=some (.map jd (cI iC b)):=by
  rw[dE (by rw[aKB];exact d)];exact dV d
 by_cases k:b.filter (λp=>!ks.contains p.1)=[]
 ·(repeat' first|simp(disch:=first|exact ai|fail) only[go_sem,v,w]|(refine ao ?_ ?_<;>intro)|refine Kp iC (l:=b) (ks:=ks) (mid:=mid) (n:=jd) bv bv k ?_)
  have hd:=gq.done k;refine⟨_,rfl,rfl,⟨be,λj F G=>?_⟩,cG,⟨t,?_⟩,⟨jd,b,?_,gq.n,λs=>?_⟩,λs ax=>?_⟩
  ·rw[dE (by rw[aKB];exact F),cj (λe=>G (.inr e.symm))]
  ·rw[dE (by rw[aKB];exact bc),cj o];exact B
  ·rw[dE (by rw[aKB];exact d)];exact dV d
  ·rw[hd s,u];simp only[oq,z]
  ·simp only[oq]at ax;split at ax
   ·cases ax
   ·exact h.k s ax
 ·(repeat' first|simp(disch:=first|exact ai|fail) only[go_sem,v,w]|(refine ao ?_ ?_<;>intro)|(refine Q2 iC (l:=b) (ks:=ks) (mid:=mid) (n:=jd) bv bv k ?_;(rintro⟨s,a⟩ ar J);(have R:=(sE gq.n).2 ar))|fail)
  have c:=gq.next ar J;have f:=c.len;rw[aKD]at f;have g:C s=(cM (mv q.rules) s).contains rel:=by rw[u]
  have K:∀X Y,(H.set mid X++[Y]).set mid (.map jd (cI iC (mm b s)))=H.set mid (.map jd (cI iC (mm b s)))++[Y]:=λX Y=>by
   rw[List.set_append_left _ _ (by rw[aKB];exact d),List.set_set]
  cases x:C s with
  |true =>
   rw[x]at g c;rw[if_pos rfl]at c;refine iv @aE @hm (Eq.symm @g) ?_;exact⟨(ks++[s],mm b s),c,by simp only[aKD,aKC,aKF]at *;omega,by(exact qn @K)⟩
  |false =>
   rw[x]at g c;rw[if_neg be]at c;refine iv @aE @hm (Eq.symm @g) ?_;exact⟨(ks++[s],b),c,by simp only[aKD,aKC,aKF]at *;omega,ci⟩
open Enc (enc)
def e6(l:List aU):Nat:=if hG l≠0 then hG l else if(AZ l).isNone then 10 else 0
def kB(l:List aU):bp:=⟨l,[],λ_=>none,0⟩
def JA(l:List aU)(H:List ay)(r:AV)(H':List ay):Prop :=
 (e6 l≠0/\r=.bg [.fl,.int .i64 (e6 l:Int)]/\H'=H)\/(e6 l=0/\r=.bg [.ptr (H.length+1) 0,.int .i64 0]/\mq (λ_=>False) H H'/\bf H' (H.length+1) H.length (kB l))
theorem axF(l:List aU):((AZ l).isNone=true/\sL l=.bg [.list none 2 [],.int .i64 10])\/((AZ l).isNone=false/\∃X:List e2,sL l=.bg [.list none 2 (X.map e2.enc),.int .i64 0]):=by
 unfold sL;cases AZ l with
 |none=>exact .inl ⟨rfl,rfl⟩|some lev=>exact .inr ⟨rfl,lev.map λp=>e2.mk p.1 p.2,by rw[List.map_map];rfl⟩
theorem PC(l:List aU)(t:l.length<=100000)(hd:∀r∈l,∀a∈dx r,cc a<=1000000):bB Tryz.prog aD 12 [enc l] H (JA l H):=by
 have y:M=1099511627776:=rfl;refine bB.intro (D:=ie) aqc ?_;unfold Yo;by_cases f:l.length<=128
 ·have h:=aHk f;refine ag ?_;refine bQ (λi:Nat=>⟨N [(0,.v (enc l)),(13,.v (enc l)),(14,.v (enc l.length)),(15,.v (enc i))],H⟩) (λi=>i<=l.length/\(((l.drop i).find? λr=>!(fK r==0)).map fK).getD 0=hG l) (λi=>l.length-i) 0 ⟨aKH _,by rw[h];rfl⟩ ew ?_;rintro i ⟨z,c⟩;by_cases al:i<l.length
  ·have o:=λ{K:AV->Prop}{tg:aN K}=>aHe (D:=ie) (K:=K) (tg:=tg) (x1:=l[i]!.enc) (Sb l[i]! (hd _ (ek al)));rw[fi al,List.find?_cons]at c;cases b:fK l[i]! ==0 with
   |true =>
    rw[b]at c;have p:((fK l[i]! : Nat):Int)=0:=by simpa using b
    refine gS @o @p ?_;exact⟨i+1,⟨am,c⟩,am,ci⟩
   |false =>
    rw[b]at c;have k:fK l[i]!≠0:=by simpa using b
    have p:((fK l[i]! : Nat):Int)≠0:=by omega
    have u:hG l=fK l[i]!:=by rw[<-c];rfl
    have d:e6 l=fK l[i]!:=by rw[e6,u,if_pos k]
    refine bU @o ?_;exact⟨_,rfl,.inl ⟨am,by rw[d],rfl⟩⟩
  ·rw[List.drop_eq_nil_of_le am]at c;have b:hG l=0:=c.symm;obtain⟨-,v⟩:=xi b;have g:∀r∈l,r.body.length<=8:=λr m=>(v r m).b;have B:=aIZ f g;have w:∀r∈l,r.body.length<=M:=λr m=>by have:=g r m;omega
   have C:=adV l t;rcases axF l with⟨n,e⟩|⟨n,X,e⟩
   ·have d:e6 l=10:=by rw[e6,b,if_neg be,if_pos n]
    refine bU @e ?_;exact⟨_,rfl,.inl ⟨am,by rw[d];rfl,rfl⟩⟩
   ·have d:e6 l=0:=by rw[e6,b,if_neg be,if_neg (by rw[n];simp)]
    refine bU @e ?_;refine⟨_,rfl,.inr ⟨d,be,⟨be,λj x _=>?_⟩,⟨am,⟨true,?_⟩,⟨0,[],?_,List.nodup_nil,λs=>rfl⟩,λs ax=>by cases ax⟩⟩⟩
    ·rw[dE d9,dE x]
    ·rw[e5 be];rfl
    ·rw[dE be,e5 rfl];rfl
 ·have k:hG l=2:=if_pos am;have d:e6 l=2:=by rw[e6,k];rfl
  refine ag ?_;exact⟨_,rfl,.inl ⟨am,by rw[d];rfl,rfl⟩⟩
def sM:List ak:=[[116,114,117,101],[100,111,101,115]]
def sO(q:bp)(A:List I)(bZ:List ak):ak->Option (List I):=bZ.foldl (λst rel=>if fh (eb A rel) (eb q.given rel)==0 then st else oq q.rules st rel) q.st
theorem ad2(q:bp)(A:List I)(a:List ak)(rel:ak):sO q A (a++[rel])=if fh (eb A rel) (eb q.given rel)==0 then sO q A a else oq q.rules (sO q A a) rel:=by
 unfold sO;rw[List.foldl_append];rfl
theorem ad3(h:bf H id mid q)(rel:ak):∃(r:AV)(H':List ay),r=.bg []/\mq (λi=>i=id\/i=mid) H H'/\bf H' id mid ⟨q.rules,q.given,oq q.rules q.st rel,q.work⟩:=by
 obtain⟨a,aE⟩:=h.o;obtain⟨jd,m,hm,b,c⟩:=h.m;have d:=dq hm;refine⟨_,H.set mid (.map jd (cI iC (m.filter λp=>!(cM (mv q.rules) p.1).contains rel))),rfl,⟨be,λj g f=>cj λe=>f (.inr e.symm)⟩,h.ne,⟨a,by rw[cj (Ne.symm h.ne)];exact aE⟩,
  ⟨jd,_,dV d,?_,λs=>by rw[adP (λs=>(cM (mv q.rules) s).contains rel),c];rfl⟩,λs ax=>?_⟩
 ·exact List.Nodup.sublist (List.Sublist.map _ aKN) b
 ·simp only[oq]at ax;split at ax
  ·cases ax
  ·exact h.k s ax
def iB(q:bp)(A:List I):bp:=⟨q.rules,A,sO q A sM,q.work⟩
theorem ad4(h:bf H id mid q)(g:List I)(iH:(mv q.rules).length<=100000)(v:(bm q.rules).length<=100000)(w:q.given.length<=M)(cE:iz [] g=some (A,e))(x:A.length<=M) :
  bB Tryz.prog aD 13 [.ptr id 0,enc g] H λr H'=>mq (λi=>i=id\/i=mid) H H'/\if e=0 then r=.int .i64 0/\bf H' id mid (iB q A)else r=.int .i64 13/\H'=H:=by
 have V:M=1099511627776:=rfl;have u:=DP h;have y:=Lg [] g (λr z=>by cases z) (by rw[cE];rfl);have d:=λ{K:AV->Prop}{tg:aN K}=>K5 (D:=ie) (K:=K) (tg:=tg) (x1:=.aS 3) (x2:=enc g) (l:=[]) (a:=g) y;rw[cE]at d;simp only[j8]at d;have o:(enc g:AV)=.list none 2 (g.map I.enc):=rfl;have B:(enc A:AV)=.list none 2 (A.map I.enc):=rfl;rw[o,B]at d;refine bB.intro (D:=ie) ax7 ?_;unfold Yv;rcases aKL e with he|he
 ·subst he
  (repeat' first|simp(disch:=first|exact ai|fail) only[go_sem,d]|(refine ao ?_ ?_<;>intro)|refine cA u ?_)
  obtain⟨b,f⟩:∃b,b=sM:=⟨_,rfl⟩;have C:b.map AV.str=[.str [116,114,117,101],.str [100,111,101,115]]:=by rw[f];rfl
  have E:b.length=2:=by rw[f];rfl
  refine bQ (λp:Nat×List ay=>⟨N [(0,.v (.ptr id 0)),(5,.v (enc A)),(19,.v (enc b)),(20,.v (enc b.length)),(21,.v (enc p.1))],p.2⟩)
   (λp=>p.1<=b.length/\bf p.2 id mid ⟨q.rules,q.given,sO q A (b.take p.1),q.work⟩/\mq (λi=>i=id\/i=mid) H p.2) (λp=>b.length-p.1) (0,H) ⟨aKH _,h,mq.refl _ _⟩ (Ir @C @E) ?_
  rintro⟨i,F⟩ ⟨G,c,k⟩;simp only at G c k;obtain⟨W,aE⟩:=c.o;have X:=aE;unfold lE at aE;simp only at aE;rcases Nat.lt_or_ge i b.length with J|Y
  ·have ax:=ad2 q A (b.take i) b[i]!;rw[<-bL J]at ax;have Z:(eb A b[i]!).length<=M/\(eb q.given b[i]!).length<=M:=⟨Nat.le_trans (aKE _ _) x,Nat.le_trans (aKE _ _) w⟩;cases n:fh (eb A b[i]!) (eb q.given b[i]!)==0 with
   |true =>
    rw[n,if_pos rfl]at ax;refine iv @aE @Wl @n ?_;exact⟨(i+1,F),⟨ap,by simp only;rw[ax];exact c,k⟩,ap,ci⟩
   |false =>
    rw[n,if_neg be]at ax;have t:=axE c b[i]! iH v;have L:=ad3 c b[i]!
    (repeat' first|simp(disch:=first|exact ai|fail) only[go_sem,aE,Wl,n]|(refine ao ?_ ?_<;>intro)|(refine iJ (And.intro t L) ?_;(rintro r O ⟨rfl,P,Q⟩))|fail)
    exact⟨(i+1,O),⟨ap,by simp only;rw[ax];exact Q,k.trans P⟩,ap,ci⟩
  ·obtain rfl:i=b.length:=by omega
   rw[aKI]at c;have bc:=dq aE;obtain⟨jd,m,hm,R,S⟩:=c.m;refine bU @aE ?_;refine⟨_,rfl,k.trans ⟨be,λj a8 T=>cj λe=>T (.inl e.symm)⟩,rfl,h.ne,⟨false,?_⟩,⟨jd,m,by rw[cj h.ne];exact hm,R,λs=>by rw[S];simp only[iB,f]⟩,λs ax=>c.k s (by rw[<-ax];simp only[iB,f])⟩;rw[dV bc];simp only[lE,iB,hr];rfl
 ·have xW:((e:Nat):Int)≠0:=by omega
  (repeat' first|simp(disch:=first|exact ai|fail) only[go_sem,d]|(refine ao ?_ ?_<;>intro)|refine cA u ?_)
  exact⟨_,rfl,mq.refl _ _,by rw[if_neg am]⟩
open Enc (enc)
def oG(q:bp)(ns:List ak):Option (bp×Nat) :=
 if 0<dh q.st ns\/512<jU q.st q.given ns then match iz (jJ q.rules ns) q.given with
  |none=>none|some (A,e)=>if e=0 then some (⟨q.rules,q.given,jl A q.st ns,q.work+dh q.st ns⟩,0)else some (q,e)
 else some (q,0)
def rW(s:ak):Bool:=s==[116,114,117,101]||s==[100,111,101,115]
def iX(q:bp)(p:I):Option (bp×List I×Nat) :=
 if !ug p then some (q,[],13)
 else if rW p.name then some (q,nk q.given p,0)
 else match oG q (eT q.rules (bm q.rules) p.name)with
  |none=>none|some (hT,e)=>if e≠0 then some (hT,[],e)else some (hT,nk ((hT.st p.name).getD []) p,0)
structure iY(q:bp):Prop where
 e:(mv q.rules).length<=100000
 h:(bm q.rules).length<=100000
 r:q.rules.length<=100000
 g:q.given.length<=100000
 l:∀s L,q.st s=some L->L.length<=100000
 w:q.work<=1000000000000
 d:∀r∈q.rules,∀a∈dx r,cc a<=1000000
theorem axH(A:List I)(st:ak->Option (List I)){m:List (ak×List I)}(d:(cd m).Nodup)(f:∀s,getM m s=st s)(ns:List ak):∃a:List (ak×List I),(cd a).Nodup/\∀s,getM a s=jl A st ns s:=by
 have key:∀k,k<=ns.length->∃a:List (ak×List I),(cd a).Nodup/\∀s,getM a s=jl A st (ns.take k) s:=λk=>by
  induction k with
  |zero=>exact λ_=>⟨m,d,λs=>by rw[aKK,ad0,f]⟩|succ k ih =>
   intro hk;obtain⟨a,c,b⟩:=ih am;exact⟨fV a ns[k]! (eb A ns[k]!),AE c _ _,λs=>by rw[bL hk,adZ,w5,b]⟩
 obtain⟨a,c,b⟩:=key ns.length (Nat.le_refl _);rw[aKI]at b;exact⟨a,c,b⟩
theorem ad5(h:bf H id mid q)(ns:List ak)(hk:∀n∈ns,n∈bm q.rules)(A:List I)(e:Nat):∃(r:AV)(H':List ay),r=.int .i64 (e:Int)/\mq (λi=>i=id\/i=mid) H H' /\
   (if e=0 then bf H' id mid ⟨q.rules,q.given,jl A q.st ns,q.work+dh q.st ns⟩else H'=H):=by
 by_cases he:e=0
 ·obtain⟨a,aE⟩:=h.o;obtain⟨jd,m,hm,d,f⟩:=h.m;have bc:=dq aE;have g:=dq hm
  obtain⟨b,k,l⟩:=axH A q.st d f ns;refine⟨_,(H.set id (.cells (lE a mid ⟨q.rules,q.given,jl A q.st ns,q.work+dh q.st ns⟩))).set mid (.map jd (cI iC b)),rfl,⟨be,λj p c=>?_⟩,?_⟩
  ·rw[cj (λe=>c (.inr e.symm)),cj (λe=>c (.inl e.symm))]
  ·rw[if_pos he];refine⟨h.ne,⟨a,by rw[cj (Ne.symm h.ne),dV bc]⟩,⟨jd,b,dV (by rw[aKB];exact g),k,l⟩,λs ax=>?_⟩;simp only[jl]at ax;split at ax
   ·rename_i o;exact hk s (by simpa using o)
   ·exact h.k s ax
 ·exact⟨_,H,rfl,mq.refl _ _,by rw[if_neg he]⟩
variable {hT:bp}{L:List I}
theorem ad6(h:bf H id mid q)(ae:iY q)(p:I)(ar:kl p<=M)(de:iX q p=some (hT,L,e)) :
  bB Tryz.prog aD 14 [.ptr id 0,enc p] H λr H'=>r=.bg [enc L,.int .i64 (e:Int)]/\mq (λi=>i=id\/i=mid) H H'/\bf H' id mid hT:=by
 have cP:M=1099511627776:=rfl;have l:=DP h;obtain⟨eU,aE⟩:=h.o;have EY:=aE;unfold lE at aE;obtain⟨jd,m,hm,pB,aF⟩:=h.m;refine bB.kX ?_;refine bB.intro (D:=ie) ax8 ?_;unfold Yx;unfold iX at de;have w:ug p=(cD 4 p true&&dM p.name):=rfl;have G:rW p.name=(p.name==[116,114,117,101]||p.name==[100,111,101,115]):=rfl;cases g:cD 4 p true with
 |false =>
  rw[g,Bool.false_and]at w;rw[w]at de;simp only[Bool.not_false,if_true,Option.some.injEq,Prod.mk.injEq]at de;obtain⟨rfl,rfl,rfl⟩:=de
  (repeat' first|simp(disch:=first|exact ai|fail) only[go_sem,g]|(refine ao ?_ ?_<;>intro)|refine cA l ?_)
  exact⟨_,rfl,_,bx.bg (.cons (bx.aS 2) (.cons (bx.refl _) .nil)),(λ_ _ _ h=>d6),rfl,mq.refl _ _,h⟩
 |true =>
  cases j:dM p.name with
  |false =>
   rw[g,j,Bool.and_false]at w;rw[w]at de;simp only[Bool.not_false,if_true,Option.some.injEq,Prod.mk.injEq]at de;obtain⟨rfl,rfl,rfl⟩:=de
   (repeat' first|simp(disch:=first|exact ai|fail) only[go_sem,g,j]|(refine ao ?_ ?_<;>intro)|refine cA l ?_)
   exact⟨_,rfl,_,bx.bg (.cons (bx.aS 2) (.cons (bx.refl _) .nil)),(λ_ _ _ h=>d6),rfl,mq.refl _ _,h⟩
  |true =>
   rw[g,j,Bool.and_true]at w;rw[w]at de;simp only[Bool.not_true,Bool.false_eq_true,if_false]at de;cases k:p.name==[116,114,117,101]with
   |true =>
    rw[G,k,Bool.true_or,if_pos rfl]at de;simp only[Option.some.injEq,Prod.mk.injEq]at de;obtain⟨rfl,rfl,rfl⟩:=de
    (repeat' first|simp(disch:=first|exact ai|fail) only[go_sem,g,j,k,aE,Wl]|(refine ao ?_ ?_<;>intro)|refine cA l ?_)
    exact⟨_,rfl,_,bx.refl _,(λ_ _ _ h=>d6),rfl,mq.refl _ _,h⟩
   |false =>
    cases u:p.name==[100,111,101,115]with
    |true =>
     rw[G,k,u,Bool.or_true,if_pos rfl]at de;simp only[Option.some.injEq,Prod.mk.injEq]at de;obtain⟨rfl,rfl,rfl⟩:=de
     (repeat' first|simp(disch:=first|exact ai|fail) only[go_sem,g,j,k,u,aE,Wl]|(refine ao ?_ ?_<;>intro)|refine cA l ?_)
     exact⟨_,rfl,_,bx.refl _,(λ_ _ _ h=>d6),rfl,mq.refl _ _,h⟩
    |false =>
     rw[G,k,u,Bool.or_false,if_neg be]at de;obtain⟨b,C⟩:∃b,b=eT q.rules (bm q.rules) p.name:=⟨_,rfl⟩;rw[<-C]at de;have J:b.length<=100000:=by have:=Px q.rules (bm q.rules) p.name;have:=ae.h;rw[C];omega
     have oA:(jJ q.rules b).length<=100000:=by have:=Py q.rules b;have:=ae.r;omega
     have x:=axz h p.name ae.e ae.h ae.r;rw[<-C]at x;have y:=adW h b J;have z:=axy h b J ae.g ae.l;have hk:∀n∈b,n∈bm q.rules:=λn W=>by rw[C]at W;exact(aKG.1 W).1
     have K:∀r∈jJ q.rules b,∀a∈dx r,cc a<=1000000:=λr aw=>ae.d r (aKG.1 aw).1;have E9:(enc b:AV)=.list none 1 (b.map AV.str):=rfl;have H7:(enc (jJ q.rules b):AV)=.list none 3 ((jJ q.rules b).map aU.enc):=rfl;by_cases X:0<dh q.st b\/512<jU q.st q.given b
     ·unfold oG at de;rw[if_pos X]at de;cases O:iz (jJ q.rules b) q.given with
      |none=>rw[O]at de;cases de|some R =>
       obtain⟨A,P⟩:=R;rw[O]at de;simp only at de;have E:=axC h b (jJ q.rules b) J hk ae.w K O;have F:=ad5 h b hk A P;rcases aKL P with Y|Y
       ·subst Y;simp only[if_true,ne_eq,not_true_eq_false,if_false,Option.some.injEq,Prod.mk.injEq]at de;obtain⟨rfl,rfl,rfl⟩:=de;have ny:((jl A q.st b p.name).getD [])=((jl A q.st b p.name).getD []):=rfl;rcases aKL (dh q.st b)with Q|Q
        ·have f:decide ((dh q.st b:Int)>0)=false:=by simp;omega
         have o:decide ((jU q.st q.given b:Int)>512)=true:=by simp;omega
         (repeat' first|simp(disch:=first|exact ai|fail) only[go_sem,g,j,k,u,f,o]|(refine ao ?_ ?_<;>intro)|refine cA l ?_|refine cA x ?_|refine cA y ?_|refine cA z ?_)
         refine⟨⟨0,be⟩,?_⟩
         (repeat' first|simp(disch:=first|exact ai|fail) only[go_sem,f,o]|(refine ao ?_ ?_<;>intro)|refine cA z ?_|(refine iJ (And.intro E F) ?_;(rintro r S ⟨rfl,s,c⟩))|fail)
         rw[if_pos rfl]at c;obtain⟨T,t⟩:=c.o;unfold lE at t;simp only at t;obtain⟨v2,m2,B,x6,V⟩:=c.m;have d:=V p.name;simp only at d;cases v:jl A q.st b p.name with
         |none =>
          rw[v]at d
          (repeat' first|simp(disch:=first|exact ai|fail) only[go_sem,t,B,d,Option.getD_none]|(refine ao ?_ ?_<;>intro))
          exact⟨_,rfl,_,bx.refl _,(λ_ _ _ h=>d6),rfl,s,c⟩
         |some Z =>
          rw[v]at d
          (repeat' first|simp(disch:=first|exact ai|fail) only[go_sem,t,B,d,aKM]|(refine ao ?_ ?_<;>intro))
          exact⟨_,rfl,_,bx.refl _,(λ_ _ _ h=>d6),rfl,s,c⟩
        ·have f:decide ((dh q.st b:Int)>0)=true:=by simp;omega
         (repeat' first|simp(disch:=first|exact ai|fail) only[go_sem,g,j,k,u,f]|(refine ao ?_ ?_<;>intro)|refine cA l ?_|refine cA x ?_|refine cA y ?_)
         refine⟨⟨0,be⟩,?_⟩
         (repeat' first|simp(disch:=first|exact ai|fail) only[go_sem,f]|(refine ao ?_ ?_<;>intro)|(refine iJ (And.intro E F) ?_;(rintro r S ⟨rfl,s,c⟩))|fail)
         rw[if_pos rfl]at c;obtain⟨T,t⟩:=c.o;unfold lE at t;simp only at t;obtain⟨v2,m2,B,x6,V⟩:=c.m;have d:=V p.name;simp only at d;cases v:jl A q.st b p.name with
         |none =>
          rw[v]at d
          (repeat' first|simp(disch:=first|exact ai|fail) only[go_sem,t,B,d,Option.getD_none]|(refine ao ?_ ?_<;>intro))
          exact⟨_,rfl,_,bx.refl _,(λ_ _ _ h=>d6),rfl,s,c⟩
         |some Z =>
          rw[v]at d
          (repeat' first|simp(disch:=first|exact ai|fail) only[go_sem,t,B,d,aKM]|(refine ao ?_ ?_<;>intro))
          exact⟨_,rfl,_,bx.refl _,(λ_ _ _ h=>d6),rfl,s,c⟩
       ·have xW:((P:Nat):Int)≠0:=by omega
        rw[if_neg am]at de;simp only at de;rw[if_pos am]at de;simp only[Option.some.injEq,Prod.mk.injEq]at de;obtain⟨rfl,rfl,rfl⟩:=de;rcases aKL (dh q.st b)with Q|Q
        ·have f:decide ((dh q.st b:Int)>0)=false:=by simp;omega
         have o:decide ((jU q.st q.given b:Int)>512)=true:=by simp;omega
         (repeat' first|simp(disch:=first|exact ai|fail) only[go_sem,g,j,k,u,f,o]|(refine ao ?_ ?_<;>intro)|refine cA l ?_|refine cA x ?_|refine cA y ?_)
         refine⟨⟨0,be⟩,?_⟩
         (repeat' first|simp(disch:=first|exact ai|fail) only[go_sem,f,o]|(refine ao ?_ ?_<;>intro)|refine cA z ?_|(refine iJ (And.intro E F) ?_;(rintro r S ⟨rfl,s,c⟩))|fail)
         rw[if_neg am]at c;subst c
         (repeat' first|simp(disch:=first|exact ai|fail) only[go_sem]|(refine ao ?_ ?_<;>intro))
         exact⟨_,rfl,_,bx.bg (.cons (bx.aS 2) (.cons (bx.refl _) .nil)),(λ_ _ _ h=>d6),rfl,s,h⟩
        ·have f:decide ((dh q.st b:Int)>0)=true:=by simp;omega
         (repeat' first|simp(disch:=first|exact ai|fail) only[go_sem,g,j,k,u,f]|(refine ao ?_ ?_<;>intro)|refine cA l ?_|refine cA x ?_|refine cA y ?_)
         refine⟨⟨0,be⟩,?_⟩
         (repeat' first|simp(disch:=first|exact ai|fail) only[go_sem,f]|(refine ao ?_ ?_<;>intro)|(refine iJ (And.intro E F) ?_;(rintro r S ⟨rfl,s,c⟩))|fail)
         rw[if_neg am]at c;subst c
         (repeat' first|simp(disch:=first|exact ai|fail) only[go_sem]|(refine ao ?_ ?_<;>intro))
         exact⟨_,rfl,_,bx.bg (.cons (bx.aS 2) (.cons (bx.refl _) .nil)),(λ_ _ _ h=>d6),rfl,s,h⟩
     ·unfold oG at de;rw[if_neg X]at de;simp only[ne_eq,not_true_eq_false,if_false,Option.some.injEq,Prod.mk.injEq]at de;obtain⟨rfl,rfl,rfl⟩:=de;have f:decide ((dh q.st b:Int)>0)=false:=by simp;omega
      have o:decide ((jU q.st q.given b:Int)>512)=false:=by simp;omega
      have d:=aF p.name
      (repeat' first|simp(disch:=first|exact ai|fail) only[go_sem,g,j,k,u,f,o]|(refine ao ?_ ?_<;>intro)|refine cA l ?_|refine cA x ?_|refine cA y ?_)
      refine⟨⟨0,be⟩,?_⟩;cases v:q.st p.name with
      |none =>
       rw[v]at d
       (repeat' first|simp(disch:=first|exact ai|fail) only[go_sem,f,o,aE,hm,d,Option.getD_none]|(refine ao ?_ ?_<;>intro)|refine cA z ?_)
       exact⟨_,rfl,_,bx.refl _,(λ_ _ _ h=>d6),rfl,mq.refl _ _,h⟩
      |some Z =>
       rw[v]at d
       (repeat' first|simp(disch:=first|exact ai|fail) only[go_sem,f,o,aE,hm,d,aKM]|(refine ao ?_ ?_<;>intro)|refine cA z ?_)
       exact⟨_,rfl,_,bx.refl _,(λ_ _ _ h=>d6),rfl,mq.refl _ _,h⟩
open Enc (enc)
theorem PG(h:bf H id mid q)(p:I)(de:iX q p=some (hT,L,e)) :
  ∃(r:AV)(H':List ay),r=.bg [enc L,.int .i64 (e:Int)]/\mq (λi=>i=id\/i=mid) H H'/\bf H' id mid hT:=by
 unfold iX at de;split at de
 ·simp only[Option.some.injEq,Prod.mk.injEq]at de;obtain⟨rfl,rfl,rfl⟩:=de;exact⟨_,H,rfl,mq.refl _ _,h⟩
 ·split at de
  ·simp only[Option.some.injEq,Prod.mk.injEq]at de;obtain⟨rfl,rfl,rfl⟩:=de;exact⟨_,H,rfl,mq.refl _ _,h⟩
  ·split at de
   ·cases de
   ·rename_i d g a;have key:∃H',mq (λi=>i=id\/i=mid) H H'/\bf H' id mid d:=by
     unfold oG at a;split at a
     ·split at a
      ·cases a
      ·rename_i A j k;split at a
       ·rename_i he;simp only[Option.some.injEq,Prod.mk.injEq]at a;obtain⟨rfl,rfl⟩:=a;obtain⟨r,H',-,b,c⟩:=ad5 h (eT q.rules (bm q.rules) p.name) (λn f=>(aKG.1 f).1) A 0;exact⟨H',b,iF⟩
       ·simp only[Option.some.injEq,Prod.mk.injEq]at a;obtain⟨rfl,rfl⟩:=a;exact⟨H,mq.refl _ _,h⟩
     ·simp only[Option.some.injEq,Prod.mk.injEq]at a;obtain⟨rfl,rfl⟩:=a;exact⟨H,mq.refl _ _,h⟩
    obtain⟨H',b,c⟩:=key;split at de
    ·simp only[Option.some.injEq,Prod.mk.injEq]at de;obtain⟨rfl,rfl,rfl⟩:=de;exact⟨_,H',rfl,b,c⟩
    ·simp only[Option.some.injEq,Prod.mk.injEq]at de;obtain⟨rfl,rfl,rfl⟩:=de;exact⟨_,H',rfl,b,c⟩
theorem ad7(h:bf H id mid q)(ae:iY q)(a:I)(ar:kl a<=M)(de:cD 4 a false=true->iX q a=some (hT,L,e))(f:cD 4 a false=false->hT=q/\L=[]/\e=13)(cf:L.length<=M) :
  bB Tryz.prog aD 18 [.ptr id 0,enc a] H λr H'=>r=.bg [.bool (decide (0<L.length)),.int .i64 (e:Int)]/\mq (λi=>i=id\/i=mid) H H'/\bf H' id mid hT:=by
 have m:M=1099511627776:=rfl;have d:=DP h;refine bB.intro (D:=ie) ae2 ?_;unfold O7;cases b:cD 4 a false with
 |false =>
  obtain⟨rfl,rfl,rfl⟩:=f b
  (repeat' first|simp(disch:=first|exact ai|fail) only[go_sem,b]|(refine ao ?_ ?_<;>intro)|refine cA d ?_)
  exact⟨_,rfl,rfl,mq.refl _ _,h⟩
 |true =>
  have de:=de b;have g:=ad6 h ae a ar de;have c:=PG h a de;have j:decide ((L.length:Int)>0)=decide (0<L.length):=by rw[Bool.eq_iff_iff];simp
  (repeat' first|simp(disch:=first|exact ai|fail) only[go_sem,b,j]|(refine ao ?_ ?_<;>intro)|refine cA d ?_|(refine iJ (And.intro g c) ?_;(rintro r n ⟨rfl,k,l⟩))|fail)
  exact⟨_,rfl,rfl,k,l⟩
open Enc (enc)
def ad9(p g:I)(s:List aY):List aY×Bool :=
 if !q1 s||!cD 4 g false then([],false)else if(xE p g s).2&&q1 (xE p g s).1 then((xE p g s).1,true)else([],false)
def axL(l:List I)(p:I):List I:=l.filter λa=>(ad9 p a []).2
noncomputable def aea:List iZ:=[(136,hj λ(s:List aY)(b:aY)=>enc (lZ b s)),
 (93,qF λ(p:I)(g:I)(s:List aY)=>DQ (xE p g s)),
 (91,eh λ(s:List aY)=>enc (q1 s)),
 (53,qF λ(p:I)(g:I)(s:List aY)=>DQ (ad9 p g s)),
 (15,hj λ(l:List I)(p:I)=>enc (axL l p))]
noncomputable def Bc:bj:=ij ie (e1 aea)
instance aKj{D:bj}[h:bt D Bc]:bt D ie:=h.ke
def PH:List Nat:=[136,93,91,53,15]++adS
theorem aeb:fq Bc PH:=fq.or axi (kf aea)
open Enc (enc)
def mV(q:bp):List ak:=(bm q.rules).filter λs=>(q.st s).isSome
theorem PL(h:bf H id mid q):bB Tryz.prog aD 21 [.ptr id 0] H λr H'=>r=.int .i64 (q.work:Int)/\H'=H:=by
 have a:=DP h;obtain⟨b,aE⟩:=h.o;unfold lE at aE;refine bB.intro (D:=ie) aya ?_;unfold YK
 (repeat' first|simp(disch:=first|exact ai|fail) only[go_sem,aE]|(refine ao ?_ ?_<;>intro)|refine cA a ?_)
 exact⟨_,rfl,rfl⟩
def axM(ID:Nat)(H:List ay)(v:AV)(ks:List ak):Prop:=(ks=[]/\v=.aS 1)\/(ks≠[]/\∃id,v=.bI id 0 ks.length 1/\ID<=id/\H[id]?=some (.buf 9 (ks.map AV.str)))
theorem axN{s:au}{d e:Nat}{K:au->Prop}{t:aN K}{a:ak}:o7 s d e 1 K t (.aS 1) (some (1,[.str a]))=di { s with heap:=s.heap++[ay.buf e [.str a],.dead] } d (.bI s.heap.length 0 1 1) K ⟨⟩:=by
 simp only[o7,aKC,aKF];rfl
theorem aec:∀l:List ak,im l=l.map AV.str
 |[]=>rfl|_::r=>by rw[im,aec r];rfl
variable {l:List aU}{st:ak->Option (List I)}
theorem axO(hk:∀s,(st s).isSome=true->s∈bm l){ks:List ak}(c:ks.Nodup)(hm:∀s,s∈ks↔(st s).isSome=true):(Sort.sort ng ks.toArray).toList=(bm l).filter λs=>(st s).isSome:=by
 obtain⟨d,f⟩:=ajt GQ Sq c;have e:bm l=((l.map λr=>r.head.name).filter λs=>!(s==eG)).foldl (λa x=>nO ng x a) []:=by
  simp[bm,qB,Ss]
 obtain⟨b,-⟩:=GS GQ Sq ((l.map λr=>r.head.name).filter λs=>!(s==eG)) [] List.Pairwise.nil;rw[<-e]at b;refine Sn GQ d (b.sublist aKN) λx=>?_;rw[f,hm,aKG];exact⟨λh=>⟨hk _ h,h⟩,λh=>h.2⟩
theorem mq.dead{H':List ay}{o:ay}(h:mq (λ_=>False) H H'):mq (λ_=>False) H (H'.set H.length o) :=
 ⟨by rw[aKB];exact h.1,λj a b=>by rw[cj am];exact h.2 j a b⟩
theorem axP(h:bf H id mid q)(mO:(bm q.rules).length<=100000):bB Tryz.prog aD 22 [.ptr id 0] H λr H'=>r=enc (mV q)/\mq (λ_=>False) H H':=by
 have cP:M=1099511627776:=rfl;have K3:=DP h;obtain⟨eU,aE⟩:=h.o;obtain⟨jd,m,hm,pB,aF⟩:=h.m;have EY:=aE;unfold lE at aE;have bc:=dq aE;have lm:=dq hm
 have x:∀s,s∈cd m↔(q.st s).isSome=true:=λs=>by
  rw[<-aF s];have:=getM_none (l:=m) (s:=s);cases uk:getM m s with
  |none=>simp only[this.1 uk,Option.isSome_none,Bool.false_eq_true]|some a =>
   rw[uk]at this;simp only[Option.isSome_some,iff_true];by_cases g:s∈cd m
   ·exact g
   ·exact absurd (this.2 g) be
 have rk:m.length<=100000:=by
  have:=List.Nodup.length_le_of_subset pB λs ax=>h.k s ((x s).1 ax);simp only[cd,List.length_map]at this;omega
 refine bB.kX ?_;refine bB.intro (D:=ie) ayb ?_;unfold YN
 (repeat' first|simp(disch:=first|exact ai|fail) only[go_sem,aE,hm]|(refine ao ?_ ?_<;>intro)|refine cA K3 ?_)
 refine bQ (λp:List ak×AV×List ay=>⟨N [(3,.v p.2.1),(12,.v (.ptr H.length 0))],p.2.2⟩)
  (λp=>o4 (λ_=>false) m p.1 m/\p.2.2[H.length]?=some (.iter (some mid) jd (p.1.map AV.str))/\axM (H.length+1) p.2.2 p.2.1 p.1/\mq (λ_=>False) H p.2.2) (λp=>m.length-p.1.length) ([],.aS 1,H++[.iter (some mid) jd []]) ⟨o4.start pB,e5 rfl,.inl ⟨rfl,rfl⟩,⟨be,λj i _=>dE i⟩⟩ ew ?_
 rintro⟨ks,v,o⟩ ⟨gq,z,V,B⟩;simp only at gq z V B;have gb:=gq.len;have O:o[mid]?=some (.map jd (cI iC m)):=(B.2 _ lm (λh=>h)).trans hm;have li:=dq z;by_cases P:m.filter (λp=>!ks.contains p.1)=[]
 ·have C:∀s,s∈ks↔(q.st s).isSome=true:=λs=>by
   rw[<-x];refine⟨gq.Dj s,λax=>?_⟩;by_cases g:s∈ks
   ·exact g
   ·obtain⟨p,ar,rfl⟩:=List.mem_map.1 ax;have:p∈m.filter (λp=>!ks.contains p.1):=aKG.2 ⟨ar,by simpa using g⟩;rw[P]at this;cases this
  have E:=axO h.k gq.o8 C;rcases V with⟨rfl,rfl⟩|⟨cG,c,rfl,Jv,ae⟩
  ·have aB:mV q=[]:=List.filter_eq_nil_iff.2 λs _ g=>by cases (C s).2 g
   (repeat' first|simp(disch:=first|exact ai|fail) only[go_sem]|(refine ao ?_ ?_<;>intro)|refine Kp iC (l:=m) (ks:=[]) (mid:=mid) (n:=jd) z O P ?_|refine cA (aIb _) ?_)
   refine⟨_,rfl,enc (mV q),?_,Enc.iI _,rfl,B.dead⟩;rw[aB];exact(aT.aS (α:=ak)).kX
  ·obtain⟨b,F⟩:∃b,b=o.set H.length .dead:=⟨_,rfl⟩;have Q:b[c]?=some (.buf 9 (ks.map AV.str)):=by rw[F,cj am];exact ae
   have k:mq (λ_=>False) H b:=F▸B.dead;have nF:=dq Q;have oS:xk 9 b c ks=b:=by unfold xk;rw[aec];exact C6 Q
   have R:=aIc nF (L:=ks.length) (l:=ks) rfl am;rw[oS,E]at R;have S5:(mV q).length=ks.length:=by
    rw[mV,<-E];simpa using(Sort.sort_sorts ng GQ ks.toArray).1.1
   rw[show((bm q.rules).filter λs=>(q.st s).isSome)=mV q from rfl]at R;obtain⟨X,bA⟩:∃X,X=mV q:=⟨_,rfl⟩;rw[<-bA]at R S5 ⊢;have W:∃(r:AV)(H':List ay),r=.bg []/\∃y,H'=xk 9 (b++y) c X:=⟨_,_,rfl,[],rfl⟩
   (repeat' first|simp(disch:=first|exact ai|fail) only[go_sem,<-F]|(refine ao ?_ ?_<;>intro)|refine Kp iC (l:=m) (ks:=ks) (mid:=mid) (n:=jd) z O P ?_|(refine iJ (And.intro R W) ?_;(rintro r yM ⟨rfl,y,rfl⟩))|fail)
   have g5:(xk 9 (b++y) c X)[c]?=some (.buf 9 (im X)):=Sc (by rw[aKD];omega);have Gx:=λ{l:Env}{t:Nat}=>aH8 (l:=l) (H:=xk 9 (b++y) c X) (t:=t) (e:=9) (id:=c) (n:=ks.length) (m:=X) ⟨S5,am⟩
   (repeat' first|refine gS @g5 @Gx ?_|(refine ao ?_ ?_<;>intro))
   refine⟨_,rfl,enc X,bx.disown _ _ _,Enc.iI _,rfl,?_,λj i G=>?_⟩
   ·have:=k.1;simp only[xk,aKB,aKD];omega
   ·rw[cj am];unfold xk;rw[cj am,dE (by have:=k.1;omega)];exact k.2 j i G
 ·have aKl:H.length<o.length:=li;obtain⟨b,F⟩:∃b:ak->List ay,b=λs=>o.set H.length (.iter (some mid) jd ((ks++[s]).map AV.str)):=⟨_,rfl⟩;have u:∀s,o.set H.length (.iter (some mid) jd ((ks++[s]).map AV.str))=b s:=λs=>by rw[F]
  have gl:∀s,(b s).length=o.length:=λs=>by rw[<-u,aKB]
  have Y:∀s,mq (λ_=>False) H (b s):=λs=>by rw[<-u];exact B.dead
  have S:∀s,(b s)[H.length]?=some (.iter (some mid) jd ((ks++[s]).map AV.str)):=λs=>by rw[<-u];exact dV li
  have oY:∀s,(b s)[mid]?=some (.map jd (cI iC m)):=λs=>by rw[<-u,cj am];exact O
  (repeat' first|simp(disch:=first|exact ai|fail) only[go_sem,u]|(refine ao ?_ ?_<;>intro)|(refine Q2 iC (l:=m) (ks:=ks) (mid:=mid) (n:=jd) z O P ?_;(rintro⟨s,a⟩ ar Da);(have By:=(sE gq.n).2 ar))|fail)
  have T:=gq.next ar Da;simp only[Bool.false_eq_true,if_false]at T;have f:=T.len;rw[aKD]at f;simp only[aKC,aKF]at f;have w:=Y s;have J:=gl s;rcases V with⟨EP,rfl⟩|⟨cG,c,rfl,Jv,ae⟩
  ·refine mb @S @oY @By @axN ?_;refine⟨(ks++[s],.bI (b s).length 0 1 1,b s++[.buf 9 [.str s],.dead]),⟨T,?_,.inr ⟨be,(b s).length,by rw[EP];rfl,am,by rw[EP];exact e5 rfl⟩,⟨by rw[aKD];have:=w.1;omega,λj i G=>?_⟩⟩,by simp only[aKD,aKC,aKF];omega,by(exact qn @J)⟩
   ·rw[dE am];exact S s
   ·rw[dE (by have:=w.1;omega)];exact w.2 j i G
  ·have Q:(b s)[c]?=some (.buf 9 (ks.map AV.str)):=by rw[<-u,cj am];exact ae
   have Z:(b s)[c]?=some (.buf 9 (ks.map AV.str))/\ks.length<=(ks.map AV.str).length/\(ks.map AV.str).take ks.length=ks.map AV.str/\ks.length+[s].length<=M:=⟨Q,be,List.take_of_length_le be,by simp only[aKC,aKF];omega⟩;have bk:=λ{e0:Env}{K:au->Prop}{t:aN K}{d:Nat}=>Ju (e0:=e0) (K:=K) (t:=t) (d:=d) Z;simp only[List.map_cons,List.map_nil,aKC,aKF]at bk;refine mb @S @oY @By @bk ?_;refine⟨(ks++[s],.bI (b s).length 0 (ks.length+1) 1,(b s).set c .dead++[.buf 9 ((ks++[s]).map AV.str),.dead]),⟨T,?_,.inr ⟨be,_,by rw[aKD];rfl,am,e5 (by rw[aKB])⟩,⟨by rw[aKD,aKB];have:=w.1;omega,λj i G=>?_⟩⟩,by simp only[aKD,aKC,aKF];omega,by(exact qn @J)⟩
   ·rw[dE (by rw[aKB];omega),cj am];exact S s
   ·rw[dE (by rw[aKB];have:=w.1;omega),cj am];exact w.2 j i G
open Enc (enc)
mutual
theorem aef:∀t:I,kl t=jt t
 |.mk n l=>by have:=aeg l;rw[kl,jt,this,Nat.add_comm]
theorem aeg:∀l:List I,o3 l=oE l
 |[]=>rfl|t::r=>by have a:=aef t;have b:=aeg r;rw[o3,oE,a,b]
end
theorem aeh{b:Nat}:∀{l:List I},(∀t∈l,kl t<=b)->o3 l<=l.length*b
 |[],_=>aKH _|t::r,h=>by
  have a:=h t be;have c:=aeh (l:=r) λx ah=>h x (by simp[ah]);rw[o3,aKC,Nat.succ_mul];omega
theorem aei{v:Bool}:∀{n:Nat}{t:I},cD n t v=true->kl t<=5 ^ n
 |0,_,h=>by cases h|n+1,t,h=>by
  obtain⟨a,_,c,_⟩:=tZ h;have:=aeh (b:=5 ^ n) λu d=>aei (c u d);have f:t.args.length*5 ^ n<=4*5 ^ n:=Nat.mul_le_mul_right _ a;have g:1<=5 ^ n:=Nat.one_le_pow _ _ am;rw[ac5,Nat.pow_succ];omega
variable {a:I}
theorem axR(h:cD 4 a false=true):kl a<=M:=by
 have:=aei h;have b:M=1099511627776:=rfl;omega
theorem aej(l:List aU):bm l=((l.map λr=>r.head.name).filter λs=>!(s==eG)).foldl (λa x=>nO ng x a) []:=by
 simp[bm,qB,Ss]
theorem PN{x:ak}:x∈bm l↔(∃r∈l,r.head.name=x)/\x≠eG:=by
 rw[aej,(GS GQ Sq _ [] List.Pairwise.nil).2];simp[aKG]
theorem aek(l:List aU):y2 ng (bm l):=by
 rw[aej];exact(GS GQ Sq _ [] List.Pairwise.nil).1
theorem ael{l:List ak}(h:y2 ng l):l.Nodup:=h.imp λ{a b}c he=>by
 rw[he,GQ.irrefl]at c;cases c
theorem aem(l:List aU):(bm l).length<=l.length:=by
 have h:=List.Nodup.length_le_of_subset (ael (aek l)) λx ah=>(show x∈l.map λr=>r.head.name from by
  obtain⟨⟨r,b,e⟩,_⟩:=PN.1 ah;exact List.mem_map.2 ⟨r,b,e⟩)
 simpa using h
theorem axV(h:hG l=0):∀r∈l,fK r=0:=λr c=>by
 unfold hG at h;split at h
 ·cases h
 ·cases b:l.find? λr=>!(fK r==0)with
  |none =>
   have:=List.find?_eq_none.1 b r c;simpa using this
  |some s =>
   rw[b]at h;have:=List.find?_some b;simp only[Option.map_some,aKM]at h;rw[h]at this;simp at this
theorem axW{r:aU}(h:fK r=0):rW r.head.name=false:=by
 have b:kj r.head true=0:=by
  unfold fK at h;split at h
  ·cases h
  ·split at h
   ·omega
   ·rename_i f;have d:kG (dx r) true=0:=by simpa using f
    rw[dx,kG]at d;split at d
    ·assumption
    ·assumption
 cases c:rW r.head.name with
 |false=>rfl|true =>
  unfold rW at c;simp only[Bool.or_eq_true,beq_iff_eq]at c;unfold kj at b;have fin:∀k:gE,ln r.head.name=some k->k.head=false->true=false:=λk hk g=>by
   rw[hk]at b;simp only[g]at b;split at b
   ·cases b
   ·split at b
    ·cases b
    ·split at b
     ·cases b
     ·simp at b
  rcases c with e|e
  ·exact fin ⟨[116,114,117,101],1,false,true⟩ (by rw[e];rfl) rfl
  ·exact fin ⟨[100,111,101,115],2,false,true⟩ (by rw[e];rfl) rfl
theorem wK(h:e6 l=0):hG l=0/\(AZ l).isNone=false:=by
 unfold e6 at h;split at h
 ·rename_i b;exact absurd h b
 ·rename_i b;split at h
  ·cases h
  ·rename_i c;refine⟨by simpa using b,?_⟩;cases d:(AZ l).isNone with
   |false=>rfl|true=>exact absurd d c
theorem aen(h:hG l=0){n:ak}(b:n∈bm l):rW n=false:=by
 obtain⟨⟨r,c,rfl⟩,_⟩:=PN.1 b;exact axW (axV h r c)
theorem P1(h:A0 a=true):rW a.name=true:=by
 unfold A0 at h;unfold rW;simp only[Bool.and_eq_true,Bool.or_eq_true]at h ⊢;rcases h.1 with h|h
 ·exact .inl h.1
 ·exact .inr h.1
theorem axX:oC []=([],0):=by rfl
theorem axY(g:List I):iz [] g=if rO g then some (fx g,0)else some ([],13):=by
 unfold iz;rw[if_neg dw,axX,if_neg be];cases rO g<;>rfl
theorem aeo{s:ak}(b:List ak)(h:sO q A b s=some L):q.st s=some L:=by
 have key:∀(b:List ak)(st:ak->Option (List I)),b.foldl (λst rel=>if fh (eb A rel) (eb q.given rel)==0 then st else oq q.rules st rel) st s=some L->st s=some L:=λb=>by
  induction b with
  |nil=>intro st h;exact h|cons r b ih =>
   intro st h;have:=ih _ h;simp only at this;split at this
   ·exact this
   ·unfold oq at this;split at this
    ·cases this
    ·exact this
 exact key b q.st h
theorem iY.new(h:hG l=0)(hd:∀r∈l,∀a∈dx r,cc a<=1000000):iY (kB l):=by
 obtain⟨b,c⟩:=xi h;have f:=aI0 l;have g:=aI1 l;have i:=aIZ b λr d=>(c r d).b;have j:=aem l;exact⟨by simp only[kB];omega,by simp only[kB];omega,by simp only[kB];omega,by simp[kB],λs L ax=>(by cases ax),by simp[kB],hd⟩
theorem iY.set(h:iY q)(cE:A.length<=100000):iY (iB q A) :=
 ⟨h.e,h.h,h.r,cE,λs L ax=>h.l s L (aeo sM ax),h.w,h.d⟩
variable {ns:List ak}
theorem iY.put(h:iY q)(cE:A.length<=100000){w:Nat}(b:w<=1000000000000):iY ⟨q.rules,q.given,jl A q.st ns,w⟩ :=
 ⟨h.e,h.h,h.r,h.g,λs L ax=>by
  simp only[jl]at ax;split at ax
  ·simp only[Option.some.injEq]at ax;have:=aKE (λa:I=>a.name==s) A;rw[<-ax];omega
  ·exact h.l s L ax,b,h.d⟩
variable {g:List I}
theorem axZ :∀{ns:List ak},ns.Nodup->(∀n∈ns,st n=some (A.filter λa=>a.name==n))->jU st g ns=g.length+(A.filter λa=>ns.contains a.name).length:=λ{ns}=>by
 have key:∀(ns:List ak)(k:Nat),ns.Nodup->(∀n∈ns,st n=some (A.filter λa=>a.name==n))->ns.foldl (λk n=>k+((st n).getD []).length) k=k+(A.filter λa=>ns.contains a.name).length:=λns=>by
  induction ns with
  |nil=>intro k _ _;simp|cons n ns ih =>
   intro k i ax;obtain⟨j,m⟩:=List.nodup_cons.1 i;rw[List.foldl_cons,ih _ m λx ah=>ax x (by simp[ah]),ax n be,aKM];have c:∀B:List I,(B.filter λa=>(n::ns).contains a.name).length=(B.filter λa=>a.name==n).length+(B.filter λa=>ns.contains a.name).length:=λB=>by
    induction B with
    |nil=>rfl|cons b B d =>
     by_cases ae:b.name=n
     ·have f:(n::ns).contains b.name=true:=by simp[ae]
      have o:ns.contains b.name=false:=by rw[ae];simpa using j
      have h:(b.name==n)=true:=by simp[ae]
      rw[aKJ,aKJ,aKJ,f,o,h,if_pos rfl,if_pos rfl,if_neg be,aKC,aKC,d];omega
     ·have h:(b.name==n)=false:=by simpa using ae
      have f:(n::ns).contains b.name=ns.contains b.name:=by
       rw[Bool.eq_iff_iff];simp[ae]
      rw[aKJ,aKJ,aKJ,f,h];cases ns.contains b.name with
      |true=>rw[if_pos rfl,if_neg be,if_pos rfl,aKC,aKC,d];omega|false=>rw[if_neg be,if_neg be,if_neg be,d]
   rw[c];omega
 exact key ns _
theorem ax1(d:ns.Nodup)(ax:∀n∈ns,st n=some (A.filter λa=>a.name==n))(cE:A.Nodup)(f:g.Nodup)(c:∀a∈g,a∈A)(h:∀a∈g,a.name∉ns):jU st g ns<=A.length:=by
 rw[axZ d ax,<-aKD];refine List.Nodup.length_le_of_subset ?_ λa aG=>?_
 ·rw[List.nodup_append];refine⟨f,cE.sublist aKN,λa aG b ae e=>?_⟩;subst e;have:=(aKG.1 ae).2;exact h a aG (by simpa using this)
 ·rcases List.mem_append.1 aG with aG|aG
  ·exact c a aG
  ·exact(aKG.1 aG).1
theorem ax6(h:∀n∈ns,(st n).isSome=true):dh st ns=0:=by
 unfold dh;rw[List.length_eq_zero_iff,List.filter_eq_nil_iff];intro n b;have:=h n b;cases ax:st n with
 |none=>rw[ax]at this;cases this|some x=>simp
theorem ayq(l:List aU)(s:ak):(eT l (bm l) s).Nodup:=(ael (aek l)).sublist aKN
theorem iY.ask{p:I}(h:iY q)(f:q.work+(bm q.rules).length<=1000000000000)(de:iX q p=some (hT,L,e)):iY hT/\hT.rules=q.rules/\hT.given=q.given/\hT.work<=q.work+(bm q.rules).length:=by
 have ax:iY q/\q.rules=q.rules/\q.given=q.given/\q.work<=q.work+(bm q.rules).length:=⟨h,rfl,rfl,am⟩;have iH:∀ns,ns.length<=(bm q.rules).length->∀x,oG q ns=some x->iY x.1/\x.1.rules=q.rules/\x.1.given=q.given/\x.1.work<=q.work+(bm q.rules).length:=λns i x ah=>by
  unfold oG at ah;split at ah
  ·split at ah
   ·cases ah
   ·rename_i A j b;split at ah
    ·rename_i c;subst c;cases ah;have hm:dh q.st ns<=ns.length:=aKE _ _;exact⟨h.put (A:=A) (by have:=(DN b).1;omega) am,rfl,rfl,ap⟩
    ·cases ah;exact ax
  ·cases ah;exact ax
 unfold iX at de;split at de
 ·cases de;exact ax
 ·split at de
  ·cases de;exact ax
  ·split at de
   ·cases de
   ·rename_i k m d;have:=iH _ (Px q.rules (bm q.rules) p.name) _ d;split at de<;>(cases de;exact this)
theorem aep(H:List ay)(l:List aU):∃(r:AV)(H':List ay),JA l H r H':=by
 by_cases h:e6 l=0
 ·refine⟨_,H++[.map 0 (cI iC []),.cells (lE true H.length (kB l))],.inr ⟨h,rfl,⟨be,λj b _=>dE b⟩,am,⟨true,fs rfl⟩,⟨0,[],e5 rfl,List.nodup_nil,λs=>rfl⟩,λs ax=>by cases ax⟩⟩
 ·exact⟨_,H,.inl ⟨h,rfl,rfl⟩⟩
theorem ayx(h:bf H id mid q)(A:List I)(b:List ak):∃H',mq (λi=>i=id\/i=mid) H H'/\bf H' id mid ⟨q.rules,q.given,sO q A b,q.work⟩:=by
 have key:∀k,k<=b.length->∃H',mq (λi=>i=id\/i=mid) H H'/\bf H' id mid ⟨q.rules,q.given,sO q A (b.take k),q.work⟩:=λk=>by
  induction k with
  |zero=>exact λ_=>⟨H,mq.refl _ _,h⟩|succ k ih =>
   intro hk;obtain⟨H',c,d⟩:=ih am;rw[bL hk,ad2];split
   ·exact⟨H',c,d⟩
   ·obtain⟨_,f,-,j,m⟩:=ad3 d b[k]!;exact⟨f,c.trans j,m⟩
 have:=key b.length (Nat.le_refl _);rwa[aKI]at this
theorem ayz(h:bf H id mid q)(A:List I)(e:Nat):∃(r:AV)(H':List ay),mq (λi=>i=id\/i=mid) H H'/\if e=0 then r=.int .i64 0/\bf H' id mid (iB q A)else r=.int .i64 13/\H'=H:=by
 by_cases he:e=0
 ·obtain⟨c,d,b⟩:=ayx h A sM;obtain⟨o,aE⟩:=b.o;obtain⟨jd,m,hm,f,k⟩:=b.m;have bc:=dq aE;refine⟨.int .i64 0,c.set id (.cells (lE false mid (iB q A))),d.trans ⟨be,λj p n=>cj λe=>n (.inl e.symm)⟩,?_⟩;rw[if_pos he];exact⟨rfl,h.ne,⟨false,dV bc⟩,⟨jd,m,by rw[cj h.ne];exact hm,f,k⟩,b.k⟩
 ·exact⟨.int .i64 13,H,mq.refl _ _,by rw[if_neg he];exact⟨rfl,rfl⟩⟩
end AM
