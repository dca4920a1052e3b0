/- What functions of the given program do, as calls of the machine. Conditions: names and lists are bounded where that is said. -/
import Derived.Test.YtmmplkgkkkjojaaGreatDoorSS
import Derived.Test.YtmmplkgkkkjojaaGreatDoorAm9
import Derived.Test.YtmmplkgkkkjojaaGreatDoorOk
set_option linter.unusedSimpArgs false
set_option maxRecDepth 100000
set_option maxHeartbeats 4000000
set_option linter.unusedVariables false
namespace AM
open List renaming length_map -> aKB,all_cons -> aKC,all_nil -> aKD,map_nil -> aKH,take_zero -> aKI,map_append -> aKJ,length_append -> aKK,map_cons -> aKL,foldr_cons -> aKM,foldr_nil -> aKN,length_cons -> aKR,take_length -> aKS,getElem?_cons_zero -> aKT,drop_eq_nil_of_le -> aKV,length_eq_zero_iff -> aKW,append_nil -> aKX,set_cons_zero -> aKY,map_map -> aKZ,length_nil -> aK2
open Bool renaming and_self -> aKE,false_eq_true -> aKU,eq_iff_iff -> aK4,true_and -> aK5,false_and -> aK6,and_eq_true -> aK8
open Nat renaming lt_or_ge -> aKF,zero_le -> aKG,eq_zero_or_pos -> aK7
open Int renaming natCast_add -> aKO,natCast_one -> aKP,natCast_zero -> aKQ
open Option renaming map_some -> aK3
open Go Go.Proofs
open Tryz renaming prog -> ν
open Enc (enc)
theorem aIu(H:List ay)(mid:Nat):bB ν aD 114 [.map mid] H λr H'=>r=.fn 157 [.ptr H.length 0]/\H'=H++[.cells [.map mid]]:=by
 refine bB.intro (D:=h7) ay8 ?_;unfold ab8;refine ag ?_;exact⟨_,rfl,d8⟩
variable {H:List ay}{id mid m:Nat}{km:List (ak×Bool)}
theorem aIv(f:H[id]?=some (.cells [.map mid]))(g:H[mid]?=some (.map m (cI AV.bool km)))(i:km.length<=M) :
  bB ν aD 156 [.fn 157 [.ptr id 0]] H λr H'=>(km=[]/\r=.aS 1/\H'=H)\/(km≠[]/\∃ks:List ak,ks.Perm (cd km)/\r=.bI H.length 0 ks.length 1/\H'=H++[.buf 9 (im ks),.dead]):=by
 have j:(cI AV.bool km).map (·.1)=(cd km).map AV.str:=by simp only[cI,cd,aKZ];first|rfl|(rw[List.map_id];rfl)|simp[qQ,bR.enc,Function.comp_def]
 have t:=ajp (gl:=aD) ap9 asO f g (λe he=>by simp only[cI,List.mem_map]at he;obtain⟨p,_,rfl⟩:=he;rfl) (λe he=>by simp only[cI,List.mem_map]at he;obtain⟨p,_,rfl⟩:=he;rfl) (by simp only[cI,aKB];exact i);have k:bB ν aD 195 [.aS 1,.fn 157 [.ptr id 0]] H λr H'=>(km=[]/\r=.aS 1/\H'=H)\/(km≠[]/\∃ks:List ak,ks.Perm (cd km)/\r=.bI H.length 0 ks.length 1/\H'=H++[.buf 9 (im ks),.dead]):=by
  refine t.mono ?_;rintro r H' (⟨b,a,c⟩|⟨b,ks,a,c,l⟩)
  ·exact .inl ⟨by simpa[cI]using b,a,c⟩
  ·rw[j]at a;obtain⟨n,o,rfl⟩:=ajq a;exact .inr ⟨λe=>b (by rw[e];rfl),n,o,by rw[c,aKB],by rw[l,ajr]⟩
 have d:∃(r:AV)(H':List ay),(km=[]/\r=.aS 1/\H'=H)\/(km≠[]/\∃ks:List ak,ks.Perm (cd km)/\r=.bI H.length 0 ks.length 1/\H'=H++[.buf 9 (im ks),.dead]):=by
  by_cases h:km=[]
  ·exact⟨_,_,.inl ⟨h,rfl,rfl⟩⟩
  ·exact⟨_,_,.inr ⟨h,_,.refl _,rfl,rfl⟩⟩
 refine bB.intro (D:=h7) azD ?_;unfold adm
 (repeat' first|simp(disch:=first|exact ai|fail) only[go_sem]|(refine ao ?_ ?_<;>intro)|(refine iJ ⟨k,d⟩ ?_;(rintro r H' (⟨hk,rfl,rfl⟩|⟨hk,ks,ar,rfl,rfl⟩)))|fail)
 ·exact⟨_,rfl,.inl (by first|exact⟨hk,rfl,rfl⟩|exact⟨hk,rfl⟩|simp[hk])⟩
 ·exact⟨_,rfl,.inr (by first|exact⟨hk,ks,ar,rfl,rfl⟩|exact⟨hk,ks,ar,rfl⟩)⟩
def GY(X:List ak)(r:AV):Prop:=(X=[]/\r=.aS 1)\/r=.list (some 9) 1 (X.map AV.str)
variable {X:List ak}
theorem aIw(d:H[id]?=some (.cells [.map mid]))(e:H[mid]?=some (.map m (cI AV.bool km)))(f:km.length<=M)(bA:∀ks:List ak,ks.Perm (cd km)->(Sort.sort ng ks.toArray).toList=X) :
  bB ν aD 113 [.fn 157 [.ptr id 0]] H λr _=>GY X r:=by
 have o:M=1099511627776:=rfl;have t:=aIv d e f;have b:∃(r:AV)(a:List ay),(km=[]/\r=.aS 1/\a=H)\/(km≠[]/\∃ks:List ak,ks.Perm (cd km)/\r=.bI H.length 0 ks.length 1/\a=H++[.buf 9 (im ks),.dead]):=by
  by_cases h:km=[]
  ·exact⟨_,_,.inl ⟨h,rfl,rfl⟩⟩
  ·exact⟨_,_,.inr ⟨h,_,.refl _,rfl,rfl⟩⟩
 have jn:=λa=>aIb a;have g:∀ks:List ak,H++[.buf 9 (im ks),.dead]=xk 9 (H++[.dead,.dead]) H.length ks:=λks=>by simp[xk]
 have i:H.length<(H++[ay.dead,ay.dead]).length:=by simp
 have j:∀ks:List ak,ks.Perm (cd km)->bB ν aD 57 [.bI H.length 0 ks.length 1] (H++[.buf 9 (im ks),.dead]) λr a=>r=.bg []/\∃y,a=xk 9 ((H++[.dead,.dead])++y) H.length X:=λks ar=>by
  have:=aIc i (l:=ks) rfl (by have:=ar.length_eq;simp only[cd,aKB]at this;omega);rw[bA ks ar,<-g]at this;exact this
 have c:∀ks:List ak,ks.Perm (cd km)->X.length=ks.length:=λks ar=>by
  have:=(Sort.sort_sorts ng GQ ks.toArray).1.1;rw[<-bA ks ar];simpa using this
 have k:∀y,(xk 9 ((H++[.dead,.dead])++y) H.length X)[H.length]?=some (.buf 9 (im X)):=λy=>Sc (by rw[aKK];omega);refine bB.intro (D:=h7) ay7 ?_;unfold ab6
 (repeat' first|simp(disch:=first|exact ai|fail) only[go_sem,k]|(refine ao ?_ ?_<;>intro)|(refine iJ ⟨t,b⟩ ?_;(rintro r a (⟨hk,rfl,rfl⟩|⟨hk,ks,ar,rfl,rfl⟩)))|refine cA (jn _) ?_|(refine ajm (j ks ar) ?_;(intro p);(have q:=c ks ar);(have n:=ar.length_eq);(simp only[cd,aKB]at n))|fail)
 ·refine⟨_,rfl,.inl ⟨?_,rfl⟩⟩;exact aKW.1 (c [] (by rw[hk];exact .refl _))
 ·exact⟨_,rfl,.inr rfl⟩
open Enc (enc)
theorem aIx(H:List ay)(mid:Nat):bB ν aD 74 [.map mid] H λr H'=>r=.fn 110 [.ptr H.length 0]/\H'=H++[.cells [.map mid]]:=by
 refine bB.intro (D:=h7) Fs ?_;unfold kD;refine ag ?_;exact⟨_,rfl,d8⟩
theorem aIy{km:List bR}(f:H[id]?=some (.cells [.map mid]))(g:H[mid]?=some (.map m (iq km)))(i:km.length<=M) :
  bB ν aD 108 [.fn 110 [.ptr id 0]] H λr H'=>(km=[]/\r=.aS 3/\H'=H)\/(km≠[]/\∃ks:List bR,ks.Perm (sK km)/\r=.bI H.length 0 ks.length 3/\H'=H++[.buf 107 (fW ks),.dead]):=by
 have j:(iq km).map (·.1)=(sK km).map bR.enc:=by simp only[iq,sK,aKZ];first|rfl|(rw[List.map_id];rfl)|simp[qQ,bR.enc,Function.comp_def]
 have t:=ajp (gl:=aD) ap8 (asP rfl) f g (λe he=>by simp only[iq,List.mem_map]at he;obtain⟨p,_,rfl⟩:=he;rfl) (λe he=>by simp only[iq,List.mem_map]at he;obtain⟨p,_,rfl⟩:=he;rfl) (by simp only[iq,aKB];exact i);have k:bB ν aD 153 [.aS 3,.fn 110 [.ptr id 0]] H λr H'=>(km=[]/\r=.aS 3/\H'=H)\/(km≠[]/\∃ks:List bR,ks.Perm (sK km)/\r=.bI H.length 0 ks.length 3/\H'=H++[.buf 107 (fW ks),.dead]):=by
  refine t.mono ?_;rintro r H' (⟨b,a,c⟩|⟨b,ks,a,c,l⟩)
  ·exact .inl ⟨by simpa[iq]using b,a,c⟩
  ·rw[j]at a;obtain⟨n,o,rfl⟩:=ajq a;exact .inr ⟨λe=>b (by rw[e];rfl),n,o,by rw[c,aKB],by rw[l,ajs]⟩
 have d:∃(r:AV)(H':List ay),(km=[]/\r=.aS 3/\H'=H)\/(km≠[]/\∃ks:List bR,ks.Perm (sK km)/\r=.bI H.length 0 ks.length 3/\H'=H++[.buf 107 (fW ks),.dead]):=by
  by_cases h:km=[]
  ·exact⟨_,_,.inl ⟨h,rfl,rfl⟩⟩
  ·exact⟨_,_,.inr ⟨h,_,.refl _,rfl,rfl⟩⟩
 refine bB.intro (D:=h7) ay2 ?_;unfold abP
 (repeat' first|simp(disch:=first|exact ai|fail) only[go_sem]|(refine ao ?_ ?_<;>intro)|(refine iJ ⟨k,d⟩ ?_;(rintro r H' (⟨hk,rfl,rfl⟩|⟨hk,ks,ar,rfl,rfl⟩)))|fail)
 ·exact⟨_,rfl,.inl (by first|exact⟨hk,rfl,rfl⟩|exact⟨hk,rfl⟩|simp[hk])⟩
 ·exact⟨_,rfl,.inr (by first|exact⟨hk,ks,ar,rfl,rfl⟩|exact⟨hk,ks,ar,rfl⟩)⟩
def SA(X:List bR)(r:AV):Prop:=(X=[]/\r=.aS 3)\/r=.list (some 107) 3 (X.map bR.enc)
theorem aIz{km:List bR}(d:H[id]?=some (.cells [.map mid]))(e:H[mid]?=some (.map m (iq km)))(f:km.length<=M){X:List bR}(bA:∀ks:List bR,ks.Perm (sK km)->(Sort.sort p3 ks.toArray).toList=X) :
  bB ν aD 73 [.fn 110 [.ptr id 0],.fn 75 []] H λr _=>SA X r:=by
 have o:M=1099511627776:=rfl;have t:=aIy d e f;have b:∃(r:AV)(a:List ay),(km=[]/\r=.aS 3/\a=H)\/(km≠[]/\∃ks:List bR,ks.Perm (sK km)/\r=.bI H.length 0 ks.length 3/\a=H++[.buf 107 (fW ks),.dead]):=by
  by_cases h:km=[]
  ·exact⟨_,_,.inl ⟨h,rfl,rfl⟩⟩
  ·exact⟨_,_,.inr ⟨h,_,.refl _,rfl,rfl⟩⟩
 have jn:=λa=>aIs a;have g:∀ks:List bR,H++[.buf 107 (fW ks),.dead]=xl 107 (H++[.dead,.dead]) H.length ks:=λks=>by simp[xl]
 have i:H.length<(H++[ay.dead,ay.dead]).length:=by simp
 have j:∀ks:List bR,ks.Perm (sK km)->bB ν aD 109 [.bI H.length 0 ks.length 3,.fn 75 []] (H++[.buf 107 (fW ks),.dead]) λr a=>r=.bg []/\∃y,a=xl 107 ((H++[.dead,.dead])++y) H.length X:=λks ar=>by
  have:=aIt i (l:=ks) rfl (by have:=ar.length_eq;simp only[sK,aKB]at this;omega);rw[bA ks ar,<-g]at this;exact this
 have c:∀ks:List bR,ks.Perm (sK km)->X.length=ks.length:=λks ar=>by
  have:=(Sort.sort_sorts p3 A2 ks.toArray).1.1;rw[<-bA ks ar];simpa using this
 have k:∀y,(xl 107 ((H++[.dead,.dead])++y) H.length X)[H.length]?=some (.buf 107 (fW X)):=λy=>Sd (by rw[aKK];omega);refine bB.intro (D:=h7) ayJ ?_;unfold aaE
 (repeat' first|simp(disch:=first|exact ai|fail) only[go_sem,k]|(refine ao ?_ ?_<;>intro)|(refine iJ ⟨t,b⟩ ?_;(rintro r a (⟨hk,rfl,rfl⟩|⟨hk,ks,ar,rfl,rfl⟩)))|refine cA (jn _) ?_|(refine ajm (j ks ar) ?_;(intro p);(have q:=c ks ar);(have n:=ar.length_eq);(simp only[sK,aKB]at n))|fail)
 ·refine⟨_,rfl,.inl ⟨?_,rfl⟩⟩;exact aKW.1 (c [] (by rw[hk];exact .refl _))
 ·exact⟨_,rfl,.inr rfl⟩
open Enc (enc)
noncomputable def SB:List iZ:=[(70,eh λ(l:List aU)=>enc (il l)),
 (39,eh λ(l:List aU)=>enc (mv l)),
 (71,eh λ(x:bR)=>enc (if x.neg then(1:Int)else 0))]
noncomputable def qR:bj:=ij h7 (e1 SB)
instance aO6{D:bj}[h:bt D qR]:bt D h7:=h.ke
def SC:List Nat:=[70,39,71]++R8
theorem ajP:fq qR SC:=fq.or aje (kf SB)
variable {f:Nat}{F:List AV->Option AV}
theorem SD(h:∀xs,e1 SB f xs=F xs)(hk:R8.contains f=false:=by rfl):∀xs,qR f xs=F xs:=λxs=>by rw[<-h];exact kg aje hk
theorem aIA(h:H[mid]?=some (.map m (cI AV.bool km)))(b:km.length<=M)(bA:∀ks:List ak,ks.Perm (cd km)->(Sort.sort ng ks.toArray).toList=X) :
  bB ν aD 76 [.map mid] H λr _=>GY X r:=by
 have hm:mid<H.length:=(List.getElem?_eq_some_iff.1 h).1;have c:=aIu H mid;have d:=aIw (H:=H++[.cells [.map mid]]) (id:=H.length) (mid:=mid) be (by rw[dE hm];exact h) b bA;have a:∃(r:AV)(e:List ay),GY X r:=⟨_,[],.inr rfl⟩;refine bB.intro (D:=h7) PK ?_;unfold JJ
 (repeat' first|simp(disch:=first|exact ai|fail) only[go_sem]|(refine ao ?_ ?_<;>intro)|refine cA c ?_|(refine iJ ⟨d,a⟩ ?_;(rintro r e (⟨hk,rfl⟩|rfl)))|fail)
 ·exact⟨_,rfl,.inl ⟨hk,rfl⟩⟩
 ·exact⟨_,rfl,.inr rfl⟩
variable {r:AV}
theorem ajQ(h:GY X r):bx r (enc X):=by
 rcases h with⟨rfl,rfl⟩|rfl
 ·exact(aT.aS (α:=ak)).kX
 ·exact bx.disown _ _ _
theorem ajR{X:List bR}(h:SA X r):bx r (enc X):=by
 rcases h with⟨rfl,rfl⟩|rfl
 ·exact(aT.aS (α:=bR)).kX
 ·exact bx.disown _ _ _
def k0(l:List aU):List ak:=l.flatMap λr=>r.head.name::r.body.map λx=>x.atom.name
variable {l:List aU}{i:Nat}
theorem SE(h:i<l.length):k0 (l.take (i+1))=k0 (l.take i)++(l[i]!.head.name::l[i]!.body.map λx=>x.atom.name):=by
 rw[bL h,k0,List.flatMap_append];simp[k0]
theorem aIB(l:List aU)(ae:∀r∈l,r.body.length<=M)(J:(k0 l).length<=M)(K:l.length<=M):aA ν aD 70 [enc l] (enc (il l)):=by
 have L:M=1099511627776:=rfl;refine aA.gK (D:=qR) ayH (by simp only[aKC,aKD,Enc.arg,aKE]) (Enc.res _) (Enc.iI _) ?_;unfold aay;refine ag ?_;refine bQ (λp:Nat×Nat×List (ak×Bool)=>⟨N [(3,.v (.map 0)),(9,.v (enc l)),(10,.v (enc l.length)),(11,.v (enc p.1))],[.map p.2.1 (cI AV.bool p.2.2)]⟩)
  (λp=>p.1<=l.length/\(cd p.2.2).Nodup/\(∀x,x∈cd p.2.2↔x∈k0 (l.take p.1))/\p.2.2.length<=(k0 (l.take p.1)).length) (λp=>l.length-p.1) (0,0,[]) ⟨aKG _,List.nodup_nil,λx=>by simp[cd,k0],aKG _⟩ (by(try simp(disch:=first|exact ai|fail) only[go_sem])<;>(first|rfl|(simp(disch:=first|exact aX|fail) only[b7,aKM,aKN,Env.ins,cp,cq,cr,ct,cu,cv,cw,cx,I.b0,aKB,aKO,aKP,aKQ,aKI,bL,aKJ,aKL,aKH,cy,cz,go_sem,cI];try rfl))) ?_
 rintro⟨i,n,km⟩ ⟨y,b,c,v⟩;simp only at y b c v;rcases aKF i l.length with h|h
 ·have z:=ae l[i]! (ek h);obtain⟨B,fN⟩:∃B,B=l[i]!.body:=⟨_,rfl⟩;obtain⟨hd,a⟩:∃hd,hd=l[i]!.head.name:=⟨_,rfl⟩;rw[<-fN]at z;refine gS (Eq.symm @fN) (Eq.symm @a) ?_;refine bQ (λp:Nat×Nat×List (ak×Bool)=>⟨N [(3,.v (.map 0)),(9,.v (enc l)),(10,.v (enc l.length)),(11,.v (enc i)),(20,.v (enc B)),(21,.v (enc B.length)),(22,.v (enc p.1))],[.map p.2.1 (cI AV.bool p.2.2)]⟩)
   (λp=>p.1<=B.length/\(cd p.2.2).Nodup/\(∀x,x∈cd p.2.2↔x∈k0 (l.take i)++(hd::(B.take p.1).map λx=>x.atom.name))/\p.2.2.length<=(k0 (l.take i)).length+1+p.1) (λp=>B.length-p.1) (0,lo n km hd,fV km hd true)
   ⟨aKG _,AE b _ _,λx=>by simp only[ahx,c,aKI,aKH,List.mem_append,List.mem_singleton];exact or_comm,by simp only[ahy];split<;>omega⟩ ew ?_
  rintro⟨j,d,g⟩ ⟨A,k,o,C⟩;simp only at A k o C;rcases aKF j B.length with w|w
  ·refine ag ?_;refine⟨(j+1,lo d g B[j]!.atom.name,fV g B[j]!.atom.name true),⟨ap,AE k _ _,λx=>?_,?_⟩,ap,ci⟩
   ·simp only[ahx,o,bL w,aKJ,aKL,aKH,List.mem_append,List.mem_cons,List.not_mem_nil,or_false];constructor
    ·rintro(h|h|h|h)<;>simp only[h,true_or,or_true]
    ·rintro(h|h|h|h)<;>simp only[h,true_or,or_true]
   ·simp only[ahy];split<;>omega
  ·obtain rfl:j=B.length:=by omega
   refine ag ?_;refine⟨(i+1,d,g),⟨ap,k,λx=>?_,?_⟩,ap,ci⟩
   ·simp only[o,SE h,<-fN,<-a,aKS]
   ·simp only[SE h,<-fN,aKK,aKR,aKB];omega
 ·obtain rfl:i=l.length:=by omega
  rw[aKS]at c v;have bA:∀ks:List ak,ks.Perm (cd (mm km eG))->(Sort.sort ng ks.toArray).toList=il l:=λks ar=>aH0 (ar.nodup_iff.2 (QX b _)) λx=>by
   rw[ar.mem_iff];have:=QY b eG x;have q:=getM_none (l:=mm km eG) (s:=x);have d:=getM_none (l:=km) (s:=x);have e:uc l=(k0 l).filter λs=>!(s==eG):=rfl;rw[e,List.mem_filter,<-c x];by_cases ah:x=eG
   ·rw[if_pos ah]at this;subst ah;simp[q.1 this]
   ·rw[if_neg ah]at this;rw[this]at q;have:x∈cd (mm km eG)↔x∈cd km:=by
     rw[<-Decidable.not_iff_not,<-q,d]
    simp[this,ah]
  have E:(mm km eG).length<=M:=Nat.le_trans (QW.length_le) am;have t:=aIA (H:=[.map n (cI AV.bool (mm km eG))]) (mid:=0) rfl E bA;have u:∃(r:AV)(G:List ay),GY (il l) r:=⟨_,[],.inr rfl⟩
  (repeat' first|simp(disch:=first|exact ai|fail) only[go_sem]|(refine ao ?_ ?_<;>intro)|(refine iJ ⟨t,u⟩ ?_;(rintro r G (⟨hk,rfl⟩|rfl)))|fail)
  ·exact⟨_,rfl,ajQ (.inl ⟨hk,rfl⟩)⟩
  ·exact⟨_,rfl,ajQ (.inr rfl)⟩
open Enc (enc)
variable {D:bj}{x1:AV}{K:AV->Prop}{tg:aN K}
theorem aIC[bt D qR][aT x1 l](a:∀r∈l,r.body.length<=M)(b:(k0 l).length<=M)(c:l.length<=M) :b1 ν aD D 70 [x1] K tg=K (enc (il l)):=ec (D':=qR) (F:=λ(l:List aU)=>enc (il l)) (SD λ_=>rfl) (aIB l a b c)
attribute [go_sem ↓ 2000] aIC
def y5(hd:ak)(B:List Lit):List bR:=(B.filter λx=>!(x.atom.name==eG)).map λx=>⟨hd,x.atom.name,x.neg⟩
theorem aID(h:i<l.length):lp (l.take (i+1))=lp (l.take i)++(if l[i]!.head.name==eG then[]else y5 l[i]!.head.name l[i]!.body):=by
 rw[bL h,lp,List.filter_append,List.flatMap_append];obtain⟨R,de⟩:∃R,R=l[i]!:=⟨_,rfl⟩;rw[<-de];cases a:R.head.name==eG<;>simp only[lp,y5,List.filter_cons,List.filter_nil,a,Bool.not_true,Bool.not_false,aKU,if_true,if_false,List.flatMap_nil,List.flatMap_cons,aKX]
theorem aIE{hd:ak}{B:List Lit}{j:Nat}(h:j<B.length):y5 hd (B.take (j+1))=y5 hd (B.take j)++(if B[j]!.atom.name==eG then[]else[⟨hd,B[j]!.atom.name,B[j]!.neg⟩]):=by
 rw[bL h,y5,List.filter_append,aKJ];obtain⟨R,de⟩:∃R,R=B[j]!:=⟨_,rfl⟩;rw[<-de];cases a:R.atom.name==eG<;>simp only[y5,List.filter_cons,List.filter_nil,a,Bool.not_true,Bool.not_false,aKU,if_true,if_false,aKH,aKL,aKX]
theorem aIF(l:List aU)(ae:∀r∈l,r.body.length<=M)(O:(k0 l).length<=M)(P:l.length<=M):aA ν aD 39 [enc l] (enc (mv l)):=by
 have Q:M=1099511627776:=rfl;refine aA.gK (D:=qR) ayn (by simp only[aKC,aKD,Enc.arg,aKE]) (Enc.res _) (Enc.iI _) ?_;unfold Zr;refine ag ?_;refine bQ (λp:Nat×Nat×List bR=>⟨N [(3,.v (.map 0)),(9,.v (enc l)),(10,.v (enc l.length)),(11,.v (enc p.1))],[.map p.2.1 (iq p.2.2)]⟩)
  (λp=>p.1<=l.length/\p.2.2.Nodup/\(∀x,x∈p.2.2↔x∈lp (l.take p.1))/\p.2.2.length<=(k0 (l.take p.1)).length) (λp=>l.length-p.1) (0,0,[]) ⟨aKG _,List.nodup_nil,λx=>by simp[lp],aKG _⟩ (by(try simp(disch:=first|exact ai|fail) only[go_sem])<;>(first|rfl|(simp(disch:=first|exact aX|fail) only[b7,aKM,aKN,Env.ins,cp,cq,cr,ct,cu,cv,cw,cx,I.b0,aKB,aKO,aKP,aKQ,aKI,bL,aKJ,aKL,aKH,cy,cz,go_sem,iq];try rfl))) ?_
 rintro⟨i,n,km⟩ ⟨C,g,b,A⟩;simp only at C g b A;rcases aKF i l.length with h|h
 ·have E:=ae l[i]! (ek h);have c:=aID h;have s:=SE h;obtain⟨R,de⟩:∃R,R=l[i]!:=⟨_,rfl⟩;rw[<-de]at E c s;cases k:R.head.name==[100,105,115,116,105,110,99,116]with
  |true =>
   refine gS (Eq.symm @de) @k ?_;refine⟨(i+1,n,km),⟨ap,g,λx=>?_,?_⟩,ap,ci⟩
   ·have:(R.head.name==eG)=true:=k;simp only[b,c,this,if_true,aKX]
   ·simp only[s,aKK];omega
  |false =>
   have u:(R.head.name==eG)=false:=k;rw[u]at c;simp only[aKU,if_false]at c;refine gS (Eq.symm @de) @k ?_;refine bQ (λp:Nat×Nat×List bR=>⟨N [(3,.v (.map 0)),(5,.b [.str R.head.name,.list none 2 (R.head.args.map I.enc),.list none 3 (R.body.map Lit.enc)]),(9,.v (enc l)),(10,.v (enc l.length)),(11,.v (enc i)),(20,.v (enc R.body)),(21,.v (enc R.body.length)),(22,.v (enc p.1))],[.map p.2.1 (iq p.2.2)]⟩)
    (λp=>p.1<=R.body.length/\p.2.2.Nodup/\(∀x,x∈p.2.2↔x∈lp (l.take i)++y5 R.head.name (R.body.take p.1))/\p.2.2.length<=(k0 (l.take i)).length+p.1) (λp=>R.body.length-p.1) (0,n,km)
    ⟨aKG _,g,λx=>by simp only[b,aKI,y5,List.filter_nil,aKH,aKX],ap⟩ ew ?_
   rintro⟨j,v,d⟩ ⟨G,o,e,J⟩;simp only at G o e J;rcases aKF j R.body.length with B|B
   ·have a:=aIE (hd:=R.head.name) B;cases q:R.body[j]!.atom.name==[100,105,115,116,105,110,99,116]with
    |true =>
     have w:(R.body[j]!.atom.name != [100,105,115,116,105,110,99,116])=false:=by rw[bne,q];rfl
     have y:(R.body[j]!.atom.name==eG)=true:=q;rw[y]at a;simp only[if_true,aKX]at a;refine bU @w ?_;refine⟨(j+1,v,d),⟨ap,o,λx=>?_,?_⟩,ap,ci⟩
     ·simp only[e,a]
     ·simp only;omega
    |false =>
     have w:(R.body[j]!.atom.name != [100,105,115,116,105,110,99,116])=true:=by rw[bne,q];rfl
     have y:(R.body[j]!.atom.name==eG)=false:=q;rw[y]at a;simp only[aKU,if_false]at a;refine bU @w ?_;refine⟨(j+1,GU v d ⟨R.head.name,R.body[j]!.atom.name,R.body[j]!.neg⟩,uf d ⟨R.head.name,R.body[j]!.atom.name,R.body[j]!.neg⟩),⟨ap,aH6 o _,λx=>?_,?_⟩,ap,ci⟩
     ·simp only[aH5,e,a,List.mem_append,List.mem_cons,List.not_mem_nil,or_false];constructor
      ·rintro(h|h|h)<;>simp only[h,true_or,or_true]
      ·rintro(h|h|h)<;>simp only[h,true_or,or_true]
     ·have:=aH7 d ⟨R.head.name,R.body[j]!.atom.name,R.body[j]!.neg⟩;simp only;omega
   ·obtain rfl:j=R.body.length:=by omega
    rw[aKS]at e
    (repeat' first|refine ag ?_|(refine ao ?_ ?_<;>intro))
    refine⟨(i+1,v,d),⟨ap,o,λx=>?_,?_⟩,ap,ci⟩
    ·simp only[e,c]
    ·simp only[s,aKK,aKR,aKB];omega
 ·obtain rfl:i=l.length:=by omega
  rw[aKS]at b A;have bA:∀ks:List bR,ks.Perm (sK km)->(Sort.sort p3 ks.toArray).toList=mv l:=λks ar=>aH1 (ar.nodup_iff.2 g) λx=>by
   rw[ar.mem_iff];exact b x
  have t0:=aIx [.map n (iq km)] 0;have t:=aIz (H:=[.map n (iq km)]++[.cells [.map 0]]) (id:=1) (mid:=0) (m:=n) (km:=km) rfl rfl am bA;have z:∃(r:AV)(L:List ay),SA (mv l) r:=⟨_,[],.inr rfl⟩
  (repeat' first|simp(disch:=first|exact ai|fail) only[go_sem]|(refine ao ?_ ?_<;>intro)|refine cA t0 ?_|(refine iJ ⟨t,z⟩ ?_;(rintro r L (⟨hk,rfl⟩|rfl)))|fail)
  ·exact⟨_,rfl,ajR (.inl ⟨hk,rfl⟩)⟩
  ·exact⟨_,rfl,ajR (.inr rfl)⟩
theorem aIH[bt D qR][aT x1 l](a:∀r∈l,r.body.length<=M)(b:(k0 l).length<=M)(c:l.length<=M) :b1 ν aD D 39 [x1] K tg=K (enc (mv l)):=ec (D':=qR) (F:=λ(l:List aU)=>enc (mv l)) (SD λ_=>rfl) (aIF l a b c)
attribute [go_sem ↓ 2000] aIH
theorem aII(x:bR):aA ν aD 71 [enc x] (enc (if x.neg then(1:Int)else 0)):=by
 refine aA.intro (D:=qR) ayI cX c7 ?_;unfold aaC;simp(disch:=first|exact ai|fail) only[go_sem];cases x.neg;all_goals (repeat' first|simp(disch:=first|exact ai|fail) only[go_sem]|(refine ao ?_ ?_<;>intro))
 all_goals rfl
theorem aIJ[bt D qR]{x:bR}[aT x1 x]  :b1 ν aD D 71 [x1] K tg=K (enc (if x.neg then(1:Int)else 0)):=ec (D':=qR) (F:=λ(x:bR)=>enc (if x.neg then(1:Int)else 0)) (SD λ_=>rfl) (aII x)
attribute [go_sem ↓ 2000] aIJ
open Enc (enc)
noncomputable def SI:List iZ:=[(37,eh λ(l:List aU)=>sL l),
 (115,hj λ(ls:List e2)(s:ak)=>enc (p1 (ls.map λx=>(x.name,x.level)) s))]
noncomputable def pe:bj:=ij qR (e1 SI)
instance aO7{D:bj}[h:bt D pe]:bt D qR:=h.ke
def SJ:List Nat:=[37,115]++SC
theorem aj7:fq pe SJ:=fq.or ajP (kf SI)
theorem aj8(h:∀xs,e1 SI f xs=F xs)(hk:SC.contains f=false:=by rfl):∀xs,pe f xs=F xs:=λxs=>by rw[<-h];exact kg ajP hk
theorem aIZ(d:l.length<=128)(a:∀r∈l,r.body.length<=8):(k0 l).length<=1152:=by
 have:=GK (f:=λr:aU=>r.head.name::r.body.map λx=>x.atom.name) (b:=9) l (λr c=>by have:=a r c;simp;omega);unfold k0;omega
theorem aI0(l:List aU):(mv l).length<=(lp l).length:=by
 have key:∀(m acc:List bR),(m.foldl (λacc x=>xg x acc) acc).length<=acc.length+m.length:=λm=>by
  induction m with
  |nil=>intro acc;simp|cons x r ih =>
   intro acc;have c:=ih (xg x acc);have b:∀a:List bR,(xg x a).length<=a.length+1:=λa=>by
    induction a with
    |nil=>simp[xg]|cons y q d=>rw[xg];split<;>(try split)<;>simp only[aKR]<;>omega
   have:=b acc;simp only[List.foldl_cons,aKR];omega
 simpa[mv]using key (lp l) []
theorem aI1(l:List aU):(lp l).length<=(k0 l).length:=by
 induction l with
 |nil=>simp[lp]|cons r q ih =>
  have a:(k0 (r::q)).length=1+r.body.length+(k0 q).length:=by simp[k0];omega
  have b:(lp (r::q)).length<=r.body.length+(lp q).length:=by
   simp only[lp,List.filter_cons];split
   ·simp only[List.flatMap_cons,aKK,aKB];have:=List.length_filter_le (λx:Lit=>!(x.atom.name==eG)) r.body;omega
   ·omega
  omega
theorem aj9(l:List aU)(Y:l.length<=128)(C:∀r∈l,r.body.length<=8):aA ν aD 37 [enc l] (sL l):=by
 have cP:M=1099511627776:=rfl;have ae:∀r∈l,r.body.length<=M:=λr Z=>by have:=C r Z;omega
 have mO:(k0 l).length<=M:=by have:=aIZ Y C;omega
 obtain⟨R,de⟩:=aIN l;have E:AZ l=R.map λa=>(il l).map λs=>(s,mw a s):=by unfold AZ;rw[de];rfl
 have G:=RY C;have iH:(mv l).length<=M:=Nat.le_trans (aI0 l) (by have:=aI1 l;omega);obtain⟨c,J⟩:∃c,c=il l:=⟨_,rfl⟩;obtain⟨b,w⟩:∃b,b=mv l:=⟨_,rfl⟩;obtain⟨n,aI⟩:∃n,n=c.length:=⟨_,rfl⟩;rw[<-J,<-aI]at de;rw[<-J]at G E;rw[<-w]at de iH;refine aA.gK (D:=pe) ayl (by simp only[aKC,aKD,Enc.arg,aKE]) (by unfold sL;split<;>rfl) (by unfold sL;split<;>exact λ_ _ _ h=>d6) ?_;unfold Zo;refine gS (Eq.symm @J) (Eq.symm @w) ?_;refine bQ (λp:Bool×Nat×Nat×List (ak×Int)=>⟨N [(4,.v (enc c)),(5,.v (enc b)),(6,.v (.map 0)),(7,.v (.bool p.1))],[.map p.2.2.1 (cI (AV.int .i64) p.2.2.2)]⟩)
  (λp=>xp n p.2.2.2/\(p.1=true->ud n b p.2.1 p.2.2.2=some R)/\(p.1=false->R=some p.2.2.2)) (λp=>if p.1 then p.2.1+1 else 0) (true,n*n+2,0,[]) ⟨ajY _,λ_=>de,λh=>d6⟩ (by(try simp(disch:=first|exact ai|fail) only[go_sem])<;>(first|rfl|(simp(disch:=first|exact aX|fail) only[b7,aKM,aKN,Env.ins,cp,cq,cr,ct,cu,cv,cw,cx,I.b0,aKB,aKO,aKP,aKQ,aKI,bL,aKJ,aKL,aKH,cy,cz,go_sem,cI];try rfl))) ?_
 rintro⟨ch,f,v,a⟩ ⟨T,o,z⟩;simp only at T o z;cases ch with
 |true =>
  replace o:=o rfl
  cases f with
  |zero=>cases o|succ f =>
  rw[ud]at o;have key:∀(x:Bool)(A:List (ak×Int)),p0 n b a false=some (A,x)->(x=true->ud n b f A=some R)/\(x=false->R=some A):=λx A h=>by
   rw[h]at o;cases x with
   |true=>exact⟨λ_=>o,λh=>d6⟩|false=>exact⟨λh=>d6,λ_=>(Option.some.inj o).symm⟩
  have L:p0 n b a false=none->R=none:=λh=>by
   rw[h]at o;exact(Option.some.inj o).symm
  clear o;refine ag ?_;refine bQ (λp:Nat×Nat×List (ak×Int)×Bool=>⟨N [(4,.v (enc c)),(5,.v (enc b)),(6,.v (.map 0)),(7,.v (.bool p.2.2.2)),(20,.v (enc b)),(21,.v (enc b.length)),(22,.v (enc p.1))],[.map p.2.1 (cI (AV.int .i64) p.2.2.1)]⟩)
   (λp=>p.1<=b.length/\p0 n (b.drop p.1) p.2.2.1 p.2.2.2=p0 n b a false/\xp n p.2.2.1) (λp=>b.length-p.1) (0,v,a,false) ⟨aKG _,rfl,T⟩ ew ?_
  rintro⟨j,O,q,P⟩ ⟨ei,g,t⟩;simp only at ei g t;rcases aKF j b.length with B|B
  ·rw[fi B]at g;obtain⟨e,he⟩:∃e,e=b[j]!:=⟨_,rfl⟩;rw[<-he]at g;obtain⟨d,hd⟩:∃d,d=(if e.neg=true then(1:Int)else 0):=⟨_,rfl⟩;have y:=ajV t e;obtain⟨u,Q⟩:∃u,u=AY q e:=⟨_,rfl⟩;have S:mw q e.dst+d=u:=by rw[Q,hd];rfl
   rw[<-Q]at y;rw[p0,<-Q]at g;have j2:=t e.src;have rl:=t e.dst;by_cases V:mw q e.src<u
   ·rw[if_pos V]at g;by_cases W:u>=(n:Int)
    ·rw[if_pos W]at g;have G:R=none:=L g.symm;refine mb (Eq.symm @he) (Eq.symm @hd) @S @Le ?_;refine⟨_,rfl,?_⟩;rw[sL,E,G];exact bx.bg (.cons (bx.aS _) (.cons (bx.refl _) .nil))
    ·rw[if_neg W]at g;refine mb (Eq.symm @he) (Eq.symm @hd) @S @Le ?_;exact⟨(j+1,lo O q e.src,fV q e.src u,true),⟨ap,g,ajW t y.1 am⟩,ap,ci⟩
   ·rw[if_neg V]at g;refine mb (Eq.symm @he) (Eq.symm @hd) @S @Le ?_;exact⟨(j+1,O,q,P),⟨ap,g,t⟩,ap,ci⟩
  ·obtain rfl:j=b.length:=by omega
   rw[aKV (Nat.le_refl _),p0]at g;obtain⟨cF,cO⟩:=key P q g.symm;refine ag ?_;exact⟨(P,f,O,q),⟨t,cF,cO⟩,by simp only;split<;>simp,ci⟩
 |false =>
  replace z:=z rfl
  refine ag ?_;refine bQ (λk:Nat=>⟨N [(6,.v (.map 0)),(11,.v (.list (some 127) 2 ((c.take k).map λs=>(e2.mk s (mw a s)).enc))),(48,.v (enc c)),(49,.v (enc c.length)),(50,.v (enc k))],[.map v (cI (AV.int .i64) a)]⟩)
   (λk=>k<=c.length) (λk=>c.length-k) 0 (aKG _) ew ?_
  intro k hk;rcases aKF k c.length with B|B
  ·have tV:(c.take k).length=k:=by rw[List.length_take];omega
   refine iv @Le @aKB.{0,0} @tV ?_;exact⟨k+1,am,am,by(first|rfl|(simp(disch:=first|exact aX|fail) only[b7,aKM,aKN,Env.ins,cp,cq,cr,ct,cu,cv,cw,cx,I.b0,aKB,aKO,aKP,aKQ,aKI,bL,aKJ,aKL,aKH,cy,cz,go_sem,e2.enc];try rfl))⟩
  ·obtain rfl:k=c.length:=by omega
   rw[aKS];refine ag ?_;refine⟨_,rfl,?_⟩;rw[sL,E,z];simp only[aK3,aKZ];exact bx.bg (.cons (by first|exact bx.refl _|exact bx.disown _ _ _) (.cons (bx.refl _) .nil))
open Enc (enc)
theorem aI3[bt D pe][aT x1 l](a:l.length<=128)(b:∀r∈l,r.body.length<=8) :b1 ν aD D 37 [x1] K tg=K (sL l):=ec (D':=pe) (F:=λ(l:List aU)=>sL l) (aj8 λ_=>rfl) (aj9 l a b)
attribute [go_sem ↓ 2000] aI3
theorem aI4(x:e2)(s:ak):bB ν aD 159 [enc x,.cL [.str s]] H λr H'=>r=.bool (x.name==s)/\H'=H:=by
 refine bB.intro (D:=pe) azG ?_;unfold ads;refine ag ?_;exact⟨_,rfl,d8⟩
theorem aI5(s:ak)(l:List e2)(b:l.length<=M) :
  bB ν aD 158 [enc l,.fn 159 [.cL [.str s]]] H λr H'=>r=.int .i64 (lN (λx:e2=>x.name==s) l)/\H'=H:=by
 have c:M=1099511627776:=rfl;refine bB.intro (D:=pe) azF ?_;unfold adq;refine ag ?_;refine bQ (λi:Nat=>⟨N [(0,.v (enc l)),(1,.v (.fn 159 [.cL [.str s]])),(7,.v (enc l.length)),(8,.v (enc i))],H⟩) (λi=>i<=l.length/\j7 (λx:e2=>x.name==s) (l.drop i) i=lN (λx:e2=>x.name==s) l) (λi=>l.length-i) 0 ⟨aKG _,rfl⟩ ew ?_;rintro i ⟨d,a⟩;rcases aKF i l.length with al|al
 ·have hd:=aI4 (H:=H) l[i]! s;rw[fi al,j7]at a;cases ar:l[i]!.name==s with
  |true =>
   rw[ar]at hd a
   (repeat' first|simp(disch:=first|exact ai|fail) only[go_sem,jL]|(refine ao ?_ ?_<;>intro)|refine cA hd ?_)
   exact⟨_,rfl,by rw[<-a];rfl⟩
  |false =>
   rw[ar]at hd a
   (repeat' first|simp(disch:=first|exact ai|fail) only[go_sem,jL]|(refine ao ?_ ?_<;>intro)|refine cA hd ?_)
   exact⟨i+1,⟨am,a⟩,am,ci⟩
 ·rw[aKV am,j7]at a;refine ag ?_;exact⟨_,rfl,by rw[<-a]⟩
theorem aI6(ls:List e2)(s:ak)(c:ls.length<=M):aA ν aD 115 [enc ls,enc s] (enc (p1 (ls.map λx=>(x.name,x.level)) s)):=by
 have g:M=1099511627776:=rfl;have t:=aI5 (H:=[]) s ls c;have hk:=aj0 s ls 0;rcases hk with⟨b,a⟩|⟨k,b,a,d⟩
 ·have e:lN (λx:e2=>x.name==s) ls = -1:=b;rw[a];rw[e]at t;refine aA.intro (D:=pe) ay9 cX c7 ?_;unfold acb;simp(disch:=first|exact ai|fail) only[go_sem]
  (repeat' first|simp(disch:=first|exact ai|fail) only[go_sem]|(refine ao ?_ ?_<;>intro)|refine cA t ?_)
  all_goals rfl
 ·have e:lN (λx:e2=>x.name==s) ls=(k:Int):=by rw[lN,a];congr 1;omega
  rw[d];rw[e]at t;refine aA.intro (D:=pe) ay9 cX c7 ?_;unfold acb;simp(disch:=first|exact ai|fail) only[go_sem]
  (repeat' first|simp(disch:=first|exact ai|fail) only[go_sem]|(refine ao ?_ ?_<;>intro)|refine cA t ?_)
  all_goals rfl
variable {x2:AV}
theorem aI7[bt D pe]{ls:List e2}{s:ak}[aT x1 ls][aT x2 s](h:ls.length<=M) :b1 ν aD D 115 [x1,x2] K tg=K (enc (p1 (ls.map λx=>(x.name,x.level)) s)):=ik (D':=pe) (F:=λ(ls:List e2)(s:ak)=>enc (p1 (ls.map λx=>(x.name,x.level)) s)) (aj8 λ_=>rfl) (aI6 ls s h)
attribute [go_sem ↓ 2000] aI7
theorem akc(l:List aU)(Q:l.length<=128)(s:∀r∈l,r.body.length<=8):aA ν aD 78 [enc l] (rP l):=by
 have cP:M=1099511627776:=rfl;have aO8:=aj9 l Q s;cases cf:AZ l with
 |none =>
  have e:sL l=.bg [.list none 2 [],.int .i64 10]:=by unfold sL;rw[cf]
  have u:rP l=.bg [.list none 1 [],.int .i64 10]:=by unfold rP oC;rw[cf];rfl
  rw[u];refine aA.gK (D:=pe) ayM (by simp only[aKC,aKD,Enc.arg,aKE]) rfl (λ_ _ _ h=>d6) ?_;unfold aaU;refine bU @e ?_;exact⟨_,rfl,bx.bg (.cons (bx.aS _) (.cons (bx.refl _) .nil))⟩
 |some lev =>
  obtain⟨jP,v⟩:∃jP:List e2,jP=lev.map λp=>e2.mk p.1 p.2:=⟨_,rfl⟩;have e:sL l=.bg [.list none 2 (jP.map e2.enc),.int .i64 0]:=by unfold sL;rw[cf,v,aKZ];rfl
  have g:(jP.map λx=>(x.name,x.level))=lev:=by rw[v,aKZ];simp[Function.comp_def]
  obtain⟨S,ds⟩:∃S,S=(xh lev+1).toNat:=⟨_,rfl⟩;obtain⟨lv,R⟩:∃lv:Nat->Int,lv=λi=>p1 lev l[i]!.head.name:=⟨_,rfl⟩;have u:rP l=.bg [.list none 1 ((List.range S).map λn=>ue (nP lv l.length n)),.int .i64 0]:=by unfold rP oC;rw[cf,ds,R];simp only[aKZ];rfl
  rw[u];refine aA.gK (D:=pe) ayM (by simp only[aKC,aKD,Enc.arg,aKE]) rfl (λ_ _ _ h=>d6) ?_;unfold aaU;refine bU @e ?_;have GI:=(SH lev (-1)).1;have z:xh lev+1=(S:Int):=by have : -1<=xh lev:=GI;omega
  have aO9:S<=100000:=by
   have:=ai4 Q s;unfold oC at this;rw[cf]at this;simp only[aKB,List.length_range]at this;omega
  obtain⟨a,A⟩:∃a:Nat->Int,a=λi=>(jP.take i).foldl (λm x=>max m x.level) (-1):=⟨_,rfl⟩;have k8:a 0 = -1:=by rw[A];rfl
  have jf:∀i,i<jP.length->max (a i) jP[i]!.level=a (i+1):=λi al=>by
   rw[A];simp only[bL al,List.foldl_append,List.foldl_cons,List.foldl_nil]
  have D6:a jP.length=xh lev:=by
   rw[A,<-g];simp only[aKS,xh,List.foldl_map]
  have rL:jP.length<=M:=by
   have ah:=cf;unfold AZ at ah;rw[Option.map_eq_some_iff]at ah;obtain⟨x,_,ah⟩:=ah;have:=RY s;rw[v,<-ah,aKB,aKB];omega
  refine bQ (λi:Nat=>⟨N [(0,.v (enc l)),(4,.v (enc jP)),(6,.v (.int .i64 (a i))),(21,.v (enc jP)),(22,.v (enc jP.length)),(23,.v (enc i))],[]⟩) (λi=>i<=jP.length) (λi=>jP.length-i) 0 (aKG _) (rm @k8) ?_;intro i al;rcases aKF i jP.length with h|h
  ·have Kd:=jf i h;refine bU @Kd ?_;exact⟨i+1,am,am,ci⟩
  obtain rfl:i=jP.length:=by omega
  have j1:(List.replicate S [AV.aS 1]).flatten=k1 3 lv S 0:=by rw[aj6,aIQ]
  refine iv @D6 @z @j1 ?_;refine bQ (λk:Nat=>⟨N [(4,.v (enc jP)),(9,.v (.bI 0 0 S 1)),(35,.v (enc l)),(36,.v (enc l.length)),(37,.v (enc k))],[.buf 144 (k1 3 lv S k),.dead]⟩) (λk=>k<=l.length) (λk=>l.length-k) 0 (aKG _) ew ?_;intro k hk;rcases aKF k l.length with a8|a8
  ·have j:p1 lev l[k]!.head.name=lv k:=by rw[R]
   have B:=aIX lev l[k]!.head.name;rw[j]at B;rcases Int.lt_or_le (lv k) 0 with T|T
   ·refine gS @g @j ?_;exact⟨k+1,am,am,by(first|rfl|(simp(disch:=first|exact aX|fail) only[b7,aKM,aKN,Env.ins,cp,cq,cr,ct,cu,cv,cw,cx,I.b0,aKB,aKO,aKP,aKQ,aKI,bL,aKJ,aKL,aKH,cy,cz,go_sem,aIO T];try rfl))⟩
   ·obtain⟨w,C⟩:∃w:Nat,lv k=(w:Int):=⟨(lv k).toNat,am⟩;have b:w<S:=by omega
    have fc:=aIY lv k w;obtain⟨V,hM⟩:∃c,c=vm 3 (nP lv k w):=⟨_,rfl⟩;have G:=aIW 3 (nP lv k w);have J:=SG (e:=3) (lv:=lv) (k:=k) b;have o:=aIP (e:=3) (lv:=lv) (k:=k) C b;rw[<-hM]at G J;obtain⟨L,W⟩:∃L,L=(nP lv k w).map qO:=⟨_,rfl⟩;have xT:L.length<=128:=by rw[W,aKB];omega
    rw[<-W]at G o;have d:(k1 3 lv S k).length=S:=G0 _ _ _ _;obtain⟨cs,iT⟩:∃cs,cs=k1 3 lv S k:=⟨_,rfl⟩;rw[<-iT]at J d o ⊢;have q:=aIT (e:=144) J;have Y:∀(E:Env)(H:List ay)(x:AV),tP E H 0 w [x] (some (.buf 144 cs))=some ⟨E,H.set 0 (.buf 144 (cs.set w x))⟩:=λE H x=>aj3 am;have Z:∀(E:Env)(H:List ay)(x y:AV),tP E H 0 w [x] (some (.buf 144 (cs.set w y)))=some ⟨E,H.set 0 (.buf 144 (cs.set w x))⟩:=λE H x y=>by rw[aj3 (by rw[List.length_set];omega),List.set_set]
    rcases G with⟨O,iV⟩|O
    ·rw[O]at q;refine Is @g @j @C @q @Y @Z @aKY.{0} @aKT.{0} ?_;exact⟨k+1,am,am,by(first|rfl|(simp(disch:=first|exact aX|fail) only[b7,aKM,aKN,Env.ins,cp,cq,cr,ct,cu,cv,cw,cx,I.b0,aKB,aKO,aKP,aKQ,aKI,bL,aKJ,aKL,aKH,cy,cz,go_sem,o,iV,qO];try rfl))⟩
    ·rw[O]at q;refine Is @g @j @C @q @Y @Z @aKY.{0} @aKT.{0} ?_;exact⟨k+1,am,am,by(first|rfl|(simp(disch:=first|exact aX|fail) only[b7,aKM,aKN,Env.ins,cp,cq,cr,ct,cu,cv,cw,cx,I.b0,aKB,aKO,aKP,aKQ,aKI,bL,aKJ,aKL,aKH,cy,cz,go_sem,o,qO];try rfl))⟩
  obtain rfl:k=l.length:=by omega
  have Gx:∀(P:Env)(H:List ay)(t id:Nat),pU P H t 144 1 id S 1 (some (.buf 144 (k1 3 lv S l.length)))=some ⟨N ((t,.v (.list (some 144) 1 ((k1 3 lv S l.length).map AV.a1)))::P),H.set id .dead⟩:=λP H t id=>aIU ⟨G0 _ _ _ _,am⟩ (aIV _ _ _ _);refine gS @Gx @aKT.{0} ?_;exact⟨_,rfl,bx.bg (.cons (aIS _ _ _ _ _) (.cons (bx.refl _) .nil))⟩
open Enc (enc)
theorem Lg(l:List aU)(b:List I)(hd:∀r∈l,∀a∈dx r,cc a<=1000000)(ds:(iz l b).isSome=true):aA ν aD 42 [enc l,enc b] (j8 (iz l b)) :=
 aHr l b (λr c=>Sb r (hd r c)) (λh=>akc l (xi h).1 λr c=>((xi h).2 r c).b) ds
def ug(a:I):Bool:=cD 4 a true&&dM a.name
noncomputable def SR:List iZ:=[]
noncomputable def sN:bj:=ij pe (e1 SR)
instance aPb{D:bj}[h:bt D sN]:bt D pe:=h.ke
def SS:List Nat:=[]++SJ
theorem akg:fq sN SS:=fq.or aj7 (kf SR)
open Enc (enc)
noncomputable def SU:List iZ:=[]
noncomputable def nR:bj:=ij sN (e1 SU)
instance aPc{D:bj}[h:bt D nR]:bt D sN:=h.ke
def G2:List Nat:=[]++SS
theorem Lh:fq nR G2:=fq.or akg (kf SU)
open Enc (enc)
def sV(q:List aY×Bool):AV:=.bg [k3 q.1,.bool q.2]
def DQ(q:List aY×Bool):AV:=.bg [enc q.1,.bool q.2]
noncomputable def Ud:List iZ:=[(171,eh λ(t:I)=>enc (zf t)),
 (172,hj λ(s:List aY)(v:ak)=>.bg [.int .i64 (oH s v),.bool (sS s v)]),
 (173,hj λ(t:I)(u:I)=>enc (hi t u)),
 (175,eh λ(t:I)=>enc (t)),
 (174,qF λ(s:List aY)(v:ak)(t:I)=>enc (mi s (oH s v) ⟨v,t⟩)),
 (129,qF λ(p:I)(g:I)(s:List aY)=>sV (oI p g s)),
 (130,eh λ(s:List aY)=>enc (s)),
 (128,eh λ(s:List aY)=>enc (q1 s)),
 (90,qF λ(p:I)(g:I)(s:List aY)=>DQ (sU p g))]
noncomputable def e7:bj:=ij nR (e1 Ud)
instance aPz{D:bj}[h:bt D e7]:bt D nR:=h.ke
def al4:List Nat:=[171,172,173,175,174,129,130,128,90]++G2
theorem aL8:fq e7 al4:=fq.or Lh (kf Ud)
theorem sW(h:∀xs,e1 Ud f xs=F xs)(hk:G2.contains f=false:=by rfl):∀xs,e7 f xs=F xs:=λxs=>by rw[<-h];exact kg Lh hk
variable {t:I}
theorem aL9[bt D e7][aT x1 t](h:aA ν aD 175 [enc t] (enc (t))):b1 ν aD D 175 [x1] K tg=K (enc (t)):=ec (D':=e7) (F:=λ(t:I)=>enc (t)) (sW λ_=>rfl) h
theorem aMa(t:I):aA ν aD 171 [enc t] (enc (zf t)):=by
 have a:((t.args.length:Int)==0)=decide (t.args.length=0):=by rw[aK4];simp
 unfold zf;refine aA.intro (D:=e7) azO cX c7 ?_;unfold adI;simp(disch:=first|exact ai|fail) only[go_sem];cases b:decide (t.args.length=0)<;>cases c:eg t.name;all_goals (repeat' first|simp(disch:=first|exact ai|fail) only[go_sem,a,b,c]|(refine ao ?_ ?_<;>intro))
 all_goals rfl
theorem aMb[bt D e7][aT x1 t]  :b1 ν aD D 171 [x1] K tg=K (enc (zf t)):=ec (D':=e7) (F:=λ(t:I)=>enc (zf t)) (sW λ_=>rfl) (aMa t)
attribute [go_sem ↓ 2000] aMb
theorem al5(b:aY)(v:ak):aA ν aD 207 [enc b,enc v] (enc (du b.var v)):=by
 refine aA.intro (D:=e7) aAc cX c7 ?_;unfold aeL;simp(disch:=first|exact ai|fail) only[go_sem]
 (repeat' first|refine ag ?_|(refine ao ?_ ?_<;>intro))
 all_goals rfl
theorem aMc(s:List aY)(v:ak)(w:s.length<=M) :
  bB ν aD 206 [enc s,enc v,.fn 207 []] H λr H'=>r=.bg [.int .i64 (oH s v),.bool (sS s v)]/\H'=H:=by
 have x:M=1099511627776:=rfl;have d:=(yh aAc).1;obtain⟨c,a⟩:∃c:Nat->Bool,c=λk:Nat=>decide (du s[k]!.var v<0):=⟨_,rfl⟩;have j:oH s v=p8 c s.length 0 s.length:=by rw[a];rfl
 refine bB.intro (D:=e7) aqk ?_;unfold abx;refine ag ?_;refine bQ (λp:Nat×Nat=>⟨N [(0,.v (enc s)),(1,.v (enc v)),(2,.v (.fn 207 [])),(8,.v (enc s.length)),(9,.v (enc p.1)),(10,.v (enc p.2))],H⟩)
  (λp=>p.1<=p.2/\p.2<=s.length/\p8 c s.length p.1 p.2=oH s v) (λp=>p.2-p.1) (0,s.length) ⟨aKG _,Nat.le_refl _,j.symm⟩ ew ?_
 rintro⟨bc,al⟩ ⟨n,o,b⟩;simp only at n o b;rcases aKF bc al with h|h
 ·obtain⟨m,hm⟩:∃m,m=(bc+al) / 2:=⟨_,rfl⟩;have y:m<s.length:=by omega
  have ax:=aL4 c (f:=s.length) am h;rw[<-hm]at ax;have q:c m=decide (du s[m]!.var v<0):=by simp only[a]
  rw[q]at ax;have e:((bc:Int)+(al:Int)) / 2=(m:Int):=by omega
  have hd:=al5 s[m]! v;rcases Int.lt_or_le (du s[m]!.var v) 0 with a|a
  ·rw[decide_eq_true a,if_pos rfl]at ax
   (repeat' first|simp(disch:=first|exact ai|fail) only[go_sem,e,jL]|(refine ao ?_ ?_<;>intro)|refine CV d hd ?_)
   exact⟨(m+1,al),⟨ap,ap,ax.symm.trans b⟩,ap,ci⟩
  ·rw[decide_eq_false am,if_neg be]at ax
   (repeat' first|simp(disch:=first|exact ai|fail) only[go_sem,e,jL]|(refine ao ?_ ?_<;>intro)|refine CV d hd ?_)
   exact⟨(bc,m),⟨ap,ap,ax.symm.trans b⟩,ap,ci⟩
 ·have ar:oH s v=bc:=by rw[<-b,Hk c am]
  have u:sS s v=(decide (bc<s.length)&&(du s[bc]!.var v==0)):=by rw[sS,ar]
  rw[ar,u];rcases aKF bc s.length with g|g
  ·rw[decide_eq_true g,aK5];have hd:=al5 s[bc]! v
   (repeat' first|simp(disch:=first|exact ai|fail) only[go_sem,jL]|(refine ao ?_ ?_<;>intro)|refine CV d hd ?_)
   exact⟨_,rfl,d8⟩
  ·rw[decide_eq_false am,aK6];refine bU @jL ?_;exact⟨_,rfl,d8⟩
theorem aMd(s:List aY)(v:ak)(a:s.length<=M):aA ν aD 172 [enc s,enc v] (.bg [.int .i64 (oH s v),.bool (sS s v)]):=by
 have ae:=aMc (H:=[]) s v a;refine aA.intro (D:=e7) JR (by simp only[aKC,aKD,Enc.arg,aKE]) rfl ?_;unfold FJ
 (repeat' first|simp(disch:=first|exact ai|fail) only[go_sem]|(refine ao ?_ ?_<;>intro)|refine cA ae ?_)
 all_goals rfl
variable {s:List aY}
theorem aMe[bt D e7]{v:ak}[aT x1 s][aT x2 v](h:s.length<=M) :b1 ν aD D 172 [x1,x2] K tg=K (.bg [.int .i64 (oH s v),.bool (sS s v)]):=ik (D':=e7) (F:=λ(s:List aY)(v:ak)=>.bg [.int .i64 (oH s v),.bool (sS s v)]) (sW λ_=>rfl) (aMd s v h)
attribute [go_sem ↓ 2000] aMe
theorem aMf{l m:List I}(a:i<l.length)(b:i<m.length):gD (l.drop i) (m.drop i)=(hi l[i]! m[i]!&&gD (l.drop (i+1)) (m.drop (i+1))):=by
 rw[fi a,fi b,gD]
theorem aMg(l m:List I)(e:l.length<=M/\m.length<=M)(h:∀t∈l,∀u,aA ν aD 173 [enc t,enc u] (enc (hi t u))) :
  bB ν aD 208 [enc l,enc m,.fn 173 []] H λr H'=>r=.bool (decide (l.length=m.length)&&gD l m)/\H'=H:=by
 have g:M=1099511627776:=rfl;have c:=(yh azP).1;refine bB.intro (D:=e7) aAd ?_;unfold aeN;rcases Decidable.em (l.length=m.length)with b|b
 ·have cG:((l.length:Int) != (m.length:Int))=false:=by rw[b];simp
  rw[decide_eq_true b,aK5];refine bU @cG ?_;refine bQ (λi:Nat=>⟨N [(1,.v (enc m)),(2,.v (.fn 173 [])),(15,.v (enc l)),(16,.v (enc l.length)),(17,.v (enc i))],H⟩) (λi=>i<=l.length/\gD (l.drop i) (m.drop i)=gD l m) (λi=>l.length-i) 0 ⟨aKG _,rfl⟩ ew ?_;rintro i ⟨j,a⟩;rcases aKF i l.length with al|al
  ·have hd:=h l[i]! (ek al) m[i]!;rw[aMf al am]at a;cases d:hi l[i]! m[i]! with
   |true =>
    rw[d]at hd a;rw[aK5]at a
    (repeat' first|simp(disch:=first|exact ai|fail) only[go_sem,jL]|(refine ao ?_ ?_<;>intro)|refine CV c hd ?_)
    exact⟨i+1,⟨am,a⟩,am,ci⟩
   |false =>
    rw[d]at hd a;rw[aK6]at a
    (repeat' first|simp(disch:=first|exact ai|fail) only[go_sem,jL]|(refine ao ?_ ?_<;>intro)|refine CV c hd ?_)
    exact⟨_,rfl,by first|(rw[<-a];done)|(rw[<-a];exact⟨rfl,rfl⟩)⟩
  ·rw[aKV al,aKV am,gD]at a;refine ag ?_;exact⟨_,rfl,by first|(rw[<-a];done)|(rw[<-a];exact⟨rfl,rfl⟩)⟩
 ·have cG:((l.length:Int) != (m.length:Int))=true:=by simp;omega
  rw[decide_eq_false b,aK6];refine bU @cG ?_;exact⟨_,rfl,d8⟩
theorem al6:∀{l m:List I},gD l m=true->l.length=m.length
 |[],[],_=>rfl|_::_,_::_,h=>by simp only[gD,aK8]at h;simp only[aKR,al6 h.2]|[],_::_,h=>by simp[gD]at h|_::_,[],h=>by simp[gD]at h
theorem aMh:∀t u:I,aA ν aD 173 [enc t,enc u] (enc (hi t u)):=I.ind λt ih u=>by
 refine aA.sy λg h=>?_;have j:M=1099511627776:=rfl;have c:(decide (t.args.length=u.args.length)&&gD t.args u.args)=gD t.args u.args:=by
  cases d:gD t.args u.args with
  |true=>rw[decide_eq_true (al6 d)];rfl|false=>rw[Bool.and_false]
 have e:=aMg (H:=[]) t.args u.args ⟨((I.j5 t).1 g).2.1,((I.j5 u).1 h).2.1⟩ ih;rw[c]at e;have he:hi t u=(t.name==u.name&&gD t.args u.args):=by
  obtain⟨n,a⟩:=t;obtain⟨m,b⟩:=u;rfl
 rw[he];refine aA.intro (D:=e7) azP cX c7 ?_;unfold adK;simp(disch:=first|exact ai|fail) only[go_sem];cases d:t.name==u.name;all_goals (repeat' first|simp(disch:=first|exact ai|fail) only[go_sem,d]|(refine ao ?_ ?_<;>intro)|refine cA e ?_)
 all_goals rfl
theorem aMi[bt D e7]{u:I}[aT x1 t][aT x2 u]  :b1 ν aD D 173 [x1,x2] K tg=K (enc (hi t u)):=ik (D':=e7) (F:=λ(t:I)(u:I)=>enc (hi t u)) (sW λ_=>rfl) (aMh t u)
attribute [go_sem ↓ 2000] aMi
theorem aMj:∀t:I,aA ν aD 175 [enc t] (enc t):=I.ind λt ih=>by
 refine aA.h4 λae=>?_;have n:=(I.j5 t).1 ae;have o:=n.2.1;have u:M=1099511627776:=rfl;obtain⟨p,cK⟩:=t;simp only[I.args]at ih o;obtain⟨a,j⟩:∃a:Nat->AV,a=λi:Nat=>if i=0 then AV.aS 2 else .list (some 25) 2 ((cK.take i).map I.enc):=⟨_,rfl⟩;have c:a 0=.aS 2:=by rw[j];rfl
 have b:∀i,a (i+1)=.list (some 25) 2 ((cK.take (i+1)).map I.enc):=λi=>by rw[j];exact if_neg am
 refine aA.gK (D:=e7) azQ (by simp only[aKC,aKD,Enc.arg,aKE]) (Enc.res _) (Enc.iI _) ?_;unfold adQ;refine gS @aKT.{0} @aKY.{0} ?_;refine bQ (λi:Nat=>⟨N [(2,.b [.str [],.aS 2]),(3,.v (.ptr 0 0)),(10,.v (enc cK)),(11,.v (enc cK.length)),(12,.v (enc i))],[.cells [.str p,a i]]⟩)
  (λi=>i<=cK.length) (λi=>cK.length-i) 0 (aKG _) (rm @c) ?_
 intro i al;rcases aKF i cK.length with h|h
 ·have hd:=ih cK[i]! (ek h);have k:=λ{K:AV->Prop}{tg:aN K}(v:i<cK.length)=>aL9 (D:=e7) (K:=K) (tg:=tg) (x1:=cK[i]!.enc) (hd);have q:(cK.take i).length=i:=by rw[List.length_take];omega
  cases i with
  |zero =>
   refine mb @k @c @aKT.{0} @aKY.{0} ?_;exact⟨1,am,am,by(exact qn (b 0))⟩
  |succ i =>
   refine oX @k (b i) @q @aKB.{0,0} @aKT.{0} @aKY.{0} ?_;exact⟨i+2,am,am,by(exact qn (b (i+1)))⟩
 ·obtain rfl:i=cK.length:=by omega
  rcases aK7 cK.length with d|d
  ·have e:cK=[]:=aKW.1 d;have g:a cK.length=.aS 2:=by rw[d];exact c
   refine iv @g @aKT.{0} @aKY.{0} ?_;exact⟨_,rfl,by rw[e];exact bx.agg (.cons (bx.refl _) (.cons (bx.aS 2) .nil))⟩
  ·have g:a cK.length=.list (some 25) 2 (cK.map I.enc):=by
    have:=b (cK.length-1);rw[show cK.length-1+1=cK.length by omega,aKS]at this;exact this
   refine iv @g @aKT.{0} @aKY.{0} ?_;exact⟨_,rfl,bx.agg (.cons (bx.refl _) (.cons (by first|exact bx.refl _|(rw[oj];exact bx.refl _)|exact bx.disown _ _ _) .nil))⟩
theorem aMl[bt D e7][aT x1 t]  :b1 ν aD D 175 [x1] K tg=K (enc (t)):=ec (D':=e7) (F:=λ(t:I)=>enc (t)) (sW λ_=>rfl) (aMj t)
attribute [go_sem ↓ 2000] aMl
open Go Go.Proofs Go.Shelf
def Ag:Ren:=⟨λn=>if n=22 then 209 else if n=29 then 222 else 223,
 λn=>if n=0 then 0 else if n=3 then 3 else if n=4 then 4 else if n=24 then 100 else 188,λn=>n⟩
theorem ac1:vv ν Ag 3 where
 mixed:=by kernel_rfl
 f22:=⟨_,rfl,co,co,co⟩
 f29:=λargs w=>run_callFunc_extern (fn:=(ν.funcs[Ag.f 29]?).getD default) rfl co co co co args w
 t0:=by kernel_rfl
 a0:=λw=>by kernel_rfl
 z0:=λw=>by kernel_rfl
 v0:=λw=>by kernel_rfl
 t3:=by kernel_rfl
 a3:=λw=>by kernel_rfl
 z3:=λw=>by kernel_rfl
 v3:=λw=>by kernel_rfl
 t4:=by kernel_rfl
 a4:=λw=>by kernel_rfl
 z4:=λw=>by kernel_rfl
 v4:=λw=>by kernel_rfl
 t24:=by kernel_rfl
 a24:=λw=>by kernel_rfl
 z24:=λw=>by kernel_rfl
 v24:=λw=>by kernel_rfl
 z9:=λw=>by kernel_rfl
open Enc (enc)
theorem aMm(s:List aY):aA ν aD 128 [enc s] (enc (q1 s)):=by
 refine aA.h4 λp=>?_;have v:M=1099511627776:=rfl;have p:s.length<=M:=p.1;rcases aKF 64 s.length with d|d
 ·have e:q1 s=false:=by rw[q1,decide_eq_false am,aK6]
  rw[e];refine aA.intro (D:=e7) azi cX c7 ?_;unfold acs;simp(disch:=first|exact ai|fail) only[go_sem]
  (repeat' first|refine ag ?_|(refine ao ?_ ?_<;>intro))
  all_goals rfl
 ·refine aA.intro (D:=e7) azi cX c7 ?_;unfold acs;simp(disch:=first|exact ai|fail) only[go_sem]
  (repeat' first|refine ag ?_|(refine ao ?_ ?_<;>intro))
  refine bQ (λi:Nat=>⟨N [(0,.v (enc s)),(8,.v (enc s)),(9,.v (enc s.length)),(10,.v (enc i))],[]⟩) (λi=>i<=s.length/\∀k,k<i->xz s k=true) (λi=>s.length-i) 0 ⟨aKG _,λk h=>absurd h am⟩ ew ?_;rintro i ⟨w,q⟩;rcases aKF i s.length with h|h
  ·cases a:xz s i with
   |true =>
    have u:∀k,k<i+1->xz s k=true:=λk hk=>by
     rcases aKF k i with h|h
     ·exact q k h
     ·obtain rfl:k=i:=by omega
      exact a
    simp only[xz,aK8]at a;obtain⟨⟨b,c⟩,v3⟩:=a;rcases aK7 i with g|g
    ·subst g;refine gS @b @c ?_;exact⟨1,⟨am,u⟩,am,ci⟩
    ·obtain⟨j,rfl⟩:∃j,i=j+1:=⟨i-1,am⟩;have v4:(Op.bytesLess s[j+1]!.var s[j]!.var||s[j+1]!.var==s[j]!.var)=false:=by simpa using v3
     have n:(j:Int)+1-1=j:=by omega
     refine mb @b @c @v4 @n ?_;exact⟨j+2,⟨am,u⟩,am,ci⟩
   |false =>
    have no:=aL5 h a;rw[no];unfold xz at a;cases b:eg s[i]!.var with
    |false =>
     (repeat' first|simp(disch:=first|exact ai|fail) only[go_sem,b]|(refine ao ?_ ?_<;>intro))
     all_goals rfl
    |true =>
     cases c:cD 4 s[i]!.term true with
     |false =>
      (repeat' first|simp(disch:=first|exact ai|fail) only[go_sem,b,c]|(refine ao ?_ ?_<;>intro))
      all_goals rfl
     |true =>
      rw[b,c]at a;obtain⟨j,rfl⟩:∃j,i=j+1:=⟨i-1,by rcases aK7 i with g|g;(· subst g;simp at a);omega⟩;have v4:(Op.bytesLess s[j+1]!.var s[j]!.var||s[j+1]!.var==s[j]!.var)=true:=by simp only[aK5,Bool.not_eq_false',Nat.zero_lt_succ,decide_true,Nat.add_sub_cancel]at a;exact a
      have n:(j:Int)+1-1=j:=by omega
      (repeat' first|simp(disch:=first|exact ai|fail) only[go_sem,b,c,v4,n]|(refine ao ?_ ?_<;>intro))
      all_goals rfl
  ·have o:=aL6 d λi al=>q i am;rw[o]
   (repeat' first|simp(disch:=first|exact ai|fail) only[go_sem]|(refine ao ?_ ?_<;>intro))
   all_goals rfl
theorem aMn[bt D e7][aT x1 s]  :b1 ν aD D 128 [x1] K tg=K (enc (q1 s)):=ec (D':=e7) (F:=λ(s:List aY)=>enc (q1 s)) (sW λ_=>rfl) (aMm s)
attribute [go_sem ↓ 2000] aMn
theorem aMo(s:List aY):aA ν aD 130 [enc s] (enc s):=by
 refine aA.h4 λa=>?_;have b:M=1099511627776:=rfl;have a:s.length<=M:=a.1;refine aA.gK (D:=e7) azk cX (Enc.res _) (Enc.iI _) ?_;unfold acz;refine ag ?_;refine bQ (λi:Nat=>⟨N [(3,.v (.list (some 188) 3 ((s.take i).map aY.enc))),(6,.v (enc s)),(7,.v (enc s.length)),(8,.v (enc i))],[]⟩) (λi=>i<=s.length) (λi=>s.length-i) 0 (aKG _) (rm @aKI.{0}) ?_;intro i al;rcases aKF i s.length with h|h
 ·have c:(s.take i).length=i:=by rw[List.length_take];omega
  refine ag ?_;exact⟨i+1,am,am,ci⟩
 ·obtain rfl:i=s.length:=by omega
  rw[aKS];refine ag ?_;exact⟨_,rfl,g8⟩
theorem aMp[bt D e7][aT x1 s]  :b1 ν aD D 130 [x1] K tg=K (enc (s)):=ec (D':=e7) (F:=λ(s:List aY)=>enc (s)) (sW λ_=>rfl) (aMo s)
attribute [go_sem ↓ 2000] aMp
theorem awv(H:List ay):bB ν aD 210 [.aS 3] H λr H'=>r=.aS 3/\H'=H:=by
 refine bB.intro (D:=e7) acH ?_;unfold LB;refine ag ?_;exact⟨_,rfl,rfl⟩
theorem aww(s:List aY)(ax:s≠[])(a:s.length<=M):bB ν aD 210 [.list none 3 (s.map aY.enc)] [] λr H'=>r=.bI 2 0 s.length 3/\H'=[.dead,.dead,.buf 188 (dR s),.dead]:=by
 have c:M=1099511627776:=rfl;refine bB.intro (D:=e7) acH ?_;unfold LB;refine ag ?_;have b:([.buf 188 [],.dead]:List ay)[0]?=some (.buf 188 [])/\s.length<=M:=⟨rfl,a⟩;simp only[List.flatten_nil,avN b];refine ag ?_;first|exact⟨_,rfl,rfl,rfl⟩|exact⟨_,rfl,rfl⟩|rfl
theorem ac2:Ag.t 9=188:=rfl
theorem ac3:Ag.f 22=209:=rfl
theorem okB:ko ν (Ag.t 9) 3=true:=by kernel_rfl
theorem ac4:kR ν (Ag.f 22)=true:=by kernel_rfl
theorem awx(s:List aY)(v:ak)(t:I)(a:s.length+1<=M):aA ν aD 174 [k3 s,enc v,enc t] (enc (mi s (oH s v) ⟨v,t⟩)):=by
 have c:M=1099511627776:=rfl;have ar:=aqT s v;obtain⟨k,hk⟩:∃k,k=oH s v:=⟨_,rfl⟩;refine aA.gK (D:=e7) afr (by simp only[aKC,aKD,Enc.arg,LH,aKE]) (Enc.res _) (Enc.iI _) ?_;unfold PF;rw[<-hk]at ar ⊢;have ah:(aY.mk v t).enc.cells.length=3:=rfl;have d:∀l:List aY,(dR l).map AV.a1=dR l:=Hl;by_cases ax:s=[]
 ·subst ax;obtain rfl:k=0:=by simpa using ar
  have al:=aws (gl:=aD) (H:=[]) ac1 okB ac4 ah;rw[ac2,ac3]at al;have e:((aY.mk v t).enc.cells.map AV.a1)=dR (mi [] 0 ⟨v,t⟩):=by simp[dR,mi,aY.enc,AV.cells,AV.a1]
  rw[e]at al;rw[aL7];have b:(mi [] 0 ⟨v,t⟩).length=1/\1<=M:=⟨rfl,am⟩
  (repeat' first|simp(disch:=first|exact ai|fail) only[go_sem,<-hk]|(refine ao ?_ ?_<;>intro)|refine cA (awv []) ?_|refine cA al ?_)
  exact⟨_,rfl,bx.disown _ _ _⟩
 ·have al:=awu (gl:=aD) (H:=[.dead,.dead,.buf 188 (dR s),.dead]) (id:=2) (k:=k) ac1 okB ac4 rfl (Hj s) ar a ah;rw[ac2,ac3]at al;rw[aqU,Hl]at al;have b:(mi s k ⟨v,t⟩).length=s.length+1:=acJ;rw[al0 ax]
  (repeat' first|simp(disch:=first|exact ai|fail) only[go_sem,<-hk]|(refine ao ?_ ?_<;>intro)|refine cA (aww s ax am) ?_|refine cA al ?_)
  exact⟨_,rfl,bx.disown _ _ _⟩
section
variable {D:bj}[bt D e7]{K:AV->Prop}{tg:aN K}
variable {x y:AV}
theorem aMv{v:ak}[a:aT x v][b:aT y t](h:s.length+1<=M):b1 ν aD D 174 [k3 s,x,y] K tg=K (enc (mi s (oH s v) ⟨v,t⟩)) :=
 u1 (by simp only[aKC,a.arg,b.arg,(aT.k3 s).arg,aKD,aKE]) (bt.h (D':=e7) _ _ _ (by rw[sW (F:=qF λ(s:List aY)(v:ak)(t:I)=>enc (mi s (oH s v) ⟨v,t⟩)) (λ_=>rfl)];exact Qj (F:=λ(s:List aY)(v:ak)(t:I)=>enc (mi s (oH s v) ⟨v,t⟩)) (aT.k3 s) a b)) ((awx s v t h).args (.cons (bx.refl _) (.cons a.kX (.cons b.kX .nil))))
theorem ama{p g:I}[a:aT x p][b:aT y g](h:aA ν aD 129 [enc p,enc g,k3 s] (sV (oI p g s))):b1 ν aD D 129 [x,y,k3 s] K tg=K (sV (oI p g s)) :=
 u1 (by simp only[aKC,a.arg,b.arg,(aT.k3 s).arg,aKD,aKE]) (bt.h (D':=e7) _ _ _ (by rw[sW (F:=qF λ(p:I)(g:I)(s:List aY)=>sV (oI p g s)) (λ_=>rfl)];exact Qj (F:=λ(p:I)(g:I)(s:List aY)=>sV (oI p g s)) a b (aT.k3 s))) (h.args (.cons a.kX (.cons b.kX (.cons (bx.refl _) .nil))))
attribute [go_sem ↓ 2000] aMv
end
theorem aMy(p g:I)(s:List aY):oI p g s=if zf p then(if sS s p.name then(s,hi s[oH s p.name]!.term g)else(mi s (oH s p.name) ⟨p.name,g⟩,true))
  else if p.name != g.name||decide (p.args.length≠g.args.length)then([],false)else sT p.args g.args s:=by
 cases p;rw[oI];rfl
theorem ac5(p:I):kl p=o3 p.args+1:=by cases p;rfl
theorem Ug(q:List aY×Bool):(sV q).res=true:=by
 obtain⟨s,b⟩:=q;simp only[sV];unfold k3;split<;>rfl
theorem aMz{l m:List I}(a:i<l.length)(b:i<m.length):sT (l.drop i) (m.drop i) s=bif (oI l[i]! m[i]! s).2 then sT (l.drop (i+1)) (m.drop (i+1)) (oI l[i]! m[i]! s).1 else([],false):=by
 rw[fi a,fi b,sT]
theorem awy{k:Nat}{b:aY}:mi s k b≠[]:=by simp[mi]
theorem aMA:∀(p g:I)(s:List aY),s.length+kl p<=M->aA ν aD 129 [enc p,enc g,k3 s] (sV (oI p g s)):=I.ind λp ih g s ax=>by
 have E:M=1099511627776:=rfl;rw[ac5]at ax;obtain⟨R,de⟩:∃R,R=oI p g s:=⟨_,rfl⟩;rw[<-de];rw[aMy]at de;cases d:zf p with
 |true =>
  rw[d,if_pos rfl]at de;cases c:sS s p.name with
  |true =>
   rw[c,if_pos rfl]at de;have cG:s≠[]:=λe=>by rw[e]at c;cases c
   have A:oH s p.name<s.length:=by
    unfold sS at c;simp only[aK8,decide_eq_true_eq]at c;exact c.1
   have e:sV R=.bg [.list none 3 (s.map aY.enc),.bool (hi s[oH s p.name]!.term g)]:=by rw[de,sV,al0 cG]
   rw[e,al0 cG];obtain⟨i,al⟩:∃i,i=oH s p.name:=⟨_,rfl⟩;rw[<-al]at A ⊢;refine aA.intro (D:=e7) azj (by simp only[aKC,aKD,Enc.arg,aKE];rfl) rfl ?_;unfold acw
   (repeat' first|simp(disch:=first|exact ai|fail) only[go_sem,d,c,<-al]|(refine ao ?_ ?_<;>intro))
   all_goals rfl
  |false =>
   rw[c,if_neg be]at de;have e:sV R=.bg [.list none 3 ((mi s (oH s p.name) ⟨p.name,g⟩).map aY.enc),.bool true]:=by rw[de,sV,al0 awy]
   rw[e];refine aA.intro (D:=e7) azj (by simp only[aKC,aKD,Enc.arg,LH,aKE]) rfl ?_;unfold acw
   (repeat' first|simp(disch:=first|exact ai|fail) only[go_sem,d,c]|(refine ao ?_ ?_<;>intro))
   all_goals rfl
 |false =>
  rw[d,if_neg be]at de;cases h:p.name==g.name with
  |false =>
   rw[show(p.name != g.name)=true by rw[bne,h];rfl,Bool.true_or,if_pos rfl]at de;subst de;refine aA.intro (D:=e7) azj (by simp only[aKC,aKD,Enc.arg,LH,aKE]) (Ug _) ?_;unfold acw;refine gS @d @h ?_;all_goals rfl
  |true =>
   rw[show(p.name != g.name)=false by rw[bne,h];rfl,Bool.false_or]at de;by_cases n:p.args.length=g.args.length
   ·rw[decide_eq_false am,if_neg be]at de;have cG:((p.args.length:Int) != (g.args.length:Int))=false:=by rw[n];simp
    refine aA.sy λB G=>?_;have J:=((I.j5 p).1 B).2.1;refine aA.intro (D:=e7) azj (by simp only[aKC,aKD,Enc.arg,LH,aKE]) (Ug _) ?_;unfold acw;refine iv @d @h @cG ?_;refine bQ (λi:Nat×List aY=>⟨N [(2,.v (k3 i.2)),(3,.v (.cL p.enc.cells)),(4,.v (.cL g.enc.cells)),(51,.v (enc p.args.length)),(52,.v (enc i.1))],[]⟩) (λi=>i.1<=p.args.length/\i.2.length+o3 (p.args.drop i.1)<=M/\sT (p.args.drop i.1) (g.args.drop i.1) i.2=R) (λi=>p.args.length-i.1) (0,s) ⟨aKG _,by simp only[List.drop_zero];omega,de.symm⟩ ew ?_;rintro⟨i,q⟩ ⟨C,o,a⟩;simp only at C o a;rcases aKF i p.args.length with al|al
    ·rw[aMz al am]at a;rw[aqI al]at o;have hd:=ih p.args[i]! (ek al) g.args[i]! q am;have u:=@alY p.args[i]! g.args[i]! q;have v:=λ{K:AV->Prop}{tg:aN K}=>ama (D:=e7) (K:=K) (tg:=tg) (x:=p.args[i]!.enc) (y:=g.args[i]!.enc) hd;obtain⟨⟨w,b⟩,z⟩:∃k,k=oI p.args[i]! g.args[i]! q:=⟨_,rfl⟩;have j:sV (oI p.args[i]! g.args[i]! q)=.bg [k3 w,.bool b]:=by rw[<-z];rfl
     rw[<-z]at a u;simp only at a u;cases b with
     |true =>
      simp only[cond_true]at a;refine gS @v @j ?_;exact⟨(i+1,w),⟨ap,ap,a⟩,ap,ci⟩
     |false =>
      simp only[cond_false]at a;subst a;refine gS @v @j ?_;all_goals rfl
    ·rw[aKV al,sT]at a;subst a;refine ag ?_;all_goals rfl
   ·rw[decide_eq_true n,if_pos rfl]at de;subst de;have cG:((p.args.length:Int) != (g.args.length:Int))=true:=by simp;omega
    refine aA.intro (D:=e7) azj (by simp only[aKC,aKD,Enc.arg,LH,aKE]) (Ug _) ?_;unfold acw;refine iv @d @h @cG ?_;all_goals rfl
theorem LI:q1 []=true:=rfl
theorem aMG(p g:I)(ar:kl p<=M):aA ν aD 90 [enc p,enc g,.aS 3] (DQ (sU p g)):=by
 obtain⟨R,h⟩:∃R,R=sU p g:=⟨_,rfl⟩;rw[<-h];unfold sU at h;cases c:cD 4 g false with
 |false =>
  rw[c]at h;simp only[Bool.not_false,if_true]at h;subst h;refine aA.gK (D:=e7) ayU (by simp only[aKC,aKD,Enc.arg,aKE];rfl) rfl (λ_ _ _ h=>d6) ?_;unfold abh;refine bU @c ?_;all_goals exact⟨_,rfl,bx.bg (.cons (bx.aS 3) (.cons (bx.refl _) .nil))⟩
 |true =>
  rw[c]at h;simp only[Bool.not_true,aKU,if_false]at h;obtain⟨⟨out,ok⟩,hm⟩:∃r,r=oI p g []:=⟨_,rfl⟩;rw[<-hm]at h;simp only at h;have e:∀{K:AV->Prop}{tg:aN K},b1 ν aD e7 129 [p.enc,g.enc,.aS 3] K tg=K (.bg [k3 out,.bool ok]):=λ{K tg}=>by
   have:=ama (D:=e7) (K:=K) (tg:=tg) (x:=p.enc) (y:=g.enc) (s:=[]) (aMA p g [] (by simpa using ar));rw[<-hm]at this;exact this
  refine aA.gK (D:=e7) ayU (by simp only[aKC,aKD,Enc.arg,aKE];rfl) (by obtain⟨a,b⟩:=R;rfl) (λ_ _ _ h=>by obtain⟨a,b⟩:=R;cases h) ?_;unfold abh;cases ok with
  |false =>
   simp only[aK6,aKU,if_false]at h;subst h;refine iv @c @LI @e ?_;all_goals exact⟨_,rfl,bx.bg (.cons (bx.aS 3) (.cons (bx.refl _) .nil))⟩
  |true =>
   rw[aK5]at h;cases d:q1 out with
   |false =>
    rw[d]at h;simp only[aKU,if_false]at h;subst h;refine mb @c @LI @e @d ?_;all_goals exact⟨_,rfl,bx.bg (.cons (bx.aS 3) (.cons (bx.refl _) .nil))⟩
   |true =>
    rw[d]at h;simp only[if_true]at h;subst h;refine mb @c @LI @e @d ?_;all_goals exact⟨_,rfl,bx.refl _⟩
variable {p:I}
theorem aMH[bt D e7]{x y:AV}{g:I}[a:aT x p][b:aT y g](h:kl p<=M):b1 ν aD D 90 [x,y,.aS 3] K tg=K (DQ (sU p g)) :=
 u1 (by simp only[aKC,a.arg,b.arg,aKD,aKE];rfl) (bt.h (D':=e7) _ _ _ (by rw[sW (F:=qF λ(p:I)(g:I)(s:List aY)=>DQ (sU p g)) (λ_=>rfl)];exact Qj (F:=λ(p:I)(g:I)(s:List aY)=>DQ (sU p g)) a b aT.Qm)) ((aMG p g h).args (.cons a.kX (.cons b.kX (.cons (bx.refl _) .nil))))
attribute [go_sem ↓ 2000] aMH
open Enc (enc)
def mz(r:List aY×Bool):AV:=.bg [enc r.1,.bool r.2]
def pg(t:I):Option I->AV
 |some u=>.bg [enc u,.bool true]|none=>.bg [enc t,.bool false]
noncomputable def SZ:List iZ:=[(29,eh λ(t:I)=>enc (fy t)),
 (30,eh λ(t:I)=>enc (cc t)),
 (61,eh λ(t:I)=>enc (mx t)),
 (60,qF λ(p:I)(t:I)(s:List aY)=>mz (fk p t s)),
 (32,hj λ(t:I)(s:List aY)=>pg t (hv t s))]
noncomputable def gy:bj:=ij e7 (e1 SZ)
instance aPd{D:bj}[h:bt D gy]:bt D e7:=h.ke
def S0:List Nat:=[29,30,61,60,32]++al4
theorem akt:fq gy S0:=fq.or aL8 (kf SZ)
theorem A8(h:∀xs,e1 SZ f xs=F xs)(hk:al4.contains f=false:=by rfl):∀xs,gy f xs=F xs:=λxs=>by rw[<-h];exact kg aL8 hk
theorem aJr[bt D gy][aT x1 t](h:aA ν aD 29 [enc t] (enc (fy t))):b1 ν aD D 29 [x1] K tg=K (enc (fy t)):=ec (D':=gy) (F:=λ(t:I)=>enc (fy t)) (A8 λ_=>rfl) h
theorem aJs[bt D gy][aT x1 t](h:aA ν aD 30 [enc t] (enc (cc t))):b1 ν aD D 30 [x1] K tg=K (enc (cc t)):=ec (D':=gy) (F:=λ(t:I)=>enc (cc t)) (A8 λ_=>rfl) h
theorem S1[bt D gy]{x3:AV}[aT x1 p][aT x2 t][aT x3 s](h:aA ν aD 60 [enc p,enc t,enc s] (mz (fk p t s))):b1 ν aD D 60 [x1,x2,x3] K tg=K (mz (fk p t s)):=u2 (D':=gy) (F:=λ(p:I)(t:I)(s:List aY)=>mz (fk p t s)) (A8 λ_=>rfl) h
theorem S2[bt D gy][aT x1 t][aT x2 s](h:aA ν aD 32 [enc t,enc s] (pg t (hv t s))):b1 ν aD D 32 [x1,x2] K tg=K (pg t (hv t s)):=ik (D':=gy) (F:=λ(t:I)(s:List aY)=>pg t (hv t s)) (A8 λ_=>rfl) h
theorem aJt(t:I):fy t=t.name++[40]++iA t.args++[41]:=by cases t;rfl
theorem aJu:∀t:I,(fy t).length<=M->aA ν aD 29 [enc t] (enc (fy t)):=I.ind λt ih hk=>by
 refine aA.h4 λae=>?_;have e:=((I.j5 t).1 ae).2.1;have g:M=1099511627776:=rfl;rw[aJt]at hk ⊢;simp only[aKK,aKR,aK2]at hk;refine aA.intro (D:=gy) ayg cX c7 ?_;unfold Y5;simp(disch:=first|exact ai|fail) only[go_sem]
 (repeat' first|refine iv @aKK.{0} @aKR.{0} @aK2.{0} ?_|(refine ao ?_ ?_<;>intro))
 refine bQ (λi:Nat=>⟨N [(1,.v (.cL t.enc.cells)),(3,.v (.str (t.name++[40]++iA (t.args.take i)))),(10,.v (enc t.args.length)),(11,.v (enc i))],[]⟩)
  (λi=>i<=t.args.length) (λi=>t.args.length-i) 0 (aKG _) (by(try simp(disch:=first|exact ai|fail) only[go_sem])<;>(first|rfl|(simp(disch:=first|exact aX|fail) only[b7,aKM,aKN,Env.ins,cp,cq,cr,ct,cu,cv,cw,cx,I.b0,aKB,aKO,aKP,aKQ,aKI,bL,aKJ,aKL,aKH,cy,cz,go_sem,iA,aKX];try rfl))) ?_
 intro i al;have b:=SX t.args i;rcases aKF i t.args.length with h|h
 ·have a:=SX t.args (i+1);have c:=aJm h;rw[c]at a;simp only[aKK,aKR,aK2]at a;have hd:=ih t.args[i]! (ek h) am;have d:=λ{K:AV->Prop}{tg:aN K}(j:i<t.args.length)=>aJr (D:=gy) (K:=K) (tg:=tg) (x1:=t.args[i]!.enc) (hd);refine mb @d @aKK.{0} @aKR.{0} @aK2.{0} ?_;exact⟨i+1,am,am,by(first|rfl|(simp(disch:=first|exact aX|fail) only[b7,aKM,aKN,Env.ins,cp,cq,cr,ct,cu,cv,cw,cx,I.b0,aKB,aKO,aKP,aKQ,aKI,bL,aKJ,aKL,aKH,cy,cz,go_sem,SV,List.append_assoc];try rfl))⟩
 ·obtain rfl:i=t.args.length:=by omega
  rw[aKS]
  (repeat' first|simp(disch:=first|exact ai|fail) only[go_sem,aKK,aKR,aK2]|(refine ao ?_ ?_<;>intro))
  all_goals rfl
theorem aJv[bt D gy][aT x1 t](h:(fy t).length<=M) :b1 ν aD D 29 [x1] K tg=K (enc (fy t)):=ec (D':=gy) (F:=λ(t:I)=>enc (fy t)) (A8 λ_=>rfl) (aJu t h)
attribute [go_sem ↓ 2000] aJv
theorem aJw:∀(t:I),cc t<=1000000->aA ν aD 30 [enc t] (enc (cc t)):=I.ind λt ih hd=>by
 refine aA.h4 λae=>?_;obtain⟨_,ae,_⟩:=(I.j5 t).1 ae;have d:M=1099511627776:=rfl;have b:=u4 t;refine aA.intro (D:=gy) ayh cX c7 ?_;unfold Y8;simp(disch:=first|exact ai|fail) only[go_sem];refine bQ (λ(i:Nat)=>⟨N [(1,.v (.cL t.enc.cells)),(3,.v (enc (ja (t.args.take i)))),(7,.v (enc t.args.length)),(8,.v (enc i))],[]⟩) (λ(i:Nat)=>i<=t.args.length) (λ(i:Nat)=>t.args.length-i) 0 d7 (by(try simp(disch:=first|exact ai|fail) only[go_sem])<;>(first|rfl|(simp(disch:=first|exact aX|fail) only[b7,aKM,aKN,Env.ins,cp,cq,cr,ct,cu,cv,cw,cx,I.b0,aKB,aKO,aKP,aKQ,aKI,bL,aKJ,aKL,aKH,cy,cz,go_sem,ja];try rfl))) ?_;intro i al;have c:=λ{K:AV->Prop}{tg:aN K}(a:i<t.args.length)=>aJs (D:=gy) (K:=K) (tg:=tg) (x1:=t.args[i]!.enc) (ih t.args[i]! (ek a) (by have:=Av (ek a);omega));have e:=Qq t.args i
 (repeat' first|simp(disch:=first|exact ai|fail) only[go_sem,c]|(refine ao ?_ ?_<;>intro))
 ·exact⟨i+1,am,am,by(first|rfl|(simp(disch:=first|exact aX|fail) only[b7,aKM,aKN,Env.ins,cp,cq,cr,ct,cu,cv,cw,cx,I.b0,aKB,aKO,aKP,aKQ,aKI,bL,aKJ,aKL,aKH,cy,cz,go_sem,J8];try rfl))⟩
 ·rw[List.take_of_length_le am,b];rfl
theorem aJx[bt D gy][aT x1 t](h:cc t<=1000000) :b1 ν aD D 30 [x1] K tg=K (enc (cc t)):=ec (D':=gy) (F:=λ(t:I)=>enc (cc t)) (A8 λ_=>rfl) (aJw t h)
attribute [go_sem ↓ 2000] aJx
theorem aJy(t:I):aA ν aD 61 [enc t] (enc (mx t)):=by
 have b:((t.args.length:Int)==0)=decide (t.args.length=0):=by rw[aK4];simp
 have e:mx t=(decide (t.args.length=0)&&xt t.name):=rfl;rw[e];cases d:t.name with
 |nil =>
  refine aA.intro (D:=gy) ayB cX c7 ?_;unfold aad;simp(disch:=first|exact ai|fail) only[go_sem];cases a:decide (t.args.length=0);all_goals (repeat' first|simp(disch:=first|exact ai|fail) only[go_sem,b,a,d]|(refine ao ?_ ?_<;>intro))
  all_goals rfl
 |cons c r =>
  have g:xt (c::r)=(decide (65<=c.toNat)&&decide (c.toNat<=90)):=rfl;have h:((c::r)==([]:ak))=false:=rfl;have j:decide ((c.toNat:Int)>=65)=decide (65<=c.toNat):=by rw[aK4];simp;omega
  have k:decide ((c.toNat:Int)<=90)=decide (c.toNat<=90):=by rw[aK4];simp;omega
  rw[g];refine aA.intro (D:=gy) ayB cX c7 ?_;unfold aad;simp(disch:=first|exact ai|fail) only[go_sem];cases a:decide (t.args.length=0)<;>cases n:decide (65<=c.toNat)<;>cases o:decide (c.toNat<=90);all_goals (repeat' first|simp(disch:=first|exact ai|fail) only[go_sem,b,a,d,h,j,k,n,o,aKT,aK3]|(refine ao ?_ ?_<;>intro))
  all_goals rfl
theorem aJz[bt D gy][aT x1 t]  :b1 ν aD D 61 [x1] K tg=K (enc (mx t)):=ec (D':=gy) (F:=λ(t:I)=>enc (mx t)) (A8 λ_=>rfl) (aJy t)
attribute [go_sem ↓ 2000] aJz
theorem S3{n:ak}(h:i<s.length):jr (s.drop i) n=if s[i]!.var==n then some s[i]!.term else jr (s.drop (i+1)) n:=by
 rw[fi h,jr,List.find?_cons];cases s[i]!.var==n<;>rfl
theorem aJA(h:mx p=true):fk p t s=(match jr s p.name with|some u=>(s,hi u t)|none=>(s++[⟨p.name,t⟩],true)):=by
 obtain⟨n,l⟩:=p;rw[fk,if_pos h];rfl
theorem aJB(h:mx p=false):fk p t s=if p.name != t.name||decide (p.args.length≠t.args.length)then([],false)else j9 p.args t.args s:=by
 obtain⟨n,l⟩:=p;rw[fk,if_neg (by rw[h];simp)];rfl
theorem aJC{l m:List I}(a:i<l.length)(b:i<m.length):j9 (l.drop i) (m.drop i) s=if(fk l[i]! m[i]! s).2 then j9 (l.drop (i+1)) (m.drop (i+1)) (fk l[i]! m[i]! s).1 else((fk l[i]! m[i]! s).1,false):=by
 rw[fi a,fi b,j9]
mutual
theorem G3:∀(p t:I)(s:List aY),(fk p t s).1.length<=s.length+(ck p).length
 |.mk n l,t,s=>by
  have d:(bF l).length<=(ck (.mk n l)).length:=by cases l<;>simp[ck,bF]
  have b:l=[]->(ck (.mk n l)).length=1:=by rintro rfl;simp[ck]
  cases a:mx (.mk n l)with
  |true =>
   have c:l.length=0:=by
    simp only[mx,aK8,I.args]at a;exact of_decide_eq_true a.1
   have:=b (aKW.1 c);rw[fk,if_pos a];cases jr s n<;>simp<;>omega
  |false =>
   have e:=aku l t.args s;rw[fk,if_neg (by rw[a];simp)];split
   ·simp
   ·omega
theorem aku:∀(l m:List I)(s:List aY),(j9 l m s).1.length<=s.length+(bF l).length
 |[],m,s=>by simp[j9]|p::ps,[],s=>by simp[j9]|p::ps,t::bE,s=>by
  have a:=G3 p t s;have b:=aku ps bE (fk p t s).1;rw[j9,bF,aKK];split
  ·omega
  ·simp only;omega
end
theorem S4:∀{l:List I}{i:Nat},i<l.length->(bF (l.take i)).length+(ck l[i]!).length<=(bF l).length
 |[],i,h=>by simp at h|t::r,0,h=>by simp[bF]|t::r,i+1,h=>by
  have:=S4 (l:=r) (i:=i) f8;simp only[List.take_succ_cons,bF,aKK,List.getElem!_cons_succ]at this ⊢;omega
theorem aJD:∀(p t:I)(s:List aY),s.length+(ck p).length<=1000000->aA ν aD 60 [enc p,enc t,enc s] (mz (fk p t s)):=I.ind λp ih t s ax=>by
 refine aA.sy λw z=>?_;have L:=((I.j5 p).1 w).2.1;have O:=((I.j5 t).1 z).2.1;have P:M=1099511627776:=rfl;cases b:mx p with
 |true =>
  rw[aJA b];obtain⟨R,de⟩:∃R,R=jr s p.name:=⟨_,rfl⟩;rw[<-de];refine aA.gK (D:=gy) ayA (by simp only[aKC,aKD,Enc.arg,aKE]) rfl (λ_ _ _ h=>d6) ?_;unfold aaa;refine bU @b ?_;refine bQ (λi:Nat=>⟨N [(2,.v (enc s)),(3,.v (.cL p.enc.cells)),(4,.v (.cL t.enc.cells)),(14,.v (enc s.length)),(15,.v (enc i))],[]⟩)
   (λi=>i<=s.length/\jr (s.drop i) p.name=R) (λi=>s.length-i) 0 ⟨aKG _,de.symm⟩ ew ?_
  rintro i ⟨o,a⟩;rcases aKF i s.length with h|h
  ·rw[S3 h]at a;cases j:s[i]!.var==p.name with
   |true =>
    rw[j,if_pos rfl]at a;rw[<-a];refine gS @b @j ?_;exact⟨_,rfl,bx.refl _⟩
   |false =>
    rw[j,if_neg be]at a;refine gS @b @j ?_;exact⟨i+1,⟨am,a⟩,am,ci⟩
  ·rw[aKV h]at a;have e:R=none:=a.symm;rw[e];refine iv @b @aKB.{0,0} @List.nil_append.{0} ?_;exact⟨_,rfl,by simp only[mz];rw[show(enc (s++[aY.mk p.name t]):AV)=.list none 3 ((s++[aY.mk p.name t]).map aY.enc) from rfl,aKJ];exact bx.refl _⟩
 |false =>
  rw[aJB b];have A:=nJ p;have u:((p.args.length:Int) != (t.args.length:Int))=decide (p.args.length≠t.args.length):=by rw[aK4];simp;omega
  cases k:(p.name != t.name||decide (p.args.length≠t.args.length))with
  |true =>
   simp only[if_true];refine aA.gK (D:=gy) ayA (by simp only[aKC,aKD,Enc.arg,aKE]) rfl (λ_ _ _ h=>d6) ?_;unfold aaa;cases c:p.name==t.name with
   |false =>
    refine gS @b @c ?_;exact⟨_,rfl,bx.bg (.cons (bx.aS _) (.cons (bx.refl _) .nil))⟩
   |true =>
    have n:decide (p.args.length≠t.args.length)=true:=by
     have:(p.name != t.name)=false:=by rw[bne,c];rfl
     rw[this,Bool.false_or]at k;exact k
    (repeat' first|refine mb @b @c @u @n ?_|(refine ao ?_ ?_<;>intro))
    exact⟨_,rfl,bx.bg (.cons (bx.aS _) (.cons (bx.refl _) .nil))⟩
  |false =>
   simp only[Bool.or_eq_false_iff]at k;obtain⟨c,n⟩:=k;have c:(p.name==t.name)=true:=by rw[bne]at c;simpa using c
   have B:p.args.length=t.args.length:=by simpa using n
   simp only[aKU,if_false];obtain⟨R,de⟩:∃R,R=j9 p.args t.args s:=⟨_,rfl⟩;rw[<-de];have C:s.length+(bF p.args).length<=1000000:=by
    rw[A]at ax;split at ax
    ·rename_i E;rw[aKW.1 E];simp only[bF,aK2];omega
    ·exact ax
   refine aA.gK (D:=gy) ayA (by simp only[aKC,aKD,Enc.arg,aKE]) rfl (λ_ _ _ h=>d6) ?_;unfold aaa
   (repeat' first|refine mb @b @c @u @n ?_|(refine ao ?_ ?_<;>intro))
   refine bQ (λq:Nat×List aY×Bool=>⟨N [(2,.v (enc q.2.1)),(3,.v (.cL p.enc.cells)),(4,.v (.cL t.enc.cells)),(9,.v (.bool q.2.2)),(10,.v (enc q.1))],[]⟩)
    (λq=>q.1<=p.args.length/\(q.2.2=true->j9 (p.args.drop q.1) (t.args.drop q.1) q.2.1=R/\q.2.1.length<=s.length+(bF (p.args.take q.1)).length)/\(q.2.2=false->R=(q.2.1,false))) (λq=>p.args.length-q.1) (0,s,true) ⟨aKG _,λ_=>⟨de.symm,by simp[bF]⟩,λh=>d6⟩ ew ?_
   rintro⟨i,g,ok⟩ ⟨o,a,e⟩;simp only at o a e;cases ok with
   |false =>
    have e:=e rfl;rw[e]
    (repeat' first|refine ag ?_|(refine ao ?_ ?_<;>intro))
    all_goals exact⟨_,rfl,bx.refl _⟩
   |true =>
    obtain⟨a,Q⟩:=a rfl;rcases aKF i p.args.length with h|h
    ·have S:=S4 h;have hd:=ih p.args[i]! (ek h) t.args[i]! g am;rw[aJC h am]at a;have G:=G3 p.args[i]! t.args[i]! g;obtain⟨X,bA⟩:∃X,X=fk p.args[i]! t.args[i]! g:=⟨_,rfl⟩;have d:=λ{K:AV->Prop}{tg:aN K}=>S1 (D:=gy) (K:=K) (tg:=tg) (x1:=p.args[i]!.enc) (x2:=t.args[i]!.enc) (x3:=enc g) hd;rw[<-bA]at a G d;have J:(enc g:AV)=.list none 3 (g.map aY.enc):=rfl;rw[J]at d;simp only[mz]at d;have T:(bF (p.args.take (i+1))).length=(bF (p.args.take i)).length+(ck p.args[i]!).length:=by
      have key:∀(l:List I)(x:I),(bF (l++[x])).length=(bF l).length+(ck x).length:=λl x=>by
       induction l with
       |nil=>simp[bF]|cons y r ih=>simp only[List.cons_append,bF,aKK,ih];omega
      rw[bL h,key]
     cases v:X.2 with
     |true =>
      rw[v]at a d;rw[if_pos rfl]at a;refine bU @d ?_;exact⟨(i+1,X.1,true),⟨ap,λ_=>⟨a,ap⟩,λh=>d6⟩,ap,ci⟩
     |false =>
      rw[v]at a d;rw[if_neg be]at a;refine bU @d ?_;exact⟨(i+1,X.1,false),⟨ap,λh=>d6,λ_=>a.symm⟩,ap,ci⟩
    ·rw[aKV h,j9]at a;rw[<-a];refine ag ?_;all_goals exact⟨_,rfl,bx.refl _⟩
open Enc (enc)
theorem aJG(h:mx t=true):hv t s=jr s t.name:=by
 obtain⟨n,l⟩:=t;rw[hv,if_pos h];rfl
theorem aJH(h:mx t=false):hv t s=(kN t.args s).map (I.mk t.name):=by
 obtain⟨n,l⟩:=t;rw[hv,if_neg (by rw[h];simp)];rfl
theorem akv(t:I)(R:Option I):(pg t R).res=true:=by
 cases R with
 |none=>simp only[pg,AV.res,aKC,aKD];rw[show(enc t:AV)=t.enc from rfl,t.qC];rfl|some u=>simp only[pg,AV.res,aKC,aKD];rw[show(enc u:AV)=u.enc from rfl,u.qC];rfl
theorem akw(t:I)(R:Option I):cY (pg t R):=by cases R<;>exact λ_ _ _ h=>by cases h
theorem aJI(s:List aY)(ax:s.length<=M):∀t:I,aA ν aD 32 [enc t,enc s] (pg t (hv t s)):=I.ind λt ih=>by
 refine aA.sy λv _=>?_;have z:=((I.j5 t).1 v).2.1;have A:M=1099511627776:=rfl;cases c:mx t with
 |true =>
  rw[aJG c];obtain⟨R,de⟩:∃R,R=jr s t.name:=⟨_,rfl⟩;rw[<-de];refine aA.gK (D:=gy) V1 (by simp only[aKC,aKD,Enc.arg,aKE]) (akv _ _) (akw _ _) ?_;unfold sw;refine bU @c ?_;refine bQ (λi:Nat=>⟨N [(1,.v (enc s)),(2,.v (.cL t.enc.cells)),(4,.b [.str [],.aS 2]),(14,.v (enc s.length)),(15,.v (enc i))],[]⟩)
   (λi=>i<=s.length/\jr (s.drop i) t.name=R) (λi=>s.length-i) 0 ⟨aKG _,de.symm⟩ ew ?_
  rintro i ⟨n,a⟩;rcases aKF i s.length with h|h
  ·rw[S3 h]at a;cases g:s[i]!.var==t.name with
   |true =>
    rw[g,if_pos rfl]at a;rw[<-a];refine gS @c @g ?_;exact⟨_,rfl,bx.refl _⟩
   |false =>
    rw[g,if_neg be]at a;refine gS @c @g ?_;exact⟨i+1,⟨am,a⟩,am,ci⟩
  ·rw[aKV h]at a;have b:R=none:=a.symm;rw[b];refine bU @c ?_;exact⟨_,rfl,bx.refl _⟩
 |false =>
  rw[aJH c];obtain⟨R,de⟩:∃R,R=kN t.args s:=⟨_,rfl⟩;rw[<-de];refine aA.gK (D:=gy) V1 (by simp only[aKC,aKD,Enc.arg,aKE]) (akv _ _) (akw _ _) ?_;unfold sw;refine bU @c ?_;refine bQ (λq:Nat×List I=>⟨N [(1,.v (enc s)),(2,.v (.cL t.enc.cells)),(4,.b [.str [],.aS 2]),(7,.b [.str t.name,if q.1=0 then .aS 2 else .list (some 25) 2 (q.2.map I.enc)]),(38,.v (enc t.args.length)),(39,.v (enc q.1))],[]⟩)
   (λq=>q.1<=t.args.length/\q.2.length=q.1/\(kN (t.args.drop q.1) s).map (q.2++·)=R) (λq=>t.args.length-q.1) (0,[]) ⟨aKG _,rfl,by simp only[List.drop_zero,List.nil_append];rw[de];cases kN t.args s<;>rfl⟩ ew ?_
  rintro⟨i,os⟩ ⟨n,a,b⟩;simp only at n a b;rcases aKF i t.args.length with h|h
  ·have hd:=ih t.args[i]! (ek h);have d:=λ{K:AV->Prop}{tg:aN K}=>S2 (D:=gy) (K:=K) (tg:=tg) (x1:=t.args[i]!.enc) (x2:=enc s) hd;have w:(enc s:AV)=.list none 3 (s.map aY.enc):=rfl;rw[w]at d;rw[fi h,kN]at b;obtain⟨X,bA⟩:∃X,X=hv t.args[i]! s:=⟨_,rfl⟩;rw[<-bA]at b d;cases X with
   |none =>
    simp only[Option.map_none]at b;rw[<-b];simp only[pg]at d;refine bU @d ?_;exact⟨_,rfl,bx.refl _⟩
   |some u =>
    simp only[pg]at d;simp only[Option.map_map]at b;have o:Option.map (λx=>(os++[u])++x) (kN (t.args.drop (i+1)) s)=R:=by
     rw[<-b];congr 1
     funext x
     simp
    have y:¬(i+1=0):=by omega
    rcases aK7 i with e|e
    ·subst e;have j:os=[]:=aKW.1 a;subst j;refine bU @d ?_;exact⟨(1,[u]),⟨ap,rfl,o⟩,ap,ci⟩
    ·have k:¬(i=0):=by omega
     (repeat' first|simp(disch:=first|exact ai|fail) only[go_sem,d,if_neg k,aKB,a]|(refine ao ?_ ?_<;>intro))
     exact⟨(i+1,os++[u]),⟨ap,by simp[a],o⟩,ap,by(first|rfl|(simp(disch:=first|exact aX|fail) only[b7,aKM,aKN,Env.ins,cp,cq,cr,ct,cu,cv,cw,cx,I.b0,aKB,aKO,aKP,aKQ,aKI,bL,aKJ,aKL,aKH,cy,cz,go_sem,if_neg y];try rfl))⟩
  ·obtain rfl:i=t.args.length:=by omega
   rw[List.drop_length,kN]at b;simp only[aK3,aKX]at b;rw[<-b];rcases aK7 t.args.length with e|e
   ·have j:os=[]:=aKW.1 am;subst j;refine bU @e ?_;exact⟨_,rfl,by simp only[pg,aK3];rw[show(enc (I.mk t.name []):AV)=(I.mk t.name []).enc from rfl,I.qC];exact bx.bg (.cons (bx.agg (.cons (bx.refl _) (.cons (bx.aS _) .nil))) (.cons (bx.refl _) .nil))⟩
   ·have k:¬(t.args.length=0):=by omega
    (repeat' first|simp(disch:=first|exact ai|fail) only[go_sem,if_neg k]|(refine ao ?_ ?_<;>intro))
    exact⟨_,rfl,by simp only[pg,aK3];rw[show(enc (I.mk t.name os):AV)=(I.mk t.name os).enc from rfl,I.qC];exact bx.refl _⟩
end AM
