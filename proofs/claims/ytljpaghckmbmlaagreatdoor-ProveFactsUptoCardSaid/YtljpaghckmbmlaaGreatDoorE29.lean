/- What functions of the given program do, as calls of the machine. Conditions: names and lists are bounded where that is said. -/
import Derived.Test.YtljpaghckmbmlaaGreatDoorSS
import Derived.Test.YtljpaghckmbmlaaGreatDoorAm9
set_option linter.unusedSimpArgs false
set_option maxRecDepth 100000
set_option maxHeartbeats 4000000
set_option linter.unusedVariables false
namespace AM
open List renaming length_map -> aqt,length_append -> aqx,map_nil -> aqB,map_append -> aqE,take_zero -> aqH,map_cons -> aqI,all_cons -> aqT,all_nil -> aqU,foldr_cons -> aqV,foldr_nil -> avO,length_cons -> avT,take_length -> avY,append_nil -> ax6,length_nil -> aKc,map_map -> aLO,length_eq_zero_iff -> aLY,mem_append -> aLZ,drop_eq_nil_of_le -> aL0,flatMap_append -> aPP,getElem?_cons_zero -> aPR,take_of_length_le -> aPU
open Nat renaming lt_or_ge -> aqv,zero_le -> aqw,eq_zero_or_pos -> aPS
open Int renaming natCast_add -> avP,natCast_one -> avQ,natCast_zero -> avR
open Bool renaming and_self -> avS,false_eq_true -> avX,eq_iff_iff -> aPw,not_false -> aPQ,and_eq_true -> aPT
open Option renaming map_some -> aL1
open Go Go.Proofs
open Tryz renaming prog -> ν
open Enc (enc)
theorem aIu(H:List ay)(mid:Nat):bB ν aD 191 [.map mid] H λr H'=>r=.fn 210 [.ptr H.length 0]/\H'=H++[.cells [.map mid]]:=by
 refine bB.intro (D:=h7) az3 ?_;unfold aep;refine ag ?_;exact⟨_,rfl,d9⟩
variable {H:List ay}{id mid m:Nat}{km:List (ak×Bool)}
theorem aIv(f:H[id]?=some (.cells [.map mid]))(g:H[mid]?=some (.map m (cI AV.bool km)))(i:km.length<=M) :
  bB ν aD 208 [.fn 210 [.ptr id 0]] H λr H'=>(km=[]/\r=.aS 1/\H'=H)\/(km≠[]/\∃ks:List ak,ks.Perm (cd km)/\r=.bI H.length 0 ks.length 1/\H'=H++[.buf 9 (im ks),.dead]):=by
 have j:(cI AV.bool km).map (·.1)=(cd km).map AV.str:=by simp only[cI,cd,aLO];first|rfl|(rw[List.map_id];rfl)|simp[qQ,bR.enc,Function.comp_def]
 have t:=ajp (gl:=aD) ax2 asO f g (λe he=>by simp only[cI,List.mem_map]at he;obtain⟨p,_,rfl⟩:=he;rfl) (λe he=>by simp only[cI,List.mem_map]at he;obtain⟨p,_,rfl⟩:=he;rfl) (by simp only[cI,aqt];exact i);have k:bB ν aD 218 [.aS 1,.fn 210 [.ptr id 0]] H λr H'=>(km=[]/\r=.aS 1/\H'=H)\/(km≠[]/\∃ks:List ak,ks.Perm (cd km)/\r=.bI H.length 0 ks.length 1/\H'=H++[.buf 9 (im ks),.dead]):=by
  refine t.mono ?_;rintro r H' (⟨b,a,c⟩|⟨b,ks,a,c,l⟩)
  ·exact .inl ⟨by simpa[cI]using b,a,c⟩
  ·rw[j]at a;obtain⟨n,o,rfl⟩:=ajq a;exact .inr ⟨λe=>b (by rw[e];rfl),n,o,by rw[c,aqt],by rw[l,ajr]⟩
 have d:∃(r:AV)(H':List ay),(km=[]/\r=.aS 1/\H'=H)\/(km≠[]/\∃ks:List ak,ks.Perm (cd km)/\r=.bI H.length 0 ks.length 1/\H'=H++[.buf 9 (im ks),.dead]):=by
  by_cases h:km=[]
  ·exact⟨_,_,.inl ⟨h,rfl,rfl⟩⟩
  ·exact⟨_,_,.inr ⟨h,_,.refl _,rfl,rfl⟩⟩
 refine bB.intro (D:=h7) aAd ?_;unfold aeN
 (repeat' first|simp(disch:=first|exact ai|fail) only[go_sem]|(refine ao ?_ ?_<;>intro)|(refine iJ ⟨k,d⟩ ?_;(rintro r H' (⟨hk,rfl,rfl⟩|⟨hk,ks,ar,rfl,rfl⟩))))
 ·exact⟨_,rfl,.inl (by first|exact⟨hk,rfl,rfl⟩|exact⟨hk,rfl⟩|simp[hk])⟩
 ·exact⟨_,rfl,.inr (by first|exact⟨hk,ks,ar,rfl,rfl⟩|exact⟨hk,ks,ar,rfl⟩)⟩
def GY(X:List ak)(r:AV):Prop:=(X=[]/\r=.aS 1)\/r=.list (some 9) 1 (X.map AV.str)
variable {X:List ak}
theorem aIw(d:H[id]?=some (.cells [.map mid]))(e:H[mid]?=some (.map m (cI AV.bool km)))(f:km.length<=M)(bA:∀ks:List ak,ks.Perm (cd km)->(Sort.sort ng ks.toArray).toList=X) :
  bB ν aD 190 [.fn 210 [.ptr id 0]] H λr _=>GY X r:=by
 have o:M=1099511627776:=rfl;have t:=aIv d e f;have b:∃(r:AV)(a:List ay),(km=[]/\r=.aS 1/\a=H)\/(km≠[]/\∃ks:List ak,ks.Perm (cd km)/\r=.bI H.length 0 ks.length 1/\a=H++[.buf 9 (im ks),.dead]):=by
  by_cases h:km=[]
  ·exact⟨_,_,.inl ⟨h,rfl,rfl⟩⟩
  ·exact⟨_,_,.inr ⟨h,_,.refl _,rfl,rfl⟩⟩
 have jn:=λa=>aIb a;have g:∀ks:List ak,H++[.buf 9 (im ks),.dead]=xk 9 (H++[.dead,.dead]) H.length ks:=λks=>by simp[xk]
 have i:H.length<(H++[ay.dead,ay.dead]).length:=by simp
 have j:∀ks:List ak,ks.Perm (cd km)->bB ν aD 209 [.bI H.length 0 ks.length 1] (H++[.buf 9 (im ks),.dead]) λr a=>r=.bg []/\∃y,a=xk 9 ((H++[.dead,.dead])++y) H.length X:=λks ar=>by
  have:=aIc i (l:=ks) rfl (by have:=ar.length_eq;simp only[cd,aqt]at this;omega);rw[bA ks ar,<-g]at this;exact this
 have c:∀ks:List ak,ks.Perm (cd km)->X.length=ks.length:=λks ar=>by
  have:=(Sort.sort_sorts ng GQ ks.toArray).1.1;rw[<-bA ks ar];simpa using this
 have k:∀y,(xk 9 ((H++[.dead,.dead])++y) H.length X)[H.length]?=some (.buf 9 (im X)):=λy=>Sc (by rw[aqx];omega);refine bB.intro (D:=h7) az2 ?_;unfold aen
 (repeat' first|simp(disch:=first|exact ai|fail) only[go_sem,k]|(refine ao ?_ ?_<;>intro)|(refine iJ ⟨t,b⟩ ?_;(rintro r a (⟨hk,rfl,rfl⟩|⟨hk,ks,ar,rfl,rfl⟩)))|refine cA (jn _) ?_|(refine ajm (j ks ar) ?_;(intro p);(have q:=c ks ar);(have n:=ar.length_eq);(simp only[cd,aqt]at n)))
 ·refine⟨_,rfl,.inl ⟨?_,rfl⟩⟩;exact aLY.1 (c [] (by rw[hk];exact .refl _))
 ·exact⟨_,rfl,.inr rfl⟩
open Enc (enc)
theorem aIx(H:List ay)(mid:Nat):bB ν aD 160 [.map mid] H λr H'=>r=.fn 194 [.ptr H.length 0]/\H'=H++[.cells [.map mid]]:=by
 refine bB.intro (D:=h7) azH ?_;unfold adu;refine ag ?_;exact⟨_,rfl,d9⟩
theorem aIy{km:List bR}(f:H[id]?=some (.cells [.map mid]))(g:H[mid]?=some (.map m (iq km)))(i:km.length<=M) :
  bB ν aD 192 [.fn 194 [.ptr id 0]] H λr H'=>(km=[]/\r=.aS 3/\H'=H)\/(km≠[]/\∃ks:List bR,ks.Perm (sK km)/\r=.bI H.length 0 ks.length 3/\H'=H++[.buf 141 (fW ks),.dead]):=by
 have j:(iq km).map (·.1)=(sK km).map bR.enc:=by simp only[iq,sK,aLO];first|rfl|(rw[List.map_id];rfl)|simp[qQ,bR.enc,Function.comp_def]
 have t:=ajp (gl:=aD) ax1 (asP rfl) f g (λe he=>by simp only[iq,List.mem_map]at he;obtain⟨p,_,rfl⟩:=he;rfl) (λe he=>by simp only[iq,List.mem_map]at he;obtain⟨p,_,rfl⟩:=he;rfl) (by simp only[iq,aqt];exact i);have k:bB ν aD 211 [.aS 3,.fn 194 [.ptr id 0]] H λr H'=>(km=[]/\r=.aS 3/\H'=H)\/(km≠[]/\∃ks:List bR,ks.Perm (sK km)/\r=.bI H.length 0 ks.length 3/\H'=H++[.buf 141 (fW ks),.dead]):=by
  refine t.mono ?_;rintro r H' (⟨b,a,c⟩|⟨b,ks,a,c,l⟩)
  ·exact .inl ⟨by simpa[iq]using b,a,c⟩
  ·rw[j]at a;obtain⟨n,o,rfl⟩:=ajq a;exact .inr ⟨λe=>b (by rw[e];rfl),n,o,by rw[c,aqt],by rw[l,ajs]⟩
 have d:∃(r:AV)(H':List ay),(km=[]/\r=.aS 3/\H'=H)\/(km≠[]/\∃ks:List bR,ks.Perm (sK km)/\r=.bI H.length 0 ks.length 3/\H'=H++[.buf 141 (fW ks),.dead]):=by
  by_cases h:km=[]
  ·exact⟨_,_,.inl ⟨h,rfl,rfl⟩⟩
  ·exact⟨_,_,.inr ⟨h,_,.refl _,rfl,rfl⟩⟩
 refine bB.intro (D:=h7) az4 ?_;unfold aer
 (repeat' first|simp(disch:=first|exact ai|fail) only[go_sem]|(refine ao ?_ ?_<;>intro)|(refine iJ ⟨k,d⟩ ?_;(rintro r H' (⟨hk,rfl,rfl⟩|⟨hk,ks,ar,rfl,rfl⟩))))
 ·exact⟨_,rfl,.inl (by first|exact⟨hk,rfl,rfl⟩|exact⟨hk,rfl⟩|simp[hk])⟩
 ·exact⟨_,rfl,.inr (by first|exact⟨hk,ks,ar,rfl,rfl⟩|exact⟨hk,ks,ar,rfl⟩)⟩
def SA(X:List bR)(r:AV):Prop:=(X=[]/\r=.aS 3)\/r=.list (some 141) 3 (X.map bR.enc)
theorem aIz{km:List bR}(d:H[id]?=some (.cells [.map mid]))(e:H[mid]?=some (.map m (iq km)))(f:km.length<=M){X:List bR}(bA:∀ks:List bR,ks.Perm (sK km)->(Sort.sort p3 ks.toArray).toList=X) :
  bB ν aD 159 [.fn 194 [.ptr id 0],.fn 161 []] H λr _=>SA X r:=by
 have o:M=1099511627776:=rfl;have t:=aIy d e f;have b:∃(r:AV)(a:List ay),(km=[]/\r=.aS 3/\a=H)\/(km≠[]/\∃ks:List bR,ks.Perm (sK km)/\r=.bI H.length 0 ks.length 3/\a=H++[.buf 141 (fW ks),.dead]):=by
  by_cases h:km=[]
  ·exact⟨_,_,.inl ⟨h,rfl,rfl⟩⟩
  ·exact⟨_,_,.inr ⟨h,_,.refl _,rfl,rfl⟩⟩
 have jn:=λa=>aIs a;have g:∀ks:List bR,H++[.buf 141 (fW ks),.dead]=xl 141 (H++[.dead,.dead]) H.length ks:=λks=>by simp[xl]
 have i:H.length<(H++[ay.dead,ay.dead]).length:=by simp
 have j:∀ks:List bR,ks.Perm (sK km)->bB ν aD 193 [.bI H.length 0 ks.length 3,.fn 161 []] (H++[.buf 141 (fW ks),.dead]) λr a=>r=.bg []/\∃y,a=xl 141 ((H++[.dead,.dead])++y) H.length X:=λks ar=>by
  have:=aIt i (l:=ks) rfl (by have:=ar.length_eq;simp only[sK,aqt]at this;omega);rw[bA ks ar,<-g]at this;exact this
 have c:∀ks:List bR,ks.Perm (sK km)->X.length=ks.length:=λks ar=>by
  have:=(Sort.sort_sorts p3 A2 ks.toArray).1.1;rw[<-bA ks ar];simpa using this
 have k:∀y,(xl 141 ((H++[.dead,.dead])++y) H.length X)[H.length]?=some (.buf 141 (fW X)):=λy=>Sd (by rw[aqx];omega);refine bB.intro (D:=h7) azG ?_;unfold ads
 (repeat' first|simp(disch:=first|exact ai|fail) only[go_sem,k]|(refine ao ?_ ?_<;>intro)|(refine iJ ⟨t,b⟩ ?_;(rintro r a (⟨hk,rfl,rfl⟩|⟨hk,ks,ar,rfl,rfl⟩)))|refine cA (jn _) ?_|(refine ajm (j ks ar) ?_;(intro p);(have q:=c ks ar);(have n:=ar.length_eq);(simp only[sK,aqt]at n)))
 ·refine⟨_,rfl,.inl ⟨?_,rfl⟩⟩;exact aLY.1 (c [] (by rw[hk];exact .refl _))
 ·exact⟨_,rfl,.inr rfl⟩
open Enc (enc)
noncomputable def SB:List iZ:=[(110,eh λ(l:List aU)=>enc (il l)),
 (111,eh λ(l:List aU)=>enc (mv l)),
 (112,eh λ(x:bR)=>enc (if x.neg then(1:Int)else 0))]
noncomputable def qR:bj:=ij h7 (e1 SB)
instance aO6{D:bj}[h:bt D qR]:bt D h7:=h.ke
def SC:List Nat:=[110,111,112]++R8
theorem ajP:fq qR SC:=fq.or aje (kf SB)
variable {f:Nat}{F:List AV->Option AV}
theorem SD(h:∀xs,e1 SB f xs=F xs)(hk:R8.contains f=false:=by rfl):∀xs,qR f xs=F xs:=λxs=>by rw[<-h];exact kg aje hk
theorem aIA(h:H[mid]?=some (.map m (cI AV.bool km)))(b:km.length<=M)(bA:∀ks:List ak,ks.Perm (cd km)->(Sort.sort ng ks.toArray).toList=X) :
  bB ν aD 158 [.map mid] H λr _=>GY X r:=by
 have hm:mid<H.length:=(List.getElem?_eq_some_iff.1 h).1;have c:=aIu H mid;have d:=aIw (H:=H++[.cells [.map mid]]) (id:=H.length) (mid:=mid) be (by rw[dE hm];exact h) b bA;have a:∃(r:AV)(e:List ay),GY X r:=⟨_,[],.inr rfl⟩;refine bB.intro (D:=h7) azF ?_;unfold adq
 (repeat' first|simp(disch:=first|exact ai|fail) only[go_sem]|(refine ao ?_ ?_<;>intro)|refine cA c ?_|(refine iJ ⟨d,a⟩ ?_;(rintro r e (⟨hk,rfl⟩|rfl))))
 ·exact⟨_,rfl,.inl ⟨hk,rfl⟩⟩
 ·exact⟨_,rfl,.inr rfl⟩
variable {r:AV}
theorem ajQ(h:GY X r):bx r (enc X):=by
 rcases h with⟨rfl,rfl⟩|rfl
 ·exact(aT.aS (α:=ak)).kX
 ·exact bx.disown _ _ _
theorem ajR{X:List bR}(h:SA X r):bx r (enc X):=by
 rcases h with⟨rfl,rfl⟩|rfl
 ·exact(aT.aS (α:=bR)).kX
 ·exact bx.disown _ _ _
def k0(l:List aU):List ak:=l.flatMap λr=>r.head.name::r.body.map λx=>x.atom.name
variable {l:List aU}{i:Nat}
theorem SE(h:i<l.length):k0 (l.take (i+1))=k0 (l.take i)++(l[i]!.head.name::l[i]!.body.map λx=>x.atom.name):=by
 rw[bL h,k0,aPP];simp[k0]
theorem aIB(l:List aU)(ae:∀r∈l,r.body.length<=M)(J:(k0 l).length<=M)(K:l.length<=M):aA ν aD 110 [enc l] (enc (il l)):=by
 have L:M=1099511627776:=rfl;refine aA.gK (D:=qR) ay4 (by simp only[aqT,aqU,Enc.arg,avS]) (Enc.res _) (Enc.iI _) ?_;unfold abX;refine ag ?_;refine bQ (λp:Nat×Nat×List (ak×Bool)=>⟨N [(3,.v (.map 0)),(9,.v (enc l)),(10,.v (enc l.length)),(11,.v (enc p.1))],[.map p.2.1 (cI AV.bool p.2.2)]⟩)
  (λp=>p.1<=l.length/\(cd p.2.2).Nodup/\(∀x,x∈cd p.2.2↔x∈k0 (l.take p.1))/\p.2.2.length<=(k0 (l.take p.1)).length) (λp=>l.length-p.1) (0,0,[]) ⟨aqw _,List.nodup_nil,λx=>by simp[cd,k0],aqw _⟩ (by(try simp(disch:=first|exact ai|fail) only[go_sem])<;>(first|rfl|(simp(disch:=first|exact aX|fail) only[b7,aqV,avO,Env.ins,cp,cq,cr,ct,cu,cv,cw,cx,I.b0,aqt,avP,avQ,avR,aqH,bL,aqE,aqI,aqB,cy,cz,go_sem,cI];try rfl))) ?_
 rintro⟨i,n,km⟩ ⟨y,b,c,v⟩;simp only at y b c v;rcases aqv i l.length with h|h
 ·have z:=ae l[i]! (ek h);obtain⟨B,fN⟩:∃B,B=l[i]!.body:=⟨_,rfl⟩;obtain⟨hd,a⟩:∃hd,hd=l[i]!.head.name:=⟨_,rfl⟩;rw[<-fN]at z;refine gS (Eq.symm @fN) (Eq.symm @a) ?_;refine bQ (λp:Nat×Nat×List (ak×Bool)=>⟨N [(3,.v (.map 0)),(9,.v (enc l)),(10,.v (enc l.length)),(11,.v (enc i)),(20,.v (enc B)),(21,.v (enc B.length)),(22,.v (enc p.1))],[.map p.2.1 (cI AV.bool p.2.2)]⟩)
   (λp=>p.1<=B.length/\(cd p.2.2).Nodup/\(∀x,x∈cd p.2.2↔x∈k0 (l.take i)++(hd::(B.take p.1).map λx=>x.atom.name))/\p.2.2.length<=(k0 (l.take i)).length+1+p.1) (λp=>B.length-p.1) (0,lo n km hd,fV km hd true)
   ⟨aqw _,AE b _ _,λx=>by simp only[ahx,c,aqH,aqB,aLZ,List.mem_singleton];exact or_comm,by simp only[ahy];split<;>omega⟩ ew ?_
  rintro⟨j,d,g⟩ ⟨A,k,o,C⟩;simp only at A k o C;rcases aqv j B.length with w|w
  ·refine ag ?_;refine⟨(j+1,lo d g B[j]!.atom.name,fV g B[j]!.atom.name true),⟨ap,AE k _ _,λx=>?_,?_⟩,ap,co⟩
   ·simp only[ahx,o,bL w,aqE,aqI,aqB,aLZ,List.mem_cons,List.not_mem_nil,or_false];constructor
    ·rintro(h|h|h|h)<;>simp only[h,true_or,or_true]
    ·rintro(h|h|h|h)<;>simp only[h,true_or,or_true]
   ·simp only[ahy];split<;>omega
  ·obtain rfl:j=B.length:=by omega
   refine ag ?_;refine⟨(i+1,d,g),⟨ap,k,λx=>?_,?_⟩,ap,co⟩
   ·simp only[o,SE h,<-fN,<-a,avY]
   ·simp only[SE h,<-fN,aqx,avT,aqt];omega
 ·obtain rfl:i=l.length:=by omega
  rw[avY]at c v;have bA:∀ks:List ak,ks.Perm (cd (mm km eG))->(Sort.sort ng ks.toArray).toList=il l:=λks ar=>aH0 (ar.nodup_iff.2 (QX b _)) λx=>by
   rw[ar.mem_iff];have:=QY b eG x;have q:=getM_none (l:=mm km eG) (s:=x);have d:=getM_none (l:=km) (s:=x);have e:uc l=(k0 l).filter λs=>!(s==eG):=rfl;rw[e,List.mem_filter,<-c x];by_cases ah:x=eG
   ·rw[if_pos ah]at this;subst ah;simp[q.1 this]
   ·rw[if_neg ah]at this;rw[this]at q;have:x∈cd (mm km eG)↔x∈cd km:=by
     rw[<-Decidable.not_iff_not,<-q,d]
    simp[this,ah]
  have E:(mm km eG).length<=M:=Nat.le_trans (QW.length_le) am;have t:=aIA (H:=[.map n (cI AV.bool (mm km eG))]) (mid:=0) rfl E bA;have u:∃(r:AV)(G:List ay),GY (il l) r:=⟨_,[],.inr rfl⟩
  (repeat' first|simp(disch:=first|exact ai|fail) only[go_sem]|(refine ao ?_ ?_<;>intro)|(refine iJ ⟨t,u⟩ ?_;(rintro r G (⟨hk,rfl⟩|rfl))))
  ·exact⟨_,rfl,ajQ (.inl ⟨hk,rfl⟩)⟩
  ·exact⟨_,rfl,ajQ (.inr rfl)⟩
open Enc (enc)
variable {D:bj}{x1:AV}{K:AV->Prop}{tg:aN K}
theorem aIC[bt D qR][aT x1 l](a:∀r∈l,r.body.length<=M)(b:(k0 l).length<=M)(c:l.length<=M) :b1 ν aD D 110 [x1] K tg=K (enc (il l)):=ec (D':=qR) (F:=λ(l:List aU)=>enc (il l)) (SD λ_=>rfl) (aIB l a b c)
attribute [go_sem ↓ 2000] aIC
def y5(hd:ak)(B:List Lit):List bR:=(B.filter λx=>!(x.atom.name==eG)).map λx=>⟨hd,x.atom.name,x.neg⟩
theorem aID(h:i<l.length):lp (l.take (i+1))=lp (l.take i)++(if l[i]!.head.name==eG then[]else y5 l[i]!.head.name l[i]!.body):=by
 rw[bL h,lp,List.filter_append,aPP];obtain⟨R,de⟩:∃R,R=l[i]!:=⟨_,rfl⟩;rw[<-de];cases a:R.head.name==eG<;>simp only[lp,y5,List.filter_cons,List.filter_nil,a,Bool.not_true,aPQ,avX,if_true,if_false,List.flatMap_nil,List.flatMap_cons,ax6]
theorem aIE{hd:ak}{B:List Lit}{j:Nat}(h:j<B.length):y5 hd (B.take (j+1))=y5 hd (B.take j)++(if B[j]!.atom.name==eG then[]else[⟨hd,B[j]!.atom.name,B[j]!.neg⟩]):=by
 rw[bL h,y5,List.filter_append,aqE];obtain⟨R,de⟩:∃R,R=B[j]!:=⟨_,rfl⟩;rw[<-de];cases a:R.atom.name==eG<;>simp only[y5,List.filter_cons,List.filter_nil,a,Bool.not_true,aPQ,avX,if_true,if_false,aqB,aqI,ax6]
theorem aIF(l:List aU)(ae:∀r∈l,r.body.length<=M)(P:(k0 l).length<=M)(Q:l.length<=M):aA ν aD 111 [enc l] (enc (mv l)):=by
 have S:M=1099511627776:=rfl;refine aA.gK (D:=qR) ay5 (by simp only[aqT,aqU,Enc.arg,avS]) (Enc.res _) (Enc.iI _) ?_;unfold ab1;refine ag ?_;refine bQ (λp:Nat×Nat×List bR=>⟨N [(3,.v (.map 0)),(9,.v (enc l)),(10,.v (enc l.length)),(11,.v (enc p.1))],[.map p.2.1 (iq p.2.2)]⟩)
  (λp=>p.1<=l.length/\p.2.2.Nodup/\(∀x,x∈p.2.2↔x∈lp (l.take p.1))/\p.2.2.length<=(k0 (l.take p.1)).length) (λp=>l.length-p.1) (0,0,[]) ⟨aqw _,List.nodup_nil,λx=>by simp[lp],aqw _⟩ (by(try simp(disch:=first|exact ai|fail) only[go_sem])<;>(first|rfl|(simp(disch:=first|exact aX|fail) only[b7,aqV,avO,Env.ins,cp,cq,cr,ct,cu,cv,cw,cx,I.b0,aqt,avP,avQ,avR,aqH,bL,aqE,aqI,aqB,cy,cz,go_sem,iq];try rfl))) ?_
 rintro⟨i,n,km⟩ ⟨C,g,b,A⟩;simp only at C g b A;rcases aqv i l.length with h|h
 ·have E:=ae l[i]! (ek h);have c:=aID h;have s:=SE h;obtain⟨R,de⟩:∃R,R=l[i]!:=⟨_,rfl⟩;rw[<-de]at E c s;cases k:R.head.name==[100,105,115,116,105,110,99,116]with
  |true =>
   refine gS (Eq.symm @de) @k ?_;refine⟨(i+1,n,km),⟨ap,g,λx=>?_,?_⟩,ap,co⟩
   ·have:(R.head.name==eG)=true:=k;simp only[b,c,this,if_true,ax6]
   ·simp only[s,aqx];omega
  |false =>
   have u:(R.head.name==eG)=false:=k;rw[u]at c;simp only[avX,if_false]at c;refine gS (Eq.symm @de) @k ?_;refine bQ (λp:Nat×Nat×List bR=>⟨N [(3,.v (.map 0)),(5,.b [.str R.head.name,.list none 2 (R.head.args.map I.enc),.list none 3 (R.body.map Lit.enc)]),(9,.v (enc l)),(10,.v (enc l.length)),(11,.v (enc i)),(20,.v (enc R.body)),(21,.v (enc R.body.length)),(22,.v (enc p.1))],[.map p.2.1 (iq p.2.2)]⟩)
    (λp=>p.1<=R.body.length/\p.2.2.Nodup/\(∀x,x∈p.2.2↔x∈lp (l.take i)++y5 R.head.name (R.body.take p.1))/\p.2.2.length<=(k0 (l.take i)).length+p.1) (λp=>R.body.length-p.1) (0,n,km)
    ⟨aqw _,g,λx=>by simp only[b,aqH,y5,List.filter_nil,aqB,ax6],ap⟩ ew ?_
   rintro⟨j,v,d⟩ ⟨G,o,e,J⟩;simp only at G o e J;rcases aqv j R.body.length with B|B
   ·have a:=aIE (hd:=R.head.name) B;cases q:R.body[j]!.atom.name==[100,105,115,116,105,110,99,116]with
    |true =>
     have w:(R.body[j]!.atom.name != [100,105,115,116,105,110,99,116])=false:=by rw[bne,q];rfl
     have y:(R.body[j]!.atom.name==eG)=true:=q;rw[y]at a;simp only[if_true,ax6]at a;refine bU @w ?_;refine⟨(j+1,v,d),⟨ap,o,λx=>?_,?_⟩,ap,co⟩
     ·simp only[e,a]
     ·simp only;omega
    |false =>
     have w:(R.body[j]!.atom.name != [100,105,115,116,105,110,99,116])=true:=by rw[bne,q];rfl
     have y:(R.body[j]!.atom.name==eG)=false:=q;rw[y]at a;simp only[avX,if_false]at a;refine bU @w ?_;refine⟨(j+1,GU v d ⟨R.head.name,R.body[j]!.atom.name,R.body[j]!.neg⟩,uf d ⟨R.head.name,R.body[j]!.atom.name,R.body[j]!.neg⟩),⟨ap,aH6 o _,λx=>?_,?_⟩,ap,co⟩
     ·simp only[aH5,e,a,aLZ,List.mem_cons,List.not_mem_nil,or_false];constructor
      ·rintro(h|h|h)<;>simp only[h,true_or,or_true]
      ·rintro(h|h|h)<;>simp only[h,true_or,or_true]
     ·have:=aH7 d ⟨R.head.name,R.body[j]!.atom.name,R.body[j]!.neg⟩;simp only;omega
   ·obtain rfl:j=R.body.length:=by omega
    rw[avY]at e
    (repeat' first|refine ag ?_|(refine ao ?_ ?_<;>intro))
    refine⟨(i+1,v,d),⟨ap,o,λx=>?_,?_⟩,ap,co⟩
    ·simp only[e,c]
    ·simp only[s,aqx,avT,aqt];omega
 ·obtain rfl:i=l.length:=by omega
  rw[avY]at b A;have bA:∀ks:List bR,ks.Perm (sK km)->(Sort.sort p3 ks.toArray).toList=mv l:=λks ar=>aH1 (ar.nodup_iff.2 g) λx=>by
   rw[ar.mem_iff];exact b x
  have L:=aIx [.map n (iq km)] 0;have t:=aIz (H:=[.map n (iq km)]++[.cells [.map 0]]) (id:=1) (mid:=0) (m:=n) (km:=km) rfl rfl am bA;have z:∃(r:AV)(O:List ay),SA (mv l) r:=⟨_,[],.inr rfl⟩
  (repeat' first|simp(disch:=first|exact ai|fail) only[go_sem]|(refine ao ?_ ?_<;>intro)|refine cA L ?_|(refine iJ ⟨t,z⟩ ?_;(rintro r O (⟨hk,rfl⟩|rfl))))
  ·exact⟨_,rfl,ajR (.inl ⟨hk,rfl⟩)⟩
  ·exact⟨_,rfl,ajR (.inr rfl)⟩
theorem aIH[bt D qR][aT x1 l](a:∀r∈l,r.body.length<=M)(b:(k0 l).length<=M)(c:l.length<=M) :b1 ν aD D 111 [x1] K tg=K (enc (mv l)):=ec (D':=qR) (F:=λ(l:List aU)=>enc (mv l)) (SD λ_=>rfl) (aIF l a b c)
attribute [go_sem ↓ 2000] aIH
theorem aII(x:bR):aA ν aD 112 [enc x] (enc (if x.neg then(1:Int)else 0)):=by
 refine aA.intro (D:=qR) ay6 cX c7 ?_;unfold ab3;simp(disch:=first|exact ai|fail) only[go_sem];cases x.neg;all_goals (repeat' first|simp(disch:=first|exact ai|fail) only[go_sem]|(refine ao ?_ ?_<;>intro))
 all_goals rfl
theorem aIJ[bt D qR]{x:bR}[aT x1 x]  :b1 ν aD D 112 [x1] K tg=K (enc (if x.neg then(1:Int)else 0)):=ec (D':=qR) (F:=λ(x:bR)=>enc (if x.neg then(1:Int)else 0)) (SD λ_=>rfl) (aII x)
attribute [go_sem ↓ 2000] aIJ
open Enc (enc)
noncomputable def SI:List iZ:=[(66,eh λ(l:List aU)=>sL l),
 (67,hj λ(ls:List e2)(s:ak)=>enc (p1 (ls.map λx=>(x.name,x.level)) s))]
noncomputable def pe:bj:=ij qR (e1 SI)
instance aO7{D:bj}[h:bt D pe]:bt D qR:=h.ke
def SJ:List Nat:=[66,67]++SC
theorem aj7:fq pe SJ:=fq.or ajP (kf SI)
theorem aj8(h:∀xs,e1 SI f xs=F xs)(hk:SC.contains f=false:=by rfl):∀xs,pe f xs=F xs:=λxs=>by rw[<-h];exact kg ajP hk
theorem aIZ(d:l.length<=128)(a:∀r∈l,r.body.length<=8):(k0 l).length<=1152:=by
 have:=GK (f:=λr:aU=>r.head.name::r.body.map λx=>x.atom.name) (b:=9) l (λr c=>by have:=a r c;simp;omega);unfold k0;omega
theorem aI0(l:List aU):(mv l).length<=(lp l).length:=by
 have key:∀(m acc:List bR),(m.foldl (λacc x=>xg x acc) acc).length<=acc.length+m.length:=λm=>by
  induction m with
  |nil=>intro acc;simp|cons x r ih =>
   intro acc;have c:=ih (xg x acc);have b:∀a:List bR,(xg x a).length<=a.length+1:=λa=>by
    induction a with
    |nil=>simp[xg]|cons y q d=>rw[xg];split<;>(try split)<;>simp only[avT]<;>omega
   have:=b acc;simp only[List.foldl_cons,avT];omega
 simpa[mv]using key (lp l) []
theorem aI1(l:List aU):(lp l).length<=(k0 l).length:=by
 induction l with
 |nil=>simp[lp]|cons r q ih =>
  have a:(k0 (r::q)).length=1+r.body.length+(k0 q).length:=by simp[k0];omega
  have b:(lp (r::q)).length<=r.body.length+(lp q).length:=by
   simp only[lp,List.filter_cons];split
   ·simp only[List.flatMap_cons,aqx,aqt];have:=List.length_filter_le (λx:Lit=>!(x.atom.name==eG)) r.body;omega
   ·omega
  omega
theorem aj9(l:List aU)(Y:l.length<=128)(C:∀r∈l,r.body.length<=8):aA ν aD 66 [enc l] (sL l):=by
 have cP:M=1099511627776:=rfl;have ae:∀r∈l,r.body.length<=M:=λr Z=>by have:=C r Z;omega
 have mO:(k0 l).length<=M:=by have:=aIZ Y C;omega
 obtain⟨R,de⟩:=aIN l;have E:AZ l=R.map λa=>(il l).map λs=>(s,mw a s):=by unfold AZ;rw[de];rfl
 have G:=RY C;have iH:(mv l).length<=M:=Nat.le_trans (aI0 l) (by have:=aI1 l;omega);obtain⟨c,J⟩:∃c,c=il l:=⟨_,rfl⟩;obtain⟨b,w⟩:∃b,b=mv l:=⟨_,rfl⟩;obtain⟨n,aI⟩:∃n,n=c.length:=⟨_,rfl⟩;rw[<-J,<-aI]at de;rw[<-J]at G E;rw[<-w]at de iH;refine aA.gK (D:=pe) ayF (by simp only[aqT,aqU,Enc.arg,avS]) (by unfold sL;split<;>rfl) (by unfold sL;split<;>exact λ_ _ _ h=>d7) ?_;unfold aar;refine gS (Eq.symm @J) (Eq.symm @w) ?_;refine bQ (λp:Bool×Nat×Nat×List (ak×Int)=>⟨N [(4,.v (enc c)),(5,.v (enc b)),(6,.v (.map 0)),(7,.v (.bool p.1))],[.map p.2.2.1 (cI (AV.int .i64) p.2.2.2)]⟩)
  (λp=>xp n p.2.2.2/\(p.1=true->ud n b p.2.1 p.2.2.2=some R)/\(p.1=false->R=some p.2.2.2)) (λp=>if p.1 then p.2.1+1 else 0) (true,n*n+2,0,[]) ⟨ajY _,λ_=>de,λh=>d7⟩ (by(try simp(disch:=first|exact ai|fail) only[go_sem])<;>(first|rfl|(simp(disch:=first|exact aX|fail) only[b7,aqV,avO,Env.ins,cp,cq,cr,ct,cu,cv,cw,cx,I.b0,aqt,avP,avQ,avR,aqH,bL,aqE,aqI,aqB,cy,cz,go_sem,cI];try rfl))) ?_
 rintro⟨ch,f,v,a⟩ ⟨T,o,z⟩;simp only at T o z;cases ch with
 |true =>
  replace o:=o rfl
  cases f with
  |zero=>cases o|succ f =>
  rw[ud]at o;have key:∀(x:Bool)(A:List (ak×Int)),p0 n b a false=some (A,x)->(x=true->ud n b f A=some R)/\(x=false->R=some A):=λx A h=>by
   rw[h]at o;cases x with
   |true=>exact⟨λ_=>o,λh=>d7⟩|false=>exact⟨λh=>d7,λ_=>(Option.some.inj o).symm⟩
  have L:p0 n b a false=none->R=none:=λh=>by
   rw[h]at o;exact(Option.some.inj o).symm
  clear o;refine ag ?_;refine bQ (λp:Nat×Nat×List (ak×Int)×Bool=>⟨N [(4,.v (enc c)),(5,.v (enc b)),(6,.v (.map 0)),(7,.v (.bool p.2.2.2)),(20,.v (enc b)),(21,.v (enc b.length)),(22,.v (enc p.1))],[.map p.2.1 (cI (AV.int .i64) p.2.2.1)]⟩)
   (λp=>p.1<=b.length/\p0 n (b.drop p.1) p.2.2.1 p.2.2.2=p0 n b a false/\xp n p.2.2.1) (λp=>b.length-p.1) (0,v,a,false) ⟨aqw _,rfl,T⟩ ew ?_
  rintro⟨j,O,q,P⟩ ⟨ei,g,t⟩;simp only at ei g t;rcases aqv j b.length with B|B
  ·rw[fi B]at g;obtain⟨e,he⟩:∃e,e=b[j]!:=⟨_,rfl⟩;rw[<-he]at g;obtain⟨d,hd⟩:∃d,d=(if e.neg=true then(1:Int)else 0):=⟨_,rfl⟩;have y:=ajV t e;obtain⟨u,Q⟩:∃u,u=AY q e:=⟨_,rfl⟩;have S:mw q e.dst+d=u:=by rw[Q,hd];rfl
   rw[<-Q]at y;rw[p0,<-Q]at g;have j2:=t e.src;have rl:=t e.dst;by_cases V:mw q e.src<u
   ·rw[if_pos V]at g;by_cases W:u>=(n:Int)
    ·rw[if_pos W]at g;have G:R=none:=L g.symm;refine mb (Eq.symm @he) (Eq.symm @hd) @S @Le ?_;refine⟨_,rfl,?_⟩;rw[sL,E,G];exact bx.bg (.cons (bx.aS _) (.cons (bx.refl _) .nil))
    ·rw[if_neg W]at g;refine mb (Eq.symm @he) (Eq.symm @hd) @S @Le ?_;exact⟨(j+1,lo O q e.src,fV q e.src u,true),⟨ap,g,ajW t y.1 am⟩,ap,co⟩
   ·rw[if_neg V]at g;refine mb (Eq.symm @he) (Eq.symm @hd) @S @Le ?_;exact⟨(j+1,O,q,P),⟨ap,g,t⟩,ap,co⟩
  ·obtain rfl:j=b.length:=by omega
   rw[aL0 (Nat.le_refl _),p0]at g;obtain⟨cF,cO⟩:=key P q g.symm;refine ag ?_;exact⟨(P,f,O,q),⟨t,cF,cO⟩,by simp only;split<;>simp,co⟩
 |false =>
  replace z:=z rfl
  refine ag ?_;refine bQ (λk:Nat=>⟨N [(6,.v (.map 0)),(11,.v (.list (some 104) 2 ((c.take k).map λs=>(e2.mk s (mw a s)).enc))),(48,.v (enc c)),(49,.v (enc c.length)),(50,.v (enc k))],[.map v (cI (AV.int .i64) a)]⟩)
   (λk=>k<=c.length) (λk=>c.length-k) 0 (aqw _) ew ?_
  intro k hk;rcases aqv k c.length with B|B
  ·have tV:(c.take k).length=k:=by rw[List.length_take];omega
   refine iv @Le @aqt.{0,0} @tV ?_;exact⟨k+1,am,am,by(first|rfl|(simp(disch:=first|exact aX|fail) only[b7,aqV,avO,Env.ins,cp,cq,cr,ct,cu,cv,cw,cx,I.b0,aqt,avP,avQ,avR,aqH,bL,aqE,aqI,aqB,cy,cz,go_sem,e2.enc];try rfl))⟩
  ·obtain rfl:k=c.length:=by omega
   rw[avY];refine ag ?_;refine⟨_,rfl,?_⟩;rw[sL,E,z];simp only[aL1,aLO];exact bx.bg (.cons kO (.cons (bx.refl _) .nil))
open Enc (enc)
theorem aI3[bt D pe][aT x1 l](a:l.length<=128)(b:∀r∈l,r.body.length<=8) :b1 ν aD D 66 [x1] K tg=K (sL l):=ec (D':=pe) (F:=λ(l:List aU)=>sL l) (aj8 λ_=>rfl) (aj9 l a b)
attribute [go_sem ↓ 2000] aI3
theorem aI4(x:e2)(s:ak):bB ν aD 114 [enc x,.cL [.str s]] H λr H'=>r=.bool (x.name==s)/\H'=H:=by
 refine bB.intro (D:=pe) ay8 ?_;unfold ab8;refine ag ?_;exact⟨_,rfl,d9⟩
theorem aI5(s:ak)(l:List e2)(b:l.length<=M) :
  bB ν aD 113 [enc l,.fn 114 [.cL [.str s]]] H λr H'=>r=.int .i64 (lN (λx:e2=>x.name==s) l)/\H'=H:=by
 have c:M=1099511627776:=rfl;refine bB.intro (D:=pe) ay7 ?_;unfold ab6;refine ag ?_;refine bQ (λi:Nat=>⟨N [(0,.v (enc l)),(1,.v (.fn 114 [.cL [.str s]])),(7,.v (enc l.length)),(8,.v (enc i))],H⟩) (λi=>i<=l.length/\j7 (λx:e2=>x.name==s) (l.drop i) i=lN (λx:e2=>x.name==s) l) (λi=>l.length-i) 0 ⟨aqw _,rfl⟩ ew ?_;rintro i ⟨d,a⟩;rcases aqv i l.length with al|al
 ·have hd:=aI4 (H:=H) l[i]! s;rw[fi al,j7]at a;cases ar:l[i]!.name==s with
  |true =>
   rw[ar]at hd a
   (repeat' first|simp(disch:=first|exact ai|fail) only[go_sem,jL]|(refine ao ?_ ?_<;>intro)|refine cA hd ?_)
   exact⟨_,rfl,by rw[<-a];rfl⟩
  |false =>
   rw[ar]at hd a
   (repeat' first|simp(disch:=first|exact ai|fail) only[go_sem,jL]|(refine ao ?_ ?_<;>intro)|refine cA hd ?_)
   exact⟨i+1,⟨am,a⟩,am,co⟩
 ·rw[aL0 am,j7]at a;refine ag ?_;exact⟨_,rfl,by rw[<-a]⟩
theorem aI6(ls:List e2)(s:ak)(c:ls.length<=M):aA ν aD 67 [enc ls,enc s] (enc (p1 (ls.map λx=>(x.name,x.level)) s)):=by
 have g:M=1099511627776:=rfl;have t:=aI5 (H:=[]) s ls c;have hk:=aj0 s ls 0;rcases hk with⟨b,a⟩|⟨k,b,a,d⟩
 ·have e:lN (λx:e2=>x.name==s) ls = -1:=b;rw[a];rw[e]at t;refine aA.intro (D:=pe) afd cX c7 ?_;unfold Pl;simp(disch:=first|exact ai|fail) only[go_sem]
  (repeat' first|simp(disch:=first|exact ai|fail) only[go_sem]|(refine ao ?_ ?_<;>intro)|refine cA t ?_)
  all_goals rfl
 ·have e:lN (λx:e2=>x.name==s) ls=(k:Int):=by rw[lN,a];congr 1;omega
  rw[d];rw[e]at t;refine aA.intro (D:=pe) afd cX c7 ?_;unfold Pl;simp(disch:=first|exact ai|fail) only[go_sem]
  (repeat' first|simp(disch:=first|exact ai|fail) only[go_sem]|(refine ao ?_ ?_<;>intro)|refine cA t ?_)
  all_goals rfl
variable {x2:AV}
theorem aI7[bt D pe]{ls:List e2}{s:ak}[aT x1 ls][aT x2 s](h:ls.length<=M) :b1 ν aD D 67 [x1,x2] K tg=K (enc (p1 (ls.map λx=>(x.name,x.level)) s)):=ik (D':=pe) (F:=λ(ls:List e2)(s:ak)=>enc (p1 (ls.map λx=>(x.name,x.level)) s)) (aj8 λ_=>rfl) (aI6 ls s h)
attribute [go_sem ↓ 2000] aI7
theorem akc(l:List aU)(Q:l.length<=128)(s:∀r∈l,r.body.length<=8):aA ν aD 25 [enc l] (rP l):=by
 have cP:M=1099511627776:=rfl;have aO8:=aj9 l Q s;cases cf:AZ l with
 |none =>
  have e:sL l=.bg [.list none 2 [],.int .i64 10]:=by unfold sL;rw[cf]
  have u:rP l=.bg [.list none 1 [],.int .i64 10]:=by unfold rP oC;rw[cf];rfl
  rw[u];refine aA.gK (D:=pe) ae5 (by simp only[aqT,aqU,Enc.arg,avS]) rfl (λ_ _ _ h=>d7) ?_;unfold Pa;refine bU @e ?_;exact⟨_,rfl,bx.bg (.cons (bx.aS _) (.cons (bx.refl _) .nil))⟩
 |some lev =>
  obtain⟨jP,v⟩:∃jP:List e2,jP=lev.map λp=>e2.mk p.1 p.2:=⟨_,rfl⟩;have e:sL l=.bg [.list none 2 (jP.map e2.enc),.int .i64 0]:=by unfold sL;rw[cf,v,aLO];rfl
  have g:(jP.map λx=>(x.name,x.level))=lev:=by rw[v,aLO];simp[Function.comp_def]
  obtain⟨S,ds⟩:∃S,S=(xh lev+1).toNat:=⟨_,rfl⟩;obtain⟨lv,R⟩:∃lv:Nat->Int,lv=λi=>p1 lev l[i]!.head.name:=⟨_,rfl⟩;have u:rP l=.bg [.list none 1 ((List.range S).map λn=>ue (nP lv l.length n)),.int .i64 0]:=by unfold rP oC;rw[cf,ds,R];simp only[aLO];rfl
  rw[u];refine aA.gK (D:=pe) ae5 (by simp only[aqT,aqU,Enc.arg,avS]) rfl (λ_ _ _ h=>d7) ?_;unfold Pa;refine bU @e ?_;have GI:=(SH lev (-1)).1;have z:xh lev+1=(S:Int):=by have : -1<=xh lev:=GI;omega
  have aO9:S<=100000:=by
   have:=ai4 Q s;unfold oC at this;rw[cf]at this;simp only[aqt,List.length_range]at this;omega
  obtain⟨a,A⟩:∃a:Nat->Int,a=λi=>(jP.take i).foldl (λm x=>max m x.level) (-1):=⟨_,rfl⟩;have k8:a 0 = -1:=by rw[A];rfl
  have jf:∀i,i<jP.length->max (a i) jP[i]!.level=a (i+1):=λi al=>by
   rw[A];simp only[bL al,List.foldl_append,List.foldl_cons,List.foldl_nil]
  have D6:a jP.length=xh lev:=by
   rw[A,<-g];simp only[avY,xh,List.foldl_map]
  have rL:jP.length<=M:=by
   have ah:=cf;unfold AZ at ah;rw[Option.map_eq_some_iff]at ah;obtain⟨x,_,ah⟩:=ah;have:=RY s;rw[v,<-ah,aqt,aqt];omega
  refine bQ (λi:Nat=>⟨N [(0,.v (enc l)),(4,.v (enc jP)),(6,.v (.int .i64 (a i))),(21,.v (enc jP)),(22,.v (enc jP.length)),(23,.v (enc i))],[]⟩) (λi=>i<=jP.length) (λi=>jP.length-i) 0 (aqw _) (rm @k8) ?_;intro i al;rcases aqv i jP.length with h|h
  ·have Kd:=jf i h;refine bU @Kd ?_;exact⟨i+1,am,am,co⟩
  obtain rfl:i=jP.length:=by omega
  have j1:(List.replicate S [AV.aS 1]).flatten=k1 3 lv S 0:=by rw[aj6,aIQ]
  refine iv @D6 @z @j1 ?_;refine bQ (λk:Nat=>⟨N [(4,.v (enc jP)),(9,.v (.bI 0 0 S 1)),(35,.v (enc l)),(36,.v (enc l.length)),(37,.v (enc k))],[.buf 55 (k1 3 lv S k),.dead]⟩) (λk=>k<=l.length) (λk=>l.length-k) 0 (aqw _) ew ?_;intro k hk;rcases aqv k l.length with a8|a8
  ·have j:p1 lev l[k]!.head.name=lv k:=by rw[R]
   have B:=aIX lev l[k]!.head.name;rw[j]at B;rcases Int.lt_or_le (lv k) 0 with T|T
   ·refine gS @g @j ?_;exact⟨k+1,am,am,by(first|rfl|(simp(disch:=first|exact aX|fail) only[b7,aqV,avO,Env.ins,cp,cq,cr,ct,cu,cv,cw,cx,I.b0,aqt,avP,avQ,avR,aqH,bL,aqE,aqI,aqB,cy,cz,go_sem,aIO T];try rfl))⟩
   ·obtain⟨w,C⟩:∃w:Nat,lv k=(w:Int):=⟨(lv k).toNat,am⟩;have b:w<S:=by omega
    have fc:=aIY lv k w;obtain⟨V,hM⟩:∃c,c=vm 3 (nP lv k w):=⟨_,rfl⟩;have G:=aIW 3 (nP lv k w);have J:=SG (e:=3) (lv:=lv) (k:=k) b;have o:=aIP (e:=3) (lv:=lv) (k:=k) C b;rw[<-hM]at G J;obtain⟨L,W⟩:∃L,L=(nP lv k w).map qO:=⟨_,rfl⟩;have xT:L.length<=128:=by rw[W,aqt];omega
    rw[<-W]at G o;have d:(k1 3 lv S k).length=S:=G0 _ _ _ _;obtain⟨cs,iT⟩:∃cs,cs=k1 3 lv S k:=⟨_,rfl⟩;rw[<-iT]at J d o ⊢;have q:=aIT (e:=55) J;have Y:∀(E:Env)(H:List ay)(x:AV),tP E H 0 w [x] (some (.buf 55 cs))=some ⟨E,H.set 0 (.buf 55 (cs.set w x))⟩:=λE H x=>aj3 am;have Z:∀(E:Env)(H:List ay)(x y:AV),tP E H 0 w [x] (some (.buf 55 (cs.set w y)))=some ⟨E,H.set 0 (.buf 55 (cs.set w x))⟩:=λE H x y=>by rw[aj3 (by rw[List.length_set];omega),List.set_set]
    rcases G with⟨O,iV⟩|O
    ·rw[O]at q;refine Is @g @j @C @q @Y @Z @List.set_cons_zero.{0} @aPR.{0} ?_;exact⟨k+1,am,am,by(first|rfl|(simp(disch:=first|exact aX|fail) only[b7,aqV,avO,Env.ins,cp,cq,cr,ct,cu,cv,cw,cx,I.b0,aqt,avP,avQ,avR,aqH,bL,aqE,aqI,aqB,cy,cz,go_sem,o,iV,qO];try rfl))⟩
    ·rw[O]at q;refine Is @g @j @C @q @Y @Z @List.set_cons_zero.{0} @aPR.{0} ?_;exact⟨k+1,am,am,by(first|rfl|(simp(disch:=first|exact aX|fail) only[b7,aqV,avO,Env.ins,cp,cq,cr,ct,cu,cv,cw,cx,I.b0,aqt,avP,avQ,avR,aqH,bL,aqE,aqI,aqB,cy,cz,go_sem,o,qO];try rfl))⟩
  obtain rfl:k=l.length:=by omega
  have Gx:∀(P:Env)(H:List ay)(t id:Nat),pU P H t 55 1 id S 1 (some (.buf 55 (k1 3 lv S l.length)))=some ⟨N ((t,.v (.list (some 55) 1 ((k1 3 lv S l.length).map AV.a1)))::P),H.set id .dead⟩:=λP H t id=>aIU ⟨G0 _ _ _ _,am⟩ (aIV _ _ _ _);refine gS @Gx @aPR.{0} ?_;exact⟨_,rfl,bx.bg (.cons (aIS _ _ _ _ _) (.cons (bx.refl _) .nil))⟩
open Enc (enc)
theorem Lg(l:List aU)(b:List I)(hd:∀r∈l,∀a∈dx r,cc a<=1000000)(ds:(iz l b).isSome=true):aA ν aD 8 [enc l,enc b] (j8 (iz l b)) :=
 aHr l b (λr c=>Sb r (hd r c)) (λh=>akc l (xi h).1 λr c=>((xi h).2 r c).b) ds
def hI(l:List I):List I:=l.foldl kJ []
theorem ake(l:List I)(a:I):hI (l++[a])=kJ (hI l) a:=by rw[hI,List.foldl_append];rfl
theorem SQ:∀l:List I,(hI l).length<=l.length:=λl=>by
 have key:∀(l acc:List I),(l.foldl kJ acc).length<=acc.length+l.length:=λl=>by
  induction l with
  |nil=>intro acc;simp|cons a r ih=>intro acc;have:=ih (kJ acc a);have:=aiZ acc a;simp only[List.foldl_cons,avT];omega
 simpa[hI]using key l []
def sM(ft dm x k b:Nat)(acc:List I)(H:List ay):Prop:=H[ft]?=some (.cells [.bool (acc.any λa=>decide (4<cc a))])/\H[dm]?=some (.cells [.ptr x 0])/\gV 31 H x k b (hI acc)
def mU(ft dm x k b:Nat)(i:Nat):Prop:=i=ft\/i=dm\/i=x\/i=k\/i=b
variable {ft dm x k b:Nat}{acc:List I}
theorem sM.ne(h:sM ft dm x k b acc H):ft<H.length/\ft≠dm/\ft≠x/\ft≠k/\ft≠b/\dm≠x/\dm≠k/\dm≠b:=by
 obtain⟨a,c,n,m,km,bu,d,dP⟩:=h;have ah:=d.ah;have hk:=d.hk;have ae:=d.ae
 refine⟨dq a,λe=>?_,λe=>?_,λe=>?_,λe=>?_,λe=>?_,λe=>?_,λe=>?_⟩
 ·rw[e,c]at a;cases a
 ·rw[e,ah]at a;cases a
 ·rw[e,hk]at a;cases a
 ·rw[e,ae]at a;cases a
 ·rw[e,ah]at c;cases c
 ·rw[e,hk]at c;cases c
 ·rw[e,ae]at c;cases c
variable {n:Nat}{bu:List (ak×List I)}
theorem sM.set(h:sM ft dm x k b acc H)(v:Bool){km:List (ak×I)}(a:vd 31 H x k b n m km bu):vd 31 (H.set ft (.cells [.bool v])) x k b n m km bu:=by
 obtain⟨g,j,c,d,e,_⟩:=h.ne;exact⟨by rw[cj c];exact a.ah,by rw[cj d];exact a.hk,by rw[cj e];exact a.ae,a.cG⟩
theorem sM.put(h:sM ft dm x k b acc H)(a:I){km:List (ak×I)}(g:vd 31 H x k b n m km bu)(dP:jN km bu (hI acc)) :
  sM ft dm x k b (acc++[a]) (rK 31 (H.set ft (.cells [.bool ((acc++[a]).any λa=>decide (4<cc a))])) k b n m km bu (hI acc) a)/\mq (mU ft dm x k b) H (rK 31 (H.set ft (.cells [.bool ((acc++[a]).any λa=>decide (4<cc a))])) k b n m km bu (hI acc) a):=by
 have j:=h;obtain⟨o,p,z,q,s,A,t,u⟩:=h.ne;obtain⟨B,v,_⟩:=h;obtain⟨w,y,c⟩:=gV.add (j.set ((acc++[a]).any λa=>decide (4<cc a)) g) dP a;refine⟨⟨?_,?_,by rw[ake];exact w⟩,?_,λi al d=>?_⟩
 ·rw[c ft q s,dV o]
 ·rw[c dm t u,cj p];exact v
 ·rw[y];simp
 ·rw[c i (λe=>d (.inr (.inr (.inr (.inl e))))) (λe=>d (.inr (.inr (.inr (.inr e))))),cj (λe=>d (.inl e.symm))]
variable {a:I}
theorem aI9(g:sM ft dm x k b acc H)(j:cD 8 a true=true)(w:acc.length+1<=M) :
  bB ν aD 42 [a.enc,.ptr ft 0,.ptr dm 0] H λr H'=>r=.bg []/\sM ft dm x k b (acc++[a]) H'/\mq (mU ft dm x k b) H H':=by
 have y:M=1099511627776:=rfl;have o:=g;obtain⟨z,A,B,C,E,G,J,L⟩:=g.ne;obtain⟨e,p,n,m,km,bu,q,dP⟩:=g;have t:=Dh j (Nat.le_refl _);have O:=GH j;have P:=SQ acc;have s:=λv=>Kv (o.set v q) dP a t am;obtain⟨c,d⟩:=o.put a q dP;have h:((acc++[a]).any λa=>decide (4<cc a))=((acc.any λa=>decide (4<cc a))||decide ((cc a:Int)>4)):=by
  have u:decide ((cc a:Int)>4)=decide (4<cc a):=by rw[aPw];simp;omega
  rw[List.any_append,List.any_cons,List.any_nil,Bool.or_false,u]
 rw[h]at c d;refine bB.intro (D:=jS) ayq ?_;unfold Zx;cases hd:acc.any λa=>decide (4<cc a)with
 |true =>
  rw[hd]at e c d
  (repeat' first|simp(disch:=first|exact ai|fail) only[go_sem,p,e]|(refine ao ?_ ?_<;>intro)|refine cA (s _) ?_)
  exact⟨_,rfl,rfl,c,d⟩
 |false =>
  rw[hd]at e c d;rw[Bool.false_or]at c d
  (repeat' first|simp(disch:=first|exact ai|fail) only[go_sem,p,e]|(refine ao ?_ ?_<;>intro)|refine cA (s _) ?_)
  exact⟨_,rfl,rfl,c,d⟩
theorem aJb(ft dm x k b kK:Nat)(j:kK<=M):AR 42 [.ptr ft 0,.ptr dm 0] (mU ft dm x k b) (sM ft dm x k b) (λa=>cD 8 a true=true) kK:=by
 refine⟨λacc H a t c o=>⟨aI9 c o am,by have p:=c;obtain⟨_,_,n,m,km,bu,d,dP⟩:=c;exact⟨_,_,rfl,p.put a d dP⟩⟩,λacc H u c h=>?_,rfl,λacc H i c q=>?_⟩
 ·obtain⟨e,g,s⟩:=c;exact⟨by rw[h ft (.inl rfl)];exact e,by rw[h dm (.inr (.inl rfl))];exact g,s.of (h x (.inr (.inr (.inl rfl)))) (h k (.inr (.inr (.inr (.inl rfl))))) (h b (.inr (.inr (.inr (.inr rfl)))))⟩
 ·obtain⟨e,g,n,m,km,bu,d,dP⟩:=c;rcases q with rfl|rfl|rfl|rfl|rfl
  ·exact dq e
  ·exact dq g
  ·exact dq d.ah
  ·exact dq d.hk
  ·exact dq d.ae
theorem akf(l:List I):∀a∈hI l,a∈l:=by
 have key:∀(l acc:List I),∀a∈l.foldl kJ acc,a∈acc\/a∈l:=λl=>by
  induction l with
  |nil=>intro acc a h;exact .inl h|cons x r ih =>
   intro acc a h;rcases ih _ a h with h|h
   ·unfold kJ at h;split at h
    ·exact .inl h
    ·rcases aLZ.1 h with h|h
     ·exact .inl h
     ·rw[List.mem_singleton]at h;exact .inr (by rw[h];exact List.mem_cons_self ..)
   ·exact .inr (List.mem_cons_of_mem _ h)
 intro a h;rcases key l [] a h with h|h
 ·cases h
 ·exact h
def ug(a:I):Bool:=cD 4 a true&&dM a.name
def kM(a:I):Bool:=ug a&&cD 4 a false
def pf(l:List aU)(atoms:List I):List I×Nat :=
 if hG l≠0 then([],hG l)else if 512<atoms.length then([],13)else if !(atoms.all kM)then([],13)
 else if jR (eB l (hI atoms))then([],3)else if 512<(hI (eB l (hI atoms))).length then([],11)else(fx (hI (eB l (hI atoms))),0)
noncomputable def SR:List iZ:=[(39,eh λ(a:I)=>enc (ug a)),
 (11,hj λ(l:List aU)(a:List I)=>j8 (some (pf l a)))]
noncomputable def sN:bj:=ij pe (e1 SR)
instance aPb{D:bj}[h:bt D sN]:bt D pe:=h.ke
def SS:List Nat:=[39,11]++SJ
theorem akg:fq sN SS:=fq.or aj7 (kf SR)
theorem akh(h:∀xs,e1 SR f xs=F xs)(hk:SJ.contains f=false:=by rfl):∀xs,sN f xs=F xs:=λxs=>by rw[<-h];exact kg aj7 hk
theorem aki[bt D sN]{a:List I}[aT x1 l][aT x2 a](h:aA ν aD 11 [enc l,enc a] (j8 (some (pf l a)))):b1 ν aD D 11 [x1,x2] K tg=K (j8 (some (pf l a))):=ik (D':=sN) (F:=λ(l:List aU)(a:List I)=>j8 (some (pf l a))) (akh λ_=>rfl) h
theorem aJc(a:I):aA ν aD 39 [enc a] (enc (ug a)):=by
 unfold ug;refine aA.intro (D:=sN) ayn cX c7 ?_;unfold Zr;simp(disch:=first|exact ai|fail) only[go_sem];cases c:cD 4 a true<;>cases d:dM a.name;all_goals (repeat' first|simp(disch:=first|exact ai|fail) only[go_sem,c,d]|(refine ao ?_ ?_<;>intro))
 all_goals rfl
theorem aJd[bt D sN][aT x1 a]  :b1 ν aD D 39 [x1] K tg=K (enc (ug a)):=ec (D':=sN) (F:=λ(a:I)=>enc (ug a)) (akh λ_=>rfl) (aJc a)
attribute [go_sem ↓ 2000] aJd
theorem akj(l:List aU)(c:List I)(hd:∀r∈l,∀a∈dx r,cc a<=1000000)(E:hG l=0->c.all kM=true->(eB l (hI c)).length<=1000000):aA ν aD 11 [enc l,enc c] (j8 (some (pf l c))):=by
 refine aA.sy λed dX=>?_;obtain⟨ed,_⟩:=ed;obtain⟨dX,_⟩:=dX;have cP:M=1099511627776:=rfl;have oe:=ai8 l (λr aw=>Sb r (hd r aw));have G:=λ{K:AV->Prop}{tg:aN K}=>ai7 (D:=sN) (K:=K) (tg:=tg) (x1:=enc l) oe;have GN:(enc l:AV)=.list none 3 (l.map aU.enc):=rfl;rw[GN]at G;obtain⟨xr,d⟩:∃xr,xr=pf l c:=⟨_,rfl⟩;rw[<-d];refine aA.gK (D:=sN) ax5 (by simp only[aqT,aqU,Enc.arg,avS]) (by rfl) (λ_ _ _ h=>d7) ?_;unfold Yp;unfold pf at d;rcases aPS (hG l)with R|R
 ·rw[if_neg am]at d;have V:((hG l:Nat):Int)=0:=by omega
  obtain⟨K7,vj⟩:=xi R;rcases aqv 512 c.length with ab|ab
  ·rw[if_pos ab]at d;refine gS @G @V ?_;rw[d];exact⟨_,rfl,pd 13⟩
  ·rw[if_neg am]at d
   (repeat' first|simp(disch:=first|exact ai|fail) only[go_sem,G,V]|(refine ao ?_ ?_<;>intro)|refine cA (Rm []) ?_)
   refine bQ (λq:Nat×List ay=>⟨N [(0,.v (enc l)),(7,.b [.ptr 2 0]),(24,.v (enc c)),(25,.v (enc c.length)),(26,.v (enc q.1))],q.2⟩)
    (λq=>q.1<=c.length/\gV 31 q.2 2 0 1 (hI (c.take q.1))/\(∀a∈c.take q.1,kM a=true)) (λq=>c.length-q.1) (0,[ay.map 0 [],ay.map 0 [],ay.cells [AV.map 0,AV.map 1]])
    ⟨aqw _,⟨0,0,[],[],⟨rfl,rfl,rfl,dw⟩,jN.nil⟩,λa h=>f8⟩ ew ?_
   rintro⟨i,H⟩ ⟨i1,s,y⟩;simp only at i1 s y;rcases aqv i c.length with al|al
   ·cases z:kM c[i]! with
    |true =>
     have G1:=z;simp only[kM,aPT]at G1;obtain⟨A,J⟩:=G1;obtain⟨n,m,km,bu,g,dP⟩:=s;have sq:=SQ (c.take i);rw[List.length_take]at sq;have pX:=Kv g dP c[i]! (Dh J am) am;obtain⟨ca,dK,fp⟩:=gV.add g dP c[i]!;obtain⟨W,w8⟩:∃W,W=rK 31 H 0 1 n m km bu (hI (c.take i)) c[i]!:=⟨_,rfl⟩;rw[<-w8]at pX ca
     (repeat' first|simp(disch:=first|exact ai|fail) only[go_sem,A,J]|(refine ao ?_ ?_<;>intro)|refine cA pX ?_)
     exact⟨(i+1,W),⟨ap,by simp only;rw[bL al,ake];exact ca,λa aG=>by
      rw[bL al,aLZ,List.mem_singleton]at aG;rcases aG with aG|aG
      ·exact y a aG
      ·rw[aG];exact z⟩,ap,co⟩
    |false =>
     have L:c.all kM=false:=by rw[List.all_eq_false];exact⟨_,ek al,by rw[z];simp⟩
     rw[L]at d;simp only[aPQ,if_true]at d;rw[d];cases A:ug c[i]! with
     |false =>
      refine bU @A ?_;exact⟨_,rfl,pd 13⟩
     |true =>
      have J:cD 4 c[i]! false=false:=by rw[kM,A,Bool.true_and]at z;exact z
      refine gS @A @J ?_;exact⟨_,rfl,pd 13⟩
   ·have sH:c.take i=c:=aPU am;rw[sH]at s y;have L:c.all kM=true:=List.all_eq_true.2 y;rw[L]at d;simp only[Bool.not_true,avX,if_false]at d;obtain⟨S,ds⟩:∃S,S=hI c:=⟨_,rfl⟩;have E:=E R L;rw[<-ds]at d s E;have B:gX S:=λa aG=>by
     rw[ds]at aG;have:=y a (akf c a aG);simp only[kM,aPT]at this;exact this.2
    have Dk:S.length<=100000:=by rw[ds];have:=SQ c;omega
    have xa:2<H.length:=by obtain⟨_,_,_,_,g,_⟩:=s;exact dq g.ah
    (repeat' first|simp(disch:=first|exact ai|fail) only[go_sem,aqx,avT,aKc]|(refine ao ?_ ?_<;>intro)|refine cA (Rm H) ?_)
    have yW:((H++[ay.map 0 []]++[ay.map 0 []]++[ay.cells [AV.map H.length,AV.map (H.length+1)]]++[ay.cells [AV.fl]]++[ay.cells [AV.bool false]]).set (H.length+1+1+1) (ay.cells [AV.ptr (H.length+2) 0])).set (H.length+1+1+1+1) (ay.cells [AV.bool false])=H++[.map 0 [],.map 0 [],.cells [.map H.length,.map (H.length+1)],.cells [.ptr (H.length+2) 0],.cells [.bool false]]:=by
     rw[show H++[ay.map 0 []]++[ay.map 0 []]++[ay.cells [AV.map H.length,AV.map (H.length+1)]]++[ay.cells [AV.fl]]++[ay.cells [AV.bool false]]=H++[ay.map 0 [],ay.map 0 [],ay.cells [AV.map H.length,AV.map (H.length+1)],ay.cells [AV.fl],ay.cells [AV.bool false]] by simp];rw[List.set_append_right _ _ am,List.set_append_right _ _ am,show H.length+1+1+1-H.length=3 by omega,show H.length+1+1+1+1-H.length=4 by omega];rfl
    rw[yW];obtain⟨u,O⟩:∃u,u=H++[ay.map 0 [],.map 0 [],.cells [.map H.length,.map (H.length+1)],.cells [.ptr (H.length+2) 0],.cells [.bool false]]:=⟨_,rfl⟩;rw[<-O];have RR:sM (H.length+4) (H.length+3) (H.length+2) H.length (H.length+1) [] u:=by
     rw[O];exact⟨be,be,0,0,[],[],⟨be,by simp[cI],by simp[cI],am⟩,jN.nil⟩
    have Fj:∀i,i<H.length->u[i]?=H[i]?:=λi al=>by rw[O];exact dE al
    have Dl:u.length=H.length+5:=by rw[O];simp
    refine bQ (λq:Nat×List ay=>⟨N [(7,.b [.ptr 2 0]),(10,.v (.ptr (H.length+3) 0)),(11,.v (.ptr (H.length+4) 0)),(44,.v (enc l)),(45,.v (enc l.length)),(46,.v (enc q.1))],q.2⟩)
     (λq=>q.1<=l.length/\sM (H.length+4) (H.length+3) (H.length+2) H.length (H.length+1) (eB (l.take q.1) S) q.2/\H.length+5<=q.2.length/\∀i,i<H.length->q.2[i]?=H[i]?) (λq=>l.length-q.1) (0,u) ⟨aqw _,RR,ap,Fj⟩ ew ?_
    rintro⟨i,H1⟩ ⟨ei,P,dO,C⟩;simp only at ei P dO C;have KZ:gV 31 H1 2 0 1 S:=s.of (C 2 am) (C 0 am) (C 1 am);rcases aqv i l.length with al|al
    ·have AW:=vj _ (ek al);have wo:eB (l.take (i+1)) S=eB (l.take i) S++nc S l[i]!:=by rw[eB,bL al,aPP];simp[eB]
     have oA:(eB (l.take i) S++nc S l[i]!).length<=1000000:=by
      rw[<-wo];have e:eB l S=eB (l.take (i+1)) S++eB (l.drop (i+1)) S:=by rw[eB,eB,eB,<-aPP,List.take_append_drop]
      rw[e,aqx]at E;omega
     have af:=aiv (r:=l[i]!) (aJb (H.length+4) (H.length+3) (H.length+2) H.length (H.length+1) 1000000 am) (λj o=>by rcases o with o|o|o|o|o<;>omega) (aiO B Dk AW) (by have:=AW.b;omega) KZ P ⟨.nil,λk hk=>(by cases hk),λp ar=>(by cases ar)⟩ oA
     (repeat' first|simp(disch:=first|exact ai|fail) only[go_sem]|(refine ao ?_ ?_<;>intro)|(refine iJ af ?_;(rintro tY H2 ⟨rfl,Q,f2⟩)))
     exact⟨(i+1,H2),⟨ap,by simp only;rw[wo];exact Q,by have:=f2.1;simp only;omega,λj o=>(f2.2 j am (λv=>by rcases v with v|v|v|v|v<;>omega)).trans (C j o)⟩,ap,co⟩
    ·have bJ:l.take i=l:=aPU am;rw[bJ]at P;obtain⟨w,Q,da⟩:=P;obtain⟨n,m,km,bu,g,dP⟩:=da;have ah:=g.ah;have hk:=g.hk
     have Y:=dP.len;have qT:((eB l S).any λa=>decide (4<cc a))=jR (eB l S):=rfl;rw[qT]at w;cases Z:jR (eB l S)with
     |true =>
      rw[Z]at w d;rw[if_pos rfl]at d;rw[d];refine bU @w ?_;exact⟨_,rfl,pd 3⟩
     |false =>
      rw[Z]at w d;simp only[avX,if_false]at d;obtain⟨T,ej⟩:∃T,T=hI (eB l S):=⟨_,rfl⟩;rw[<-ej]at d Y dP;rcases aqv 512 T.length with an|an
      ·rw[if_pos an]at d;rw[d];refine oX @w @Q @ah @hk @AD @Y ?_;exact⟨_,rfl,pd 11⟩
      ·rw[if_neg am]at d;have uB:=ah1 (H:=H1) ⟨n,m,km,bu,g,dP⟩ am;have R6:(fx T).length<=100000/\kh (fx T)<=100000:=⟨by have:=Kf T;omega,Gf λt aB=>by
        have:=Dm vj B Z (akf _ _ (by rw[<-ej];exact(rI _ _).1 aB));have:=GD this;omega⟩
       rw[d]
       (repeat' first|simp(disch:=first|exact ai|fail) only[go_sem,w,Q,ah,hk,AD,Y]|(refine ao ?_ ?_<;>intro)|refine cA uB ?_)
       exact⟨_,rfl,bx.refl _⟩
 ·rw[if_pos am]at d;have V:((hG l:Nat):Int)≠0:=by omega
  refine bU @G ?_;rw[d];exact⟨_,rfl,pd _⟩
open Enc (enc)
def nQ(l:List I)(t:I):Bool:=decide (gh l t<l.length)&&(b6 l[gh l t]! t==0)
def findF(l:List I)(t:I):Int:=if nQ l t then(gh l t:Int)else -1
def sO(r:Option (List I×Nat))(a:I):Bool×Nat:=if !kM a then(false,13)else match r with
 |none=>(false,0)|some (A,e)=>if e≠0 then(false,e)else(nQ A a,0)
noncomputable def SU:List iZ:=[(53,hj λ(l:List I)(t:I)=>enc (findF l t)),
 (16,qF λ(l:List aU)(g:List I)(a:I)=>.bg [.bool (sO (iz l g) a).1,.int .i64 (sO (iz l g) a).2])]
noncomputable def nR:bj:=ij sN (e1 SU)
instance aPc{D:bj}[h:bt D nR]:bt D sN:=h.ke
def G2:List Nat:=[53,16]++SS
theorem Lh:fq nR G2:=fq.or akg (kf SU)
theorem akl(h:∀xs,e1 SU f xs=F xs)(hk:SS.contains f=false:=by rfl):∀xs,nR f xs=F xs:=λxs=>by rw[<-h];exact kg akg hk
variable {x3:AV}
theorem aJe[bt D nR]{g:List I}[aT x1 l][aT x2 g][aT x3 a](h:aA ν aD 16 [enc l,enc g,enc a] (.bg [.bool (sO (iz l g) a).1,.int .i64 (sO (iz l g) a).2])):b1 ν aD D 16 [x1,x2,x3] K tg=K (.bg [.bool (sO (iz l g) a).1,.int .i64 (sO (iz l g) a).2]):=u2 (D':=nR) (F:=λ(l:List aU)(g:List I)(a:I)=>.bg [.bool (sO (iz l g) a).1,.int .i64 (sO (iz l g) a).2]) (akl λ_=>rfl) h
theorem aJf(l:List I)(t:I)(u:l.length<=M) :
  bB ν aD 98 [enc l,enc t,.fn 99 []] H λr H'=>r=.bg [.int .i64 (gh l t),.bool (nQ l t)]/\H'=H:=by
 have v:M=1099511627776:=rfl;refine bB.intro (D:=nR) ayX ?_;unfold abu;refine ag ?_;refine bQ (λp:Nat×Nat=>⟨N [(0,.v (enc l)),(2,.v (.fn 99 [])),(4,.v (.cL [.str t.name,.list none 2 (t.args.map I.enc)])),(8,.v (enc l.length)),(9,.v (enc p.1)),(10,.v (enc p.2))],H⟩)
  (λp=>p.1<=p.2/\p.2<=l.length/\lH l t l.length p.1 p.2=gh l t) (λp=>p.2-p.1) (0,l.length) ⟨aqw _,Nat.le_refl _,rfl⟩ ew ?_
 rintro⟨bc,al⟩ ⟨o,q,c⟩;simp only at o q c;rcases aqv bc al with h|h
 ·obtain⟨m,hm⟩:∃m,m=(bc+al) / 2:=⟨_,rfl⟩;have d:m<l.length:=by omega
  have ah:l[(bc+al) / 2]?=some l[m]!:=by rw[<-hm,List.getElem?_eq_getElem d,getElem!_pos l m d]
  have ax:=JZ l t (f:=l.length) am h ah;rw[<-hm]at ax;have e:((bc:Int)+(al:Int)) / 2=(m:Int):=by omega
  rcases Int.lt_or_le (b6 l[m]! t) 0 with g|g
  ·rw[if_pos g]at ax
   (repeat' first|simp(disch:=first|exact ai|fail) only[go_sem,e,jL]|(refine ao ?_ ?_<;>intro)|refine qH ?_)
   exact⟨(m+1,al),⟨ap,ap,ax.symm.trans c⟩,ap,co⟩
  ·rw[if_neg am]at ax
   (repeat' first|simp(disch:=first|exact ai|fail) only[go_sem,e,jL]|(refine ao ?_ ?_<;>intro)|refine qH ?_)
   exact⟨(bc,m),⟨ap,ap,ax.symm.trans c⟩,ap,co⟩
 ·have ar:gh l t=bc:=by rw[<-c,yB l t am]
  rw[ar];have s:nQ l t=(decide (bc<l.length)&&(b6 l[bc]! t==0)):=by rw[nQ,ar]
  rw[s];rcases aqv bc l.length with j|j
  ·rw[decide_eq_true j,Bool.true_and]
   (repeat' first|simp(disch:=first|exact ai|fail) only[go_sem,jL]|(refine ao ?_ ?_<;>intro)|refine qH ?_)
   exact⟨_,rfl,d9⟩
  ·rw[decide_eq_false am,Bool.false_and]
   (repeat' first|simp(disch:=first|exact ai|fail) only[go_sem,jL]|(refine ao ?_ ?_<;>intro)|refine qH ?_)
   exact⟨_,rfl,d9⟩
theorem aJg(l:List I)(t:I)(d:l.length<=M):aA ν aD 53 [enc l,enc t] (enc (findF l t)):=by
 have e:M=1099511627776:=rfl;have ae:=aJf (H:=[]) l t d;unfold findF;cases c:nQ l t with
 |true =>
  rw[c]at ae;refine aA.intro (D:=nR) ae9 cX c7 ?_;unfold Pg;simp(disch:=first|exact ai|fail) only[go_sem]
  (repeat' first|simp(disch:=first|exact ai|fail) only[go_sem]|(refine ao ?_ ?_<;>intro)|refine cA ae ?_)
  all_goals rfl
 |false =>
  rw[c]at ae;refine aA.intro (D:=nR) ae9 cX c7 ?_;unfold Pg;simp(disch:=first|exact ai|fail) only[go_sem]
  (repeat' first|simp(disch:=first|exact ai|fail) only[go_sem]|(refine ao ?_ ?_<;>intro)|refine cA ae ?_)
  all_goals rfl
variable {t:I}
theorem aJh[bt D nR]{l:List I}[aT x1 l][aT x2 t](h:l.length<=M) :b1 ν aD D 53 [x1,x2] K tg=K (enc (findF l t)):=ik (D':=nR) (F:=λ(l:List I)(t:I)=>enc (findF l t)) (akl λ_=>rfl) (aJg l t h)
attribute [go_sem ↓ 2000] aJh
theorem aJi(l:List I)(t:I):decide (findF l t>=0)=nQ l t:=by
 unfold findF;cases nQ l t<;>simp
theorem aJj(l:List aU)(g:List I)(a:I)(hd:∀r∈l,∀a∈dx r,cc a<=1000000)(ds:(iz l g).isSome=true)(d:∀A e,iz l g=some (A,e)->A.length<=M) :
  aA ν aD 16 [enc l,enc g,enc a] (.bg [.bool (sO (iz l g) a).1,.int .i64 (sO (iz l g) a).2]):=by
 have v:M=1099511627776:=rfl;have q:=Lg l g hd ds;obtain⟨⟨A,e⟩,de⟩:=Option.isSome_iff_exists.1 ds;rw[de]at q ⊢;have w:=d A e de;have h:=λ{K:AV->Prop}{tg:aN K}=>K5 (D:=nR) (K:=K) (tg:=tg) (x1:=enc l) (x2:=enc g) (l:=l) (a:=g) (by rw[de];exact q);have u:(enc l:AV)=.list none 3 (l.map aU.enc):=rfl;have o:(enc g:AV)=.list none 2 (g.map I.enc):=rfl;rw[u,o,de]at h;simp only[j8]at h;unfold sO;have p:=aJi A a;cases aE:kM a with
 |false =>
  simp only[aPQ,if_true];refine aA.intro (D:=nR) PJ cX c7 ?_;unfold JI;simp(disch:=first|exact ai|fail) only[go_sem];cases c:ug a with
  |false =>
   (repeat' first|simp(disch:=first|exact ai|fail) only[go_sem,c]|(refine ao ?_ ?_<;>intro))
   all_goals rfl
  |true =>
   have j:cD 4 a false=false:=by rw[kM,c,Bool.true_and]at aE;exact aE
   (repeat' first|simp(disch:=first|exact ai|fail) only[go_sem,c,j]|(refine ao ?_ ?_<;>intro))
   all_goals rfl
 |true =>
  have s:=aE;simp only[kM,aPT]at s;obtain⟨c,j⟩:=s;simp only[Bool.not_true,avX,if_false];rcases aPS e with he|he
  ·subst he;simp only[ne_eq,not_true_eq_false,if_false];refine aA.intro (D:=nR) PJ cX c7 ?_;unfold JI;simp(disch:=first|exact ai|fail) only[go_sem]
   (repeat' first|simp(disch:=first|exact ai|fail) only[go_sem,c,j,h,p]|(refine ao ?_ ?_<;>intro))
   all_goals rfl
  ·rw[if_pos am];have y:((e:Nat):Int)≠0:=by omega
   refine aA.intro (D:=nR) PJ cX c7 ?_;unfold JI;simp(disch:=first|exact ai|fail) only[go_sem]
   (repeat' first|simp(disch:=first|exact ai|fail) only[go_sem,c,j,h]|(refine ao ?_ ?_<;>intro))
   all_goals rfl
open Enc (enc)
def mz(r:List aY×Bool):AV:=.bg [enc r.1,.bool r.2]
def pg(t:I):Option I->AV
 |some u=>.bg [enc u,.bool true]|none=>.bg [enc t,.bool false]
noncomputable def SZ:List iZ:=[(56,eh λ(t:I)=>enc (fy t)),
 (57,eh λ(t:I)=>enc (cc t)),
 (101,eh λ(t:I)=>enc (mx t)),
 (100,qF λ(p:I)(t:I)(s:List aY)=>mz (fk p t s)),
 (59,hj λ(t:I)(s:List aY)=>pg t (hv t s))]
noncomputable def gy:bj:=ij nR (e1 SZ)
instance aPd{D:bj}[h:bt D gy]:bt D nR:=h.ke
def S0:List Nat:=[56,57,101,100,59]++G2
theorem akt:fq gy S0:=fq.or Lh (kf SZ)
theorem A8(h:∀xs,e1 SZ f xs=F xs)(hk:G2.contains f=false:=by rfl):∀xs,gy f xs=F xs:=λxs=>by rw[<-h];exact kg Lh hk
theorem aJr[bt D gy][aT x1 t](h:aA ν aD 56 [enc t] (enc (fy t))):b1 ν aD D 56 [x1] K tg=K (enc (fy t)):=ec (D':=gy) (F:=λ(t:I)=>enc (fy t)) (A8 λ_=>rfl) h
theorem aJs[bt D gy][aT x1 t](h:aA ν aD 57 [enc t] (enc (cc t))):b1 ν aD D 57 [x1] K tg=K (enc (cc t)):=ec (D':=gy) (F:=λ(t:I)=>enc (cc t)) (A8 λ_=>rfl) h
variable {p:I}{s:List aY}
theorem S1[bt D gy][aT x1 p][aT x2 t][aT x3 s](h:aA ν aD 100 [enc p,enc t,enc s] (mz (fk p t s))):b1 ν aD D 100 [x1,x2,x3] K tg=K (mz (fk p t s)):=u2 (D':=gy) (F:=λ(p:I)(t:I)(s:List aY)=>mz (fk p t s)) (A8 λ_=>rfl) h
theorem S2[bt D gy][aT x1 t][aT x2 s](h:aA ν aD 59 [enc t,enc s] (pg t (hv t s))):b1 ν aD D 59 [x1,x2] K tg=K (pg t (hv t s)):=ik (D':=gy) (F:=λ(t:I)(s:List aY)=>pg t (hv t s)) (A8 λ_=>rfl) h
theorem aJt(t:I):fy t=t.name++[40]++iA t.args++[41]:=by cases t;rfl
theorem aJu:∀t:I,(fy t).length<=M->aA ν aD 56 [enc t] (enc (fy t)):=I.ind λt ih hk=>by
 refine aA.h4 λae=>?_;have j:=((I.j5 t).1 ae).2.1;have o:M=1099511627776:=rfl;rw[aJt]at hk ⊢;simp only[aqx,avT,aKc]at hk;refine aA.intro (D:=gy) ayy cX c7 ?_;unfold ZV;simp(disch:=first|exact ai|fail) only[go_sem]
 (repeat' first|refine iv @aqx.{0} @avT.{0} @aKc.{0} ?_|(refine ao ?_ ?_<;>intro))
 refine bQ (λi:Nat=>⟨N [(1,.v (.cL t.enc.cells)),(3,.v (.str (t.name++[40]++iA (t.args.take i)))),(10,.v (enc t.args.length)),(11,.v (enc i))],[]⟩)
  (λi=>i<=t.args.length) (λi=>t.args.length-i) 0 (aqw _) (by(try simp(disch:=first|exact ai|fail) only[go_sem])<;>(first|rfl|(simp(disch:=first|exact aX|fail) only[b7,aqV,avO,Env.ins,cp,cq,cr,ct,cu,cv,cw,cx,I.b0,aqt,avP,avQ,avR,aqH,bL,aqE,aqI,aqB,cy,cz,go_sem,iA,ax6];try rfl))) ?_
 intro i al;have d:=SX t.args i;rcases aqv i t.args.length with h|h
 ·have c:=SX t.args (i+1);have e:=aJm h;rw[e]at c;simp only[aqx,avT,aKc]at c;have hd:=ih t.args[i]! (ek h) am;have g:=λ{K:AV->Prop}{tg:aN K}(q:i<t.args.length)=>aJr (D:=gy) (K:=K) (tg:=tg) (x1:=t.args[i]!.enc) (hd);refine mb @g @aqx.{0} @avT.{0} @aKc.{0} ?_;exact⟨i+1,am,am,by(first|rfl|(simp(disch:=first|exact aX|fail) only[b7,aqV,avO,Env.ins,cp,cq,cr,ct,cu,cv,cw,cx,I.b0,aqt,avP,avQ,avR,aqH,bL,aqE,aqI,aqB,cy,cz,go_sem,SV,List.append_assoc];try rfl))⟩
 ·obtain rfl:i=t.args.length:=by omega
  rw[avY]
  (repeat' first|simp(disch:=first|exact ai|fail) only[go_sem,aqx,avT,aKc]|(refine ao ?_ ?_<;>intro))
  all_goals rfl
theorem aJv[bt D gy][aT x1 t](h:(fy t).length<=M) :b1 ν aD D 56 [x1] K tg=K (enc (fy t)):=ec (D':=gy) (F:=λ(t:I)=>enc (fy t)) (A8 λ_=>rfl) (aJu t h)
attribute [go_sem ↓ 2000] aJv
theorem aJw:∀(t:I),cc t<=1000000->aA ν aD 57 [enc t] (enc (cc t)):=I.ind λt ih hd=>by
 refine aA.h4 λae=>?_;obtain⟨_,ae,_⟩:=(I.j5 t).1 ae;have g:M=1099511627776:=rfl;have d:=u4 t;refine aA.intro (D:=gy) ayz cX c7 ?_;unfold ZY;simp(disch:=first|exact ai|fail) only[go_sem];refine bQ (λ(i:Nat)=>⟨N [(1,.v (.cL t.enc.cells)),(3,.v (enc (ja (t.args.take i)))),(7,.v (enc t.args.length)),(8,.v (enc i))],[]⟩) (λ(i:Nat)=>i<=t.args.length) (λ(i:Nat)=>t.args.length-i) 0 cM (by(try simp(disch:=first|exact ai|fail) only[go_sem])<;>(first|rfl|(simp(disch:=first|exact aX|fail) only[b7,aqV,avO,Env.ins,cp,cq,cr,ct,cu,cv,cw,cx,I.b0,aqt,avP,avQ,avR,aqH,bL,aqE,aqI,aqB,cy,cz,go_sem,ja];try rfl))) ?_;intro i al;have e:=λ{K:AV->Prop}{tg:aN K}(c:i<t.args.length)=>aJs (D:=gy) (K:=K) (tg:=tg) (x1:=t.args[i]!.enc) (ih t.args[i]! (ek c) (by have:=Av (ek c);omega));have h:=Qq t.args i
 (repeat' first|simp(disch:=first|exact ai|fail) only[go_sem,e]|(refine ao ?_ ?_<;>intro))
 ·exact⟨i+1,am,am,by(first|rfl|(simp(disch:=first|exact aX|fail) only[b7,aqV,avO,Env.ins,cp,cq,cr,ct,cu,cv,cw,cx,I.b0,aqt,avP,avQ,avR,aqH,bL,aqE,aqI,aqB,cy,cz,go_sem,J8];try rfl))⟩
 ·rw[aPU am,d];rfl
theorem aJx[bt D gy][aT x1 t](h:cc t<=1000000) :b1 ν aD D 57 [x1] K tg=K (enc (cc t)):=ec (D':=gy) (F:=λ(t:I)=>enc (cc t)) (A8 λ_=>rfl) (aJw t h)
attribute [go_sem ↓ 2000] aJx
theorem aJy(t:I):aA ν aD 101 [enc t] (enc (mx t)):=by
 have e:((t.args.length:Int)==0)=decide (t.args.length=0):=by rw[aPw];simp
 have h:mx t=(decide (t.args.length=0)&&xt t.name):=rfl;rw[h];cases g:t.name with
 |nil =>
  refine aA.intro (D:=gy) afk cX c7 ?_;unfold Pr;simp(disch:=first|exact ai|fail) only[go_sem];cases d:decide (t.args.length=0);all_goals (repeat' first|simp(disch:=first|exact ai|fail) only[go_sem,e,d,g]|(refine ao ?_ ?_<;>intro))
  all_goals rfl
 |cons c r =>
  have j:xt (c::r)=(decide (65<=c.toNat)&&decide (c.toNat<=90)):=rfl;have o:((c::r)==([]:ak))=false:=rfl;have q:decide ((c.toNat:Int)>=65)=decide (65<=c.toNat):=by rw[aPw];simp;omega
  have u:decide ((c.toNat:Int)<=90)=decide (c.toNat<=90):=by rw[aPw];simp;omega
  rw[j];refine aA.intro (D:=gy) afk cX c7 ?_;unfold Pr;simp(disch:=first|exact ai|fail) only[go_sem];cases d:decide (t.args.length=0)<;>cases v:decide (65<=c.toNat)<;>cases w:decide (c.toNat<=90);all_goals (repeat' first|simp(disch:=first|exact ai|fail) only[go_sem,e,d,g,o,q,u,v,w,aPR,aL1]|(refine ao ?_ ?_<;>intro))
  all_goals rfl
theorem aJz[bt D gy][aT x1 t]  :b1 ν aD D 101 [x1] K tg=K (enc (mx t)):=ec (D':=gy) (F:=λ(t:I)=>enc (mx t)) (A8 λ_=>rfl) (aJy t)
attribute [go_sem ↓ 2000] aJz
theorem S3{n:ak}(h:i<s.length):jr (s.drop i) n=if s[i]!.var==n then some s[i]!.term else jr (s.drop (i+1)) n:=by
 rw[fi h,jr,List.find?_cons];cases s[i]!.var==n<;>rfl
theorem aJA(h:mx p=true):fk p t s=(match jr s p.name with|some u=>(s,hi u t)|none=>(s++[⟨p.name,t⟩],true)):=by
 obtain⟨n,l⟩:=p;rw[fk,if_pos h];rfl
theorem aJB(h:mx p=false):fk p t s=if p.name != t.name||decide (p.args.length≠t.args.length)then([],false)else j9 p.args t.args s:=by
 obtain⟨n,l⟩:=p;rw[fk,if_neg (by rw[h];simp)];rfl
theorem aJC{l m:List I}(c:i<l.length)(d:i<m.length):j9 (l.drop i) (m.drop i) s=if(fk l[i]! m[i]! s).2 then j9 (l.drop (i+1)) (m.drop (i+1)) (fk l[i]! m[i]! s).1 else((fk l[i]! m[i]! s).1,false):=by
 rw[fi c,fi d,j9]
mutual
theorem G3:∀(p t:I)(s:List aY),(fk p t s).1.length<=s.length+(ck p).length
 |.mk n l,t,s=>by
  have g:(bF l).length<=(ck (.mk n l)).length:=by cases l<;>simp[ck,bF]
  have d:l=[]->(ck (.mk n l)).length=1:=by rintro rfl;simp[ck]
  cases c:mx (.mk n l)with
  |true =>
   have e:l.length=0:=by
    simp only[mx,aPT,I.args]at c;exact of_decide_eq_true c.1
   have:=d (aLY.1 e);rw[fk,if_pos c];cases jr s n<;>simp<;>omega
  |false =>
   have h:=aku l t.args s;rw[fk,if_neg lm];split
   ·simp
   ·omega
theorem aku:∀(l m:List I)(s:List aY),(j9 l m s).1.length<=s.length+(bF l).length
 |[],m,s=>by simp[j9]|p::ps,[],s=>by simp[j9]|p::ps,t::bE,s=>by
  have c:=G3 p t s;have d:=aku ps bE (fk p t s).1;rw[j9,bF,aqx];split
  ·omega
  ·simp only;omega
end
theorem S4:∀{l:List I}{i:Nat},i<l.length->(bF (l.take i)).length+(ck l[i]!).length<=(bF l).length
 |[],i,h=>by simp at h|t::r,0,h=>by simp[bF]|t::r,i+1,h=>by
  have:=S4 (l:=r) (i:=i) el;simp only[List.take_succ_cons,bF,aqx,List.getElem!_cons_succ]at this ⊢;omega
theorem aJD:∀(p t:I)(s:List aY),s.length+(ck p).length<=1000000->aA ν aD 100 [enc p,enc t,enc s] (mz (fk p t s)):=I.ind λp ih t s ax=>by
 refine aA.sy λC E=>?_;have S:=((I.j5 p).1 C).2.1;have T:=((I.j5 t).1 E).2.1;have V:M=1099511627776:=rfl;cases d:mx p with
 |true =>
  rw[aJA d];obtain⟨R,de⟩:∃R,R=jr s p.name:=⟨_,rfl⟩;rw[<-de];refine aA.gK (D:=gy) PL (by simp only[aqT,aqU,Enc.arg,avS]) rfl (λ_ _ _ h=>d7) ?_;unfold JL;refine bU @d ?_;refine bQ (λi:Nat=>⟨N [(2,.v (enc s)),(3,.v (.cL p.enc.cells)),(4,.v (.cL t.enc.cells)),(14,.v (enc s.length)),(15,.v (enc i))],[]⟩)
   (λi=>i<=s.length/\jr (s.drop i) p.name=R) (λi=>s.length-i) 0 ⟨aqw _,de.symm⟩ ew ?_
  rintro i ⟨z,c⟩;rcases aqv i s.length with h|h
  ·rw[S3 h]at c;cases u:s[i]!.var==p.name with
   |true =>
    rw[u,if_pos rfl]at c;rw[<-c];refine gS @d @u ?_;exact⟨_,rfl,bx.refl _⟩
   |false =>
    rw[u,if_neg be]at c;refine gS @d @u ?_;exact⟨i+1,⟨am,c⟩,am,co⟩
  ·rw[aL0 h]at c;have j:R=none:=c.symm;rw[j];refine iv @d @aqt.{0,0} @List.nil_append.{0} ?_;exact⟨_,rfl,by simp only[mz];rw[show(enc (s++[aY.mk p.name t]):AV)=.list none 3 ((s++[aY.mk p.name t]).map aY.enc) from rfl,aqE];exact bx.refl _⟩
 |false =>
  rw[aJB d];have G:=nJ p;have A:((p.args.length:Int) != (t.args.length:Int))=decide (p.args.length≠t.args.length):=by rw[aPw];simp;omega
  cases v:(p.name != t.name||decide (p.args.length≠t.args.length))with
  |true =>
   simp only[if_true];refine aA.gK (D:=gy) PL (by simp only[aqT,aqU,Enc.arg,avS]) rfl (λ_ _ _ h=>d7) ?_;unfold JL;cases e:p.name==t.name with
   |false =>
    refine gS @d @e ?_;exact⟨_,rfl,bx.bg (.cons (bx.aS _) (.cons (bx.refl _) .nil))⟩
   |true =>
    have w:decide (p.args.length≠t.args.length)=true:=by
     have:(p.name != t.name)=false:=by rw[bne,e];rfl
     rw[this,Bool.false_or]at v;exact v
    (repeat' first|refine mb @d @e @A @w ?_|(refine ao ?_ ?_<;>intro))
    exact⟨_,rfl,bx.bg (.cons (bx.aS _) (.cons (bx.refl _) .nil))⟩
  |false =>
   simp only[Bool.or_eq_false_iff]at v;obtain⟨e,w⟩:=v;have e:(p.name==t.name)=true:=by rw[bne]at e;simpa using e
   have J:p.args.length=t.args.length:=by simpa using w
   simp only[avX,if_false];obtain⟨R,de⟩:∃R,R=j9 p.args t.args s:=⟨_,rfl⟩;rw[<-de];have L:s.length+(bF p.args).length<=1000000:=by
    rw[G]at ax;split at ax
    ·rename_i O;rw[aLY.1 O];simp only[bF,aKc];omega
    ·exact ax
   refine aA.gK (D:=gy) PL (by simp only[aqT,aqU,Enc.arg,avS]) rfl (λ_ _ _ h=>d7) ?_;unfold JL
   (repeat' first|refine mb @d @e @A @w ?_|(refine ao ?_ ?_<;>intro))
   refine bQ (λq:Nat×List aY×Bool=>⟨N [(2,.v (enc q.2.1)),(3,.v (.cL p.enc.cells)),(4,.v (.cL t.enc.cells)),(9,.v (.bool q.2.2)),(10,.v (enc q.1))],[]⟩)
    (λq=>q.1<=p.args.length/\(q.2.2=true->j9 (p.args.drop q.1) (t.args.drop q.1) q.2.1=R/\q.2.1.length<=s.length+(bF (p.args.take q.1)).length)/\(q.2.2=false->R=(q.2.1,false))) (λq=>p.args.length-q.1) (0,s,true) ⟨aqw _,λ_=>⟨de.symm,by simp[bF]⟩,λh=>d7⟩ ew ?_
   rintro⟨i,o,ok⟩ ⟨z,c,j⟩;simp only at z c j;cases ok with
   |false =>
    have j:=j rfl;rw[j]
    (repeat' first|refine ag ?_|(refine ao ?_ ?_<;>intro))
    all_goals exact⟨_,rfl,bx.refl _⟩
   |true =>
    obtain⟨c,W⟩:=c rfl;rcases aqv i p.args.length with h|h
    ·have Y:=S4 h;have hd:=ih p.args[i]! (ek h) t.args[i]! o am;rw[aJC h am]at c;have P:=G3 p.args[i]! t.args[i]! o;obtain⟨X,bA⟩:∃X,X=fk p.args[i]! t.args[i]! o:=⟨_,rfl⟩;have g:=λ{K:AV->Prop}{tg:aN K}=>S1 (D:=gy) (K:=K) (tg:=tg) (x1:=p.args[i]!.enc) (x2:=t.args[i]!.enc) (x3:=enc o) hd;rw[<-bA]at c P g;have Q:(enc o:AV)=.list none 3 (o.map aY.enc):=rfl;rw[Q]at g;simp only[mz]at g;have Z:(bF (p.args.take (i+1))).length=(bF (p.args.take i)).length+(ck p.args[i]!).length:=by
      have key:∀(l:List I)(x:I),(bF (l++[x])).length=(bF l).length+(ck x).length:=λl x=>by
       induction l with
       |nil=>simp[bF]|cons y r ih=>simp only[List.cons_append,bF,aqx,ih];omega
      rw[bL h,key]
     cases B:X.2 with
     |true =>
      rw[B]at c g;rw[if_pos rfl]at c;refine bU @g ?_;exact⟨(i+1,X.1,true),⟨ap,λ_=>⟨c,ap⟩,λh=>d7⟩,ap,co⟩
     |false =>
      rw[B]at c g;rw[if_neg be]at c;refine bU @g ?_;exact⟨(i+1,X.1,false),⟨ap,λh=>d7,λ_=>c.symm⟩,ap,co⟩
    ·rw[aL0 h,j9]at c;rw[<-c];refine ag ?_;all_goals exact⟨_,rfl,bx.refl _⟩
open Enc (enc)
theorem aJG(h:mx t=true):hv t s=jr s t.name:=by
 obtain⟨n,l⟩:=t;rw[hv,if_pos h];rfl
theorem aJH(h:mx t=false):hv t s=(kN t.args s).map (I.mk t.name):=by
 obtain⟨n,l⟩:=t;rw[hv,if_neg (by rw[h];simp)];rfl
theorem akv(t:I)(R:Option I):(pg t R).res=true:=by
 cases R with
 |none=>simp only[pg,AV.res,aqT,aqU];rw[show(enc t:AV)=t.enc from rfl,t.qC];rfl|some u=>simp only[pg,AV.res,aqT,aqU];rw[show(enc u:AV)=u.enc from rfl,u.qC];rfl
theorem akw(t:I)(R:Option I):cY (pg t R):=by cases R<;>exact λ_ _ _ h=>by cases h
theorem aJI(s:List aY)(ax:s.length<=M):∀t:I,aA ν aD 59 [enc t,enc s] (pg t (hv t s)):=I.ind λt ih=>by
 refine aA.sy λA _=>?_;have E:=((I.j5 t).1 A).2.1;have G:M=1099511627776:=rfl;cases e:mx t with
 |true =>
  rw[aJG e];obtain⟨R,de⟩:∃R,R=jr s t.name:=⟨_,rfl⟩;rw[<-de];refine aA.gK (D:=gy) afb (by simp only[aqT,aqU,Enc.arg,avS]) (akv _ _) (akw _ _) ?_;unfold Pj;refine bU @e ?_;refine bQ (λi:Nat=>⟨N [(1,.v (enc s)),(2,.v (.cL t.enc.cells)),(4,.b [.str [],.aS 2]),(14,.v (enc s.length)),(15,.v (enc i))],[]⟩)
   (λi=>i<=s.length/\jr (s.drop i) t.name=R) (λi=>s.length-i) 0 ⟨aqw _,de.symm⟩ ew ?_
  rintro i ⟨y,c⟩;rcases aqv i s.length with h|h
  ·rw[S3 h]at c;cases o:s[i]!.var==t.name with
   |true =>
    rw[o,if_pos rfl]at c;rw[<-c];refine gS @e @o ?_;exact⟨_,rfl,bx.refl _⟩
   |false =>
    rw[o,if_neg be]at c;refine gS @e @o ?_;exact⟨i+1,⟨am,c⟩,am,co⟩
  ·rw[aL0 h]at c;have d:R=none:=c.symm;rw[d];refine bU @e ?_;exact⟨_,rfl,bx.refl _⟩
 |false =>
  rw[aJH e];obtain⟨R,de⟩:∃R,R=kN t.args s:=⟨_,rfl⟩;rw[<-de];refine aA.gK (D:=gy) afb (by simp only[aqT,aqU,Enc.arg,avS]) (akv _ _) (akw _ _) ?_;unfold Pj;refine bU @e ?_;refine bQ (λq:Nat×List I=>⟨N [(1,.v (enc s)),(2,.v (.cL t.enc.cells)),(4,.b [.str [],.aS 2]),(7,.b [.str t.name,if q.1=0 then .aS 2 else .list (some 31) 2 (q.2.map I.enc)]),(38,.v (enc t.args.length)),(39,.v (enc q.1))],[]⟩)
   (λq=>q.1<=t.args.length/\q.2.length=q.1/\(kN (t.args.drop q.1) s).map (q.2++·)=R) (λq=>t.args.length-q.1) (0,[]) ⟨aqw _,rfl,by simp only[List.drop_zero,List.nil_append];rw[de];cases kN t.args s<;>rfl⟩ ew ?_
  rintro⟨i,os⟩ ⟨y,c,d⟩;simp only at y c d;rcases aqv i t.args.length with h|h
  ·have hd:=ih t.args[i]! (ek h);have g:=λ{K:AV->Prop}{tg:aN K}=>S2 (D:=gy) (K:=K) (tg:=tg) (x1:=t.args[i]!.enc) (x2:=enc s) hd;have B:(enc s:AV)=.list none 3 (s.map aY.enc):=rfl;rw[B]at g;rw[fi h,kN]at d;obtain⟨X,bA⟩:∃X,X=hv t.args[i]! s:=⟨_,rfl⟩;rw[<-bA]at d g;cases X with
   |none =>
    simp only[Option.map_none]at d;rw[<-d];simp only[pg]at g;refine bU @g ?_;exact⟨_,rfl,bx.refl _⟩
   |some u =>
    simp only[pg]at g;simp only[Option.map_map]at d;have z:Option.map (λx=>(os++[u])++x) (kN (t.args.drop (i+1)) s)=R:=by
     rw[<-d];congr 1
     funext x
     simp
    have C:¬(i+1=0):=by omega
    rcases aPS i with j|j
    ·subst j;have v:os=[]:=aLY.1 c;subst v;refine bU @g ?_;exact⟨(1,[u]),⟨ap,rfl,z⟩,ap,co⟩
    ·have w:¬(i=0):=by omega
     (repeat' first|simp(disch:=first|exact ai|fail) only[go_sem,g,if_neg w,aqt,c]|(refine ao ?_ ?_<;>intro))
     exact⟨(i+1,os++[u]),⟨ap,by simp[c],z⟩,ap,by(first|rfl|(simp(disch:=first|exact aX|fail) only[b7,aqV,avO,Env.ins,cp,cq,cr,ct,cu,cv,cw,cx,I.b0,aqt,avP,avQ,avR,aqH,bL,aqE,aqI,aqB,cy,cz,go_sem,if_neg C];try rfl))⟩
  ·obtain rfl:i=t.args.length:=by omega
   rw[List.drop_length,kN]at d;simp only[aL1,ax6]at d;rw[<-d];rcases aPS t.args.length with j|j
   ·have v:os=[]:=aLY.1 am;subst v;refine bU @j ?_;exact⟨_,rfl,by simp only[pg,aL1];rw[show(enc (I.mk t.name []):AV)=(I.mk t.name []).enc from rfl,I.qC];exact bx.bg (.cons (bx.agg (.cons (bx.refl _) (.cons (bx.aS _) .nil))) (.cons (bx.refl _) .nil))⟩
   ·have w:¬(t.args.length=0):=by omega
    (repeat' first|simp(disch:=first|exact ai|fail) only[go_sem,if_neg w]|(refine ao ?_ ?_<;>intro))
    exact⟨_,rfl,by simp only[pg,aL1];rw[show(enc (I.mk t.name os):AV)=(I.mk t.name os).enc from rfl,I.qC];exact bx.refl _⟩
end AM
