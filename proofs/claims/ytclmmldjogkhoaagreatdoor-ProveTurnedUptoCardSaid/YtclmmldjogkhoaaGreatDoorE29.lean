/- What functions of the given program do, as calls of the machine. Conditions: names and lists are bounded where that is said. -/
import Derived.Test.YtclmmldjogkhoaaGreatDoorSS
import Derived.Test.YtclmmldjogkhoaaGreatDoorAm19
import Derived.Test.YtclmmldjogkhoaaGreatDoorAm20
set_option linter.unusedSimpArgs false
set_option maxRecDepth 100000
set_option maxHeartbeats 4000000
set_option linter.unusedVariables false
namespace AM
open List renaming length_map -> I9,map_nil -> TH,length_append -> fM,map_append -> aeZ,take_zero -> ae0,map_cons -> aB5,all_cons -> aB8,all_nil -> aB9,foldr_cons -> aHk,foldr_nil -> aHV,length_cons -> aID,take_length -> aIF,append_nil -> aIG,length_nil -> aIH,map_map -> aII,length_eq_zero_iff -> aIJ,mem_append -> aIK,drop_eq_nil_of_le -> aIL,flatMap_append -> aIO,getElem?_cons_zero -> aIQ,take_of_length_le -> aIT
open Nat renaming lt_or_ge -> Ja,zero_le -> LW,eq_zero_or_pos -> aIR
open Int renaming natCast_add -> aHW,natCast_one -> aIA,natCast_zero -> aIB
open Bool renaming and_self -> aIC,false_eq_true -> aIE,eq_iff_iff -> aIN,not_false -> aIP,and_eq_true -> aIS
open Option renaming map_some -> aIM
open Go Go.Proofs
open Tryz renaming prog -> ν
open Enc (enc)
theorem aCe(H:List ax)(mid:Nat):bn ν aB 128 [.map mid] H fun r H'=>r=.fn 141 [.ptr H.length 0]/\H'=H++[.cells [.map mid]]:=by
 refine bn.intro (D:=gk) atJ ?_;unfold ZU
 (repeat' first|simp(disch:=first|exact aq|fail) only[go_sem]|(apply av<;>intro))
 exact⟨_,rfl,by first|exact⟨rfl,rfl⟩|rfl⟩
variable {H:List ax}{id mid m:Nat}{km:List (aj×Bool)}
theorem aCf(f:H[id]?=some (.cells [.map mid]))(U:H[mid]?=some (.map m (cb AV.bool km)))(g:km.length<=M) :
  bn ν aB 139 [.fn 141 [.ptr id 0]] H fun r H'=>(km=[]/\r=.aV 1/\H'=H)\/(km≠[]/\∃ks:List aj,ks.Perm (b2 km)/\r=.bs H.length 0 ks.length 1/\H'=H++[.buf 9 (hM ks),.dead]):=by
 have i:(cb AV.bool km).map (·.1)=(b2 km).map AV.str:=by simp only[cb,b2,aII];first|rfl|(rw[List.map_id];rfl)|simp[p5,bE.enc,Function.comp_def]
 have t:=aeB (gl:=aB) asd anz f U (fun e he=>by simp only[cb,List.mem_map]at he;obtain⟨p,_,rfl⟩:=he;rfl) (fun e he=>by simp only[cb,List.mem_map]at he;obtain⟨p,_,rfl⟩:=he;rfl) (by simp only[cb,I9];exact g);have j:bn ν aB 149 [.aV 1,.fn 141 [.ptr id 0]] H fun r H'=>(km=[]/\r=.aV 1/\H'=H)\/(km≠[]/\∃ks:List aj,ks.Perm (b2 km)/\r=.bs H.length 0 ks.length 1/\H'=H++[.buf 9 (hM ks),.dead]):=by
  refine t.mono ?_;rintro r H' (⟨b,a,c⟩|⟨b,ks,a,c,k⟩)
  ·exact .inl ⟨by simpa[cb]using b,a,c⟩
  ·rw[i]at a;obtain⟨l,n,rfl⟩:=aeC a;exact .inr ⟨fun e=>b (by rw[e];rfl),l,n,by rw[c,I9],by rw[k,aeD]⟩
 have d:∃(r:AV)(H':List ax),(km=[]/\r=.aV 1/\H'=H)\/(km≠[]/\∃ks:List aj,ks.Perm (b2 km)/\r=.bs H.length 0 ks.length 1/\H'=H++[.buf 9 (hM ks),.dead]):=by
  by_cases h:km=[]
  ·exact⟨_,_,.inl ⟨h,rfl,rfl⟩⟩
  ·exact⟨_,_,.inr ⟨h,_,.refl _,rfl,rfl⟩⟩
 refine bn.intro (D:=gk) atN ?_;unfold Z3
 (repeat' first|simp(disch:=first|exact aq|fail) only[go_sem]|(apply av<;>intro)|(refine iW ⟨j,d⟩ ?_;(rintro r H' (⟨hk,rfl,rfl⟩|⟨hk,ks,ao,rfl,rfl⟩))))
 ·exact⟨_,rfl,.inl (by first|exact⟨hk,rfl,rfl⟩|exact⟨hk,rfl⟩|simp[hk])⟩
 ·exact⟨_,rfl,.inr (by first|exact⟨hk,ks,ao,rfl,rfl⟩|exact⟨hk,ks,ao,rfl⟩)⟩
def E9(X:List aj)(r:AV):Prop:=(X=[]/\r=.aV 1)\/r=.list (some 9) 1 (X.map AV.str)
variable {X:List aj}
theorem aCg(d:H[id]?=some (.cells [.map mid]))(U:H[mid]?=some (.map m (cb AV.bool km)))(e:km.length<=M)(bp:∀ks:List aj,ks.Perm (b2 km)->(Sort.sort mn ks.toArray).toList=X) :
  bn ν aB 127 [.fn 141 [.ptr id 0]] H fun r _=>E9 X r:=by
 have n:M=1099511627776:=rfl;have t:=aCf d U e;have b:∃(r:AV)(a:List ax),(km=[]/\r=.aV 1/\a=H)\/(km≠[]/\∃ks:List aj,ks.Perm (b2 km)/\r=.bs H.length 0 ks.length 1/\a=H++[.buf 9 (hM ks),.dead]):=by
  by_cases h:km=[]
  ·exact⟨_,_,.inl ⟨h,rfl,rfl⟩⟩
  ·exact⟨_,_,.inr ⟨h,_,.refl _,rfl,rfl⟩⟩
 have vQ:=fun a=>aBS a;have f:∀ks:List aj,H++[.buf 9 (hM ks),.dead]=wa 9 (H++[.dead,.dead]) H.length ks:=fun ks=>by simp[wa]
 have g:H.length<(H++[ax.dead,ax.dead]).length:=by simp
 have i:∀ks:List aj,ks.Perm (b2 km)->bn ν aB 140 [.bs H.length 0 ks.length 1] (H++[.buf 9 (hM ks),.dead]) fun r a=>r=.a8 []/\∃y,a=wa 9 ((H++[.dead,.dead])++y) H.length X:=fun ks ao=>by
  have:=aBT g (l:=ks) rfl (by have:=ao.length_eq;simp only[b2,I9]at this;omega);rw[bp ks ao,<-f]at this;exact this
 have c:∀ks:List aj,ks.Perm (b2 km)->X.length=ks.length:=fun ks ao=>by
  have:=(Sort.sort_sorts mn E3 ks.toArray).1.1;rw[<-bp ks ao];simpa using this
 have j:∀y,(wa 9 ((H++[.dead,.dead])++y) H.length X)[H.length]?=some (.buf 9 (hM X)):=fun y=>PC (by rw[fM];omega);refine bn.intro (D:=gk) atI ?_;unfold ZS
 (repeat' first|simp(disch:=first|exact aq|fail) only[go_sem,j]|(apply av<;>intro)|(refine iW ⟨t,b⟩ ?_;(rintro r a (⟨hk,rfl,rfl⟩|⟨hk,ks,ao,rfl,rfl⟩)))|refine b6 (vQ _) ?_|(refine aey (i ks ao) ?_;(intro o);(have p:=c ks ao);(have k:=ao.length_eq);(simp only[b2,I9]at k)))
 ·refine⟨_,rfl,.inl ⟨?_,rfl⟩⟩;exact aIJ.1 (c [] (by rw[hk];exact .refl _))
 ·exact⟨_,rfl,.inr rfl⟩
open Enc (enc)
theorem aCh(H:List ax)(mid:Nat):bn ν aB 110 [.map mid] H fun r H'=>r=.fn 131 [.ptr H.length 0]/\H'=H++[.cells [.map mid]]:=by
 refine bn.intro (D:=gk) atu ?_;unfold Zk
 (repeat' first|simp(disch:=first|exact aq|fail) only[go_sem]|(apply av<;>intro))
 exact⟨_,rfl,by first|exact⟨rfl,rfl⟩|rfl⟩
theorem aCi{km:List bE}(f:H[id]?=some (.cells [.map mid]))(U:H[mid]?=some (.map m (hN km)))(g:km.length<=M) :
  bn ν aB 129 [.fn 131 [.ptr id 0]] H fun r H'=>(km=[]/\r=.aV 3/\H'=H)\/(km≠[]/\∃ks:List bE,ks.Perm (rS km)/\r=.bs H.length 0 ks.length 3/\H'=H++[.buf 132 (fA ks),.dead]):=by
 have i:(hN km).map (·.1)=(rS km).map bE.enc:=by simp only[hN,rS,aII];first|rfl|(rw[List.map_id];rfl)|simp[p5,bE.enc,Function.comp_def]
 have t:=aeB (gl:=aB) asc (anA rfl) f U (fun e he=>by simp only[hN,List.mem_map]at he;obtain⟨p,_,rfl⟩:=he;rfl) (fun e he=>by simp only[hN,List.mem_map]at he;obtain⟨p,_,rfl⟩:=he;rfl) (by simp only[hN,I9];exact g);have j:bn ν aB 142 [.aV 3,.fn 131 [.ptr id 0]] H fun r H'=>(km=[]/\r=.aV 3/\H'=H)\/(km≠[]/\∃ks:List bE,ks.Perm (rS km)/\r=.bs H.length 0 ks.length 3/\H'=H++[.buf 132 (fA ks),.dead]):=by
  refine t.mono ?_;rintro r H' (⟨b,a,c⟩|⟨b,ks,a,c,k⟩)
  ·exact .inl ⟨by simpa[hN]using b,a,c⟩
  ·rw[i]at a;obtain⟨l,n,rfl⟩:=aeC a;exact .inr ⟨fun e=>b (by rw[e];rfl),l,n,by rw[c,I9],by rw[k,aeE]⟩
 have d:∃(r:AV)(H':List ax),(km=[]/\r=.aV 3/\H'=H)\/(km≠[]/\∃ks:List bE,ks.Perm (rS km)/\r=.bs H.length 0 ks.length 3/\H'=H++[.buf 132 (fA ks),.dead]):=by
  by_cases h:km=[]
  ·exact⟨_,_,.inl ⟨h,rfl,rfl⟩⟩
  ·exact⟨_,_,.inr ⟨h,_,.refl _,rfl,rfl⟩⟩
 refine bn.intro (D:=gk) atK ?_;unfold ZW
 (repeat' first|simp(disch:=first|exact aq|fail) only[go_sem]|(apply av<;>intro)|(refine iW ⟨j,d⟩ ?_;(rintro r H' (⟨hk,rfl,rfl⟩|⟨hk,ks,ao,rfl,rfl⟩))))
 ·exact⟨_,rfl,.inl (by first|exact⟨hk,rfl,rfl⟩|exact⟨hk,rfl⟩|simp[hk])⟩
 ·exact⟨_,rfl,.inr (by first|exact⟨hk,ks,ao,rfl,rfl⟩|exact⟨hk,ks,ao,rfl⟩)⟩
def P3(X:List bE)(r:AV):Prop:=(X=[]/\r=.aV 3)\/r=.list (some 132) 3 (X.map bE.enc)
theorem aCj{km:List bE}(d:H[id]?=some (.cells [.map mid]))(U:H[mid]?=some (.map m (hN km)))(e:km.length<=M){X:List bE}(bp:∀ks:List bE,ks.Perm (rS km)->(Sort.sort pf ks.toArray).toList=X) :
  bn ν aB 109 [.fn 131 [.ptr id 0],.fn 111 []] H fun r _=>P3 X r:=by
 have n:M=1099511627776:=rfl;have t:=aCi d U e;have b:∃(r:AV)(a:List ax),(km=[]/\r=.aV 3/\a=H)\/(km≠[]/\∃ks:List bE,ks.Perm (rS km)/\r=.bs H.length 0 ks.length 3/\a=H++[.buf 132 (fA ks),.dead]):=by
  by_cases h:km=[]
  ·exact⟨_,_,.inl ⟨h,rfl,rfl⟩⟩
  ·exact⟨_,_,.inr ⟨h,_,.refl _,rfl,rfl⟩⟩
 have vQ:=fun a=>aCc a;have f:∀ks:List bE,H++[.buf 132 (fA ks),.dead]=wb 132 (H++[.dead,.dead]) H.length ks:=fun ks=>by simp[wb]
 have g:H.length<(H++[ax.dead,ax.dead]).length:=by simp
 have i:∀ks:List bE,ks.Perm (rS km)->bn ν aB 130 [.bs H.length 0 ks.length 3,.fn 111 []] (H++[.buf 132 (fA ks),.dead]) fun r a=>r=.a8 []/\∃y,a=wb 132 ((H++[.dead,.dead])++y) H.length X:=fun ks ao=>by
  have:=aCd g (l:=ks) rfl (by have:=ao.length_eq;simp only[rS,I9]at this;omega);rw[bp ks ao,<-f]at this;exact this
 have c:∀ks:List bE,ks.Perm (rS km)->X.length=ks.length:=fun ks ao=>by
  have:=(Sort.sort_sorts pf zL ks.toArray).1.1;rw[<-bp ks ao];simpa using this
 have j:∀y,(wb 132 ((H++[.dead,.dead])++y) H.length X)[H.length]?=some (.buf 132 (fA X)):=fun y=>PD (by rw[fM];omega);refine bn.intro (D:=gk) att ?_;unfold Zi
 (repeat' first|simp(disch:=first|exact aq|fail) only[go_sem,j]|(apply av<;>intro)|(refine iW ⟨t,b⟩ ?_;(rintro r a (⟨hk,rfl,rfl⟩|⟨hk,ks,ao,rfl,rfl⟩)))|refine b6 (vQ _) ?_|(refine aey (i ks ao) ?_;(intro o);(have p:=c ks ao);(have k:=ao.length_eq);(simp only[rS,I9]at k)))
 ·refine⟨_,rfl,.inl ⟨?_,rfl⟩⟩;exact aIJ.1 (c [] (by rw[hk];exact .refl _))
 ·exact⟨_,rfl,.inr rfl⟩
open Enc (enc)
noncomputable def P4:List kX:=[(79,fO fun(l:List aU)=>enc (gP l)),
 (80,fO fun(l:List aU)=>enc (jY l)),
 (81,fO fun(x:bE)=>enc (if x.neg then(1:Int)else 0))]
noncomputable def nL:bc:=jV gk (fT P4)
instance aHX{D:bc}[h:bq D nL]:bq D gk:=h.nA
theorem ae3:gC nL ([79,80,81]++([103,105,104,76,75,78]++([46,18,17,19,6]++([64]++([96]++([51]++([23,16]++([45]++([43,126,107,77,106]++[58,88,120,94,57,40,71,99,101,25,7,74]))))))))):=gC.or aeq (nB P4)
variable {f:Nat}{F:List AV->Option AV}
theorem P5(h:∀xs,fT P4 f xs=F xs)(hk:(([103,105,104,76,75,78]++([46,18,17,19,6]++([64]++([96]++([51]++([23,16]++([45]++([43,126,107,77,106]++[58,88,120,94,57,40,71,99,101,25,7,74])))))))):List Nat).contains f=false:=by rfl):∀xs,nL f xs=F xs:=fun xs=>by rw[<-h];exact mS aeq hk
variable {D:bc}{x1:AV}{l:List aU}{K:AV->Prop}{tg:aM K}
theorem aCk[bq D nL][aT x1 l](h:aF ν aB 79 [enc l] (enc (gP l))):bT ν aB D 79 [x1] K tg=K (enc (gP l)):=gN (D':=nL) (F:=fun(l:List aU)=>enc (gP l)) (P5 fun _=>rfl) h
theorem aCl[bq D nL][aT x1 l](h:aF ν aB 80 [enc l] (enc (jY l))):bT ν aB D 80 [x1] K tg=K (enc (jY l)):=gN (D':=nL) (F:=fun(l:List aU)=>enc (jY l)) (P5 fun _=>rfl) h
variable {x:bE}
theorem aCm[bq D nL][aT x1 x](h:aF ν aB 81 [enc x] (enc (if x.neg then(1:Int)else 0))):bT ν aB D 81 [x1] K tg=K (enc (if x.neg then(1:Int)else 0)):=gN (D':=nL) (F:=fun(x:bE)=>enc (if x.neg then(1:Int)else 0)) (P5 fun _=>rfl) h
theorem aCn(h:H[mid]?=some (.map m (cb AV.bool km)))(b:km.length<=M)(bp:∀ks:List aj,ks.Perm (b2 km)->(Sort.sort mn ks.toArray).toList=X) :
  bn ν aB 108 [.map mid] H fun r _=>E9 X r:=by
 have hm:mid<H.length:=(List.getElem?_eq_some_iff.1 h).1;have c:=aCe H mid;have d:=aCg (H:=H++[.cells [.map mid]]) (id:=H.length) (mid:=mid) (by simp) (by rw[dp hm];exact h) b bp;have a:∃(r:AV)(e:List ax),E9 X r:=⟨_,[],.inr rfl⟩;refine bn.intro (D:=gk) ats ?_;unfold Zg
 (repeat' first|simp(disch:=first|exact aq|fail) only[go_sem]|(apply av<;>intro)|refine b6 c ?_|(refine iW ⟨d,a⟩ ?_;(rintro r e (⟨hk,rfl⟩|rfl))))
 ·exact⟨_,rfl,.inl ⟨hk,rfl⟩⟩
 ·exact⟨_,rfl,.inr rfl⟩
variable {r:AV}
theorem ae4(h:E9 X r):bQ r (enc X):=by
 rcases h with⟨rfl,rfl⟩|rfl
 ·exact(aT.aV (α:=aj)).kB
 ·exact bQ.disown _ _ _
theorem ae5{X:List bE}(h:P3 X r):bQ r (enc X):=by
 rcases h with⟨rfl,rfl⟩|rfl
 ·exact(aT.aV (α:=bE)).kB
 ·exact bQ.disown _ _ _
def ke(l:List aU):List aj:=l.flatMap fun r=>r.head.name::r.body.map fun x=>x.atom.name
variable {i:Nat}
theorem P6(h:i<l.length):ke (l.take (i+1))=ke (l.take i)++(l[i]!.head.name::l[i]!.body.map fun x=>x.atom.name):=by
 rw[bZ h,ke,aIO];simp[ke]
theorem aCo(l:List aU)(ae:∀r∈l,r.body.length<=M)(J:(ke l).length<=M)(L:l.length<=M):aF ν aB 79 [enc l] (enc (gP l)):=by
 have O:M=1099511627776:=rfl;refine aF.jl (D:=nL) as3 (by simp only[aB8,aB9,Enc.arg,aIC]) (Enc.res _) (Enc.jP _) ?_;unfold Yj
 (repeat' first|simp(disch:=first|exact aq|fail) only[go_sem]|(apply av<;>intro))
 refine b9 (fun p:Nat×Nat×List (aj×Bool)=>⟨N [(3,.v (.map 0)),(9,.v (enc l)),(10,.v (enc l.length)),(11,.v (enc p.1))],[.map p.2.1 (cb AV.bool p.2.2)]⟩)
  (fun p=>p.1<=l.length/\(b2 p.2.2).Nodup/\(∀x,x∈b2 p.2.2↔x∈ke (l.take p.1))/\p.2.2.length<=(ke (l.take p.1)).length) (fun p=>l.length-p.1) (0,0,[]) ⟨LW _,List.nodup_nil,fun x=>by simp[b2,ke],LW _⟩ (by(try simp(disch:=first|exact aq|fail) only[go_sem])<;>(first|rfl|(simp(disch:=first|exact a6|fail) only[cj,aHk,aHV,Env.ins,cE,cF,cG,cH,cI,cJ,cK,cL,I.b8,I9,aHW,aIA,aIB,ae0,bZ,aeZ,aB5,TH,cS,cT,go_sem,cb];try rfl))) ?_
 rintro⟨i,n,km⟩ ⟨y,b,c,v⟩;simp only at y b c v;rcases Ja i l.length with h|h
 ·have z:=ae l[i]! (ft h);obtain⟨B,fl⟩:∃B,B=l[i]!.body:=⟨_,rfl⟩;obtain⟨hd,a⟩:∃hd,hd=l[i]!.head.name:=⟨_,rfl⟩;rw[<-fl]at z
  (repeat' first|simp(disch:=first|exact aq|fail) only[go_sem,<-fl,<-a]|(apply av<;>intro))
  refine b9 (fun p:Nat×Nat×List (aj×Bool)=>⟨N [(3,.v (.map 0)),(9,.v (enc l)),(10,.v (enc l.length)),(11,.v (enc i)),(20,.v (enc B)),(21,.v (enc B.length)),(22,.v (enc p.1))],[.map p.2.1 (cb AV.bool p.2.2)]⟩)
   (fun p=>p.1<=B.length/\(b2 p.2.2).Nodup/\(∀x,x∈b2 p.2.2↔x∈ke (l.take i)++(hd::(B.take p.1).map fun x=>x.atom.name))/\p.2.2.length<=(ke (l.take i)).length+1+p.1) (fun p=>B.length-p.1) (0,kD n km hd,fz km hd true)
   ⟨LW _,zo b _ _,fun x=>by simp only[acF,c,ae0,TH,aIK,List.mem_singleton];exact or_comm,by simp only[acG];split<;>omega⟩ (by(try simp(disch:=first|exact aq|fail) only[go_sem])<;>(exact bG)) ?_
  rintro⟨j,d,g⟩ ⟨A,k,o,C⟩;simp only at A k o C;rcases Ja j B.length with w|w
  ·(repeat' first|simp(disch:=first|exact aq|fail) only[go_sem]|(apply av<;>intro))
   refine⟨(j+1,kD d g B[j]!.atom.name,fz g B[j]!.atom.name true),⟨by simp only;omega,zo k _ _,fun x=>?_,?_⟩,by simp only;omega,by(exact bG)⟩
   ·simp only[acF,o,bZ w,aeZ,aB5,TH,aIK,List.mem_cons,List.not_mem_nil,or_false];constructor
    ·rintro(h|h|h|h)<;>simp only[h,true_or,or_true]
    ·rintro(h|h|h|h)<;>simp only[h,true_or,or_true]
   ·simp only[acG];split<;>omega
  ·obtain rfl:j=B.length:=by omega
   (repeat' first|simp(disch:=first|exact aq|fail) only[go_sem]|(apply av<;>intro))
   refine⟨(i+1,d,g),⟨by simp only;omega,k,fun x=>?_,?_⟩,by simp only;omega,by(exact bG)⟩
   ·simp only[o,P6 h,<-fl,<-a,aIF]
   ·simp only[P6 h,<-fl,fM,aID,I9];omega
 ·obtain rfl:i=l.length:=by omega
  rw[aIF]at c v;have bp:∀ks:List aj,ks.Perm (b2 (lL km hW))->(Sort.sort mn ks.toArray).toList=gP l:=fun ks ao=>PU (ao.nodup_iff.2 (Ot b _)) fun x=>by
   rw[ao.mem_iff];have:=Ou b hW x;have q:=getM_none (l:=lL km hW) (s:=x);have d:=getM_none (l:=km) (s:=x);have e:pb l=(ke l).filter fun s=>!(s==hW):=rfl;rw[e,List.mem_filter,<-c x];by_cases ah:x=hW
   ·rw[if_pos ah]at this;subst ah;simp[q.1 this]
   ·rw[if_neg ah]at this;rw[this]at q;have:x∈b2 (lL km hW)↔x∈b2 km:=by
     rw[<-Decidable.not_iff_not,<-q,d]
    simp[this,ah]
  have E:(lL km hW).length<=M:=Nat.le_trans (Oq.length_le) (by omega);have t:=aCn (H:=[.map n (cb AV.bool (lL km hW))]) (mid:=0) rfl E bp;have u:∃(r:AV)(G:List ax),E9 (gP l) r:=⟨_,[],.inr rfl⟩
  (repeat' first|simp(disch:=first|exact aq|fail) only[go_sem]|(apply av<;>intro)|(refine iW ⟨t,u⟩ ?_;(rintro r G (⟨hk,rfl⟩|rfl))))
  ·exact⟨_,rfl,ae4 (.inl ⟨hk,rfl⟩)⟩
  ·exact⟨_,rfl,ae4 (.inr rfl)⟩
open Enc (enc)
theorem aCp[bq D nL][aT x1 l](a:∀r∈l,r.body.length<=M)(U:(ke l).length<=M)(b:l.length<=M) :bT ν aB D 79 [x1] K tg=K (enc (gP l)):=aCk (aCo l a U b)
attribute [go_sem ↓ 2000] aCp
def xV(hd:aj)(B:List Lit):List bE:=(B.filter fun x=>!(x.atom.name==hW)).map fun x=>⟨hd,x.atom.name,x.neg⟩
theorem aCq(h:i<l.length):jr (l.take (i+1))=jr (l.take i)++(if l[i]!.head.name==hW then[]else xV l[i]!.head.name l[i]!.body):=by
 rw[bZ h,jr,List.filter_append,aIO];obtain⟨R,dN⟩:∃R,R=l[i]!:=⟨_,rfl⟩;rw[<-dN];cases a:R.head.name==hW<;>simp only[jr,xV,List.filter_cons,List.filter_nil,a,Bool.not_true,aIP,aIE,if_true,if_false,List.flatMap_nil,List.flatMap_cons,aIG]
theorem aCr{hd:aj}{B:List Lit}{j:Nat}(h:j<B.length):xV hd (B.take (j+1))=xV hd (B.take j)++(if B[j]!.atom.name==hW then[]else[⟨hd,B[j]!.atom.name,B[j]!.neg⟩]):=by
 rw[bZ h,xV,List.filter_append,aeZ];obtain⟨R,dN⟩:∃R,R=B[j]!:=⟨_,rfl⟩;rw[<-dN];cases a:R.atom.name==hW<;>simp only[xV,List.filter_cons,List.filter_nil,a,Bool.not_true,aIP,aIE,if_true,if_false,TH,aB5,aIG]
theorem aCs(l:List aU)(ae:∀r∈l,r.body.length<=M)(P:(ke l).length<=M)(Q:l.length<=M):aF ν aB 80 [enc l] (enc (jY l)):=by
 have S:M=1099511627776:=rfl;refine aF.jl (D:=nL) as4 (by simp only[aB8,aB9,Enc.arg,aIC]) (Enc.res _) (Enc.jP _) ?_;unfold Yn
 (repeat' first|simp(disch:=first|exact aq|fail) only[go_sem]|(apply av<;>intro))
 refine b9 (fun p:Nat×Nat×List bE=>⟨N [(3,.v (.map 0)),(9,.v (enc l)),(10,.v (enc l.length)),(11,.v (enc p.1))],[.map p.2.1 (hN p.2.2)]⟩)
  (fun p=>p.1<=l.length/\p.2.2.Nodup/\(∀x,x∈p.2.2↔x∈jr (l.take p.1))/\p.2.2.length<=(ke (l.take p.1)).length) (fun p=>l.length-p.1) (0,0,[]) ⟨LW _,List.nodup_nil,fun x=>by simp[jr],LW _⟩ (by(try simp(disch:=first|exact aq|fail) only[go_sem])<;>(first|rfl|(simp(disch:=first|exact a6|fail) only[cj,aHk,aHV,Env.ins,cE,cF,cG,cH,cI,cJ,cK,cL,I.b8,I9,aHW,aIA,aIB,ae0,bZ,aeZ,aB5,TH,cS,cT,go_sem,hN];try rfl))) ?_
 rintro⟨i,n,km⟩ ⟨C,g,b,A⟩;simp only at C g b A;rcases Ja i l.length with h|h
 ·have E:=ae l[i]! (ft h);have c:=aCq h;have s:=P6 h;obtain⟨R,dN⟩:∃R,R=l[i]!:=⟨_,rfl⟩;rw[<-dN]at E c s;cases k:R.head.name==[100,105,115,116,105,110,99,116]with
  |true =>
   (repeat' first|simp(disch:=first|exact aq|fail) only[go_sem,<-dN,k]|(apply av<;>intro))
   refine⟨(i+1,n,km),⟨by simp only;omega,g,fun x=>?_,?_⟩,by simp only;omega,by(exact bG)⟩
   ·have:(R.head.name==hW)=true:=k;simp only[b,c,this,if_true,aIG]
   ·simp only[s,fM];omega
  |false =>
   have u:(R.head.name==hW)=false:=k;rw[u]at c;simp only[aIE,if_false]at c
   (repeat' first|simp(disch:=first|exact aq|fail) only[go_sem,<-dN,k]|(apply av<;>intro))
   refine b9 (fun p:Nat×Nat×List bE=>⟨N [(3,.v (.map 0)),(5,.b [.str R.head.name,.list none 2 (R.head.args.map I.enc),.list none 3 (R.body.map Lit.enc)]),(9,.v (enc l)),(10,.v (enc l.length)),(11,.v (enc i)),(20,.v (enc R.body)),(21,.v (enc R.body.length)),(22,.v (enc p.1))],[.map p.2.1 (hN p.2.2)]⟩)
    (fun p=>p.1<=R.body.length/\p.2.2.Nodup/\(∀x,x∈p.2.2↔x∈jr (l.take i)++xV R.head.name (R.body.take p.1))/\p.2.2.length<=(ke (l.take i)).length+p.1) (fun p=>R.body.length-p.1) (0,n,km)
    ⟨LW _,g,fun x=>by simp only[b,ae0,xV,List.filter_nil,TH,aIG],by simp only;omega⟩ (by(try simp(disch:=first|exact aq|fail) only[go_sem])<;>(exact bG)) ?_
   rintro⟨j,v,d⟩ ⟨G,o,e,J⟩;simp only at G o e J;rcases Ja j R.body.length with B|B
   ·have a:=aCr (hd:=R.head.name) B;cases q:R.body[j]!.atom.name==[100,105,115,116,105,110,99,116]with
    |true =>
     have w:(R.body[j]!.atom.name != [100,105,115,116,105,110,99,116])=false:=by rw[bne,q];rfl
     have y:(R.body[j]!.atom.name==hW)=true:=q;rw[y]at a;simp only[if_true,aIG]at a
     (repeat' first|simp(disch:=first|exact aq|fail) only[go_sem,w]|(apply av<;>intro))
     refine⟨(j+1,v,d),⟨by simp only;omega,o,fun x=>?_,?_⟩,by simp only;omega,by(exact bG)⟩
     ·simp only[e,a]
     ·simp only;omega
    |false =>
     have w:(R.body[j]!.atom.name != [100,105,115,116,105,110,99,116])=true:=by rw[bne,q];rfl
     have y:(R.body[j]!.atom.name==hW)=false:=q;rw[y]at a;simp only[aIE,if_false]at a
     (repeat' first|simp(disch:=first|exact aq|fail) only[go_sem,w]|(apply av<;>intro))
     refine⟨(j+1,E6 v d ⟨R.head.name,R.body[j]!.atom.name,R.body[j]!.neg⟩,s4 d ⟨R.head.name,R.body[j]!.atom.name,R.body[j]!.neg⟩),⟨by simp only;omega,aBN o _,fun x=>?_,?_⟩,by simp only;omega,by(exact bG)⟩
     ·simp only[aBM,e,a,aIK,List.mem_cons,List.not_mem_nil,or_false];constructor
      ·rintro(h|h|h)<;>simp only[h,true_or,or_true]
      ·rintro(h|h|h)<;>simp only[h,true_or,or_true]
     ·have:=aBO d ⟨R.head.name,R.body[j]!.atom.name,R.body[j]!.neg⟩;simp only;omega
   ·obtain rfl:j=R.body.length:=by omega
    rw[aIF]at e
    (repeat' first|simp(disch:=first|exact aq|fail) only[go_sem]|(apply av<;>intro))
    refine⟨(i+1,v,d),⟨by simp only;omega,o,fun x=>?_,?_⟩,by simp only;omega,by(exact bG)⟩
    ·simp only[e,c]
    ·simp only[s,fM,aID,I9];omega
 ·obtain rfl:i=l.length:=by omega
  rw[aIF]at b A;have bp:∀ks:List bE,ks.Perm (rS km)->(Sort.sort pf ks.toArray).toList=jY l:=fun ks ao=>PV (ao.nodup_iff.2 g) fun x=>by
   rw[ao.mem_iff];exact b x
  have L:=aCh [.map n (hN km)] 0;have t:=aCj (H:=[.map n (hN km)]++[.cells [.map 0]]) (id:=1) (mid:=0) (m:=n) (km:=km) rfl rfl (by omega) bp;have z:∃(r:AV)(O:List ax),P3 (jY l) r:=⟨_,[],.inr rfl⟩
  (repeat' first|simp(disch:=first|exact aq|fail) only[go_sem]|(apply av<;>intro)|refine b6 L ?_|(refine iW ⟨t,z⟩ ?_;(rintro r O (⟨hk,rfl⟩|rfl))))
  ·exact⟨_,rfl,ae5 (.inl ⟨hk,rfl⟩)⟩
  ·exact⟨_,rfl,ae5 (.inr rfl)⟩
theorem aCu[bq D nL][aT x1 l](a:∀r∈l,r.body.length<=M)(U:(ke l).length<=M)(b:l.length<=M) :bT ν aB D 80 [x1] K tg=K (enc (jY l)):=aCl (aCs l a U b)
attribute [go_sem ↓ 2000] aCu
theorem aCv(x:bE):aF ν aB 81 [enc x] (enc (if x.neg then(1:Int)else 0)):=by
 refine aF.intro (D:=nL) as5 fp fg ?_;unfold Yp;simp(disch:=first|exact aq|fail) only[go_sem];cases x.neg;all_goals (repeat' first|simp(disch:=first|exact aq|fail) only[go_sem]|(apply av<;>intro))
 all_goals rfl
theorem aCw[bq D nL][aT x1 x]  :bT ν aB D 81 [x1] K tg=K (enc (if x.neg then(1:Int)else 0)):=aCm (aCv x)
attribute [go_sem ↓ 2000] aCw
open Enc (enc)
noncomputable def Qa:List kX:=[(47,fO fun(l:List aU)=>p7 l),
 (48,jo fun(ls:List eu)(s:aj)=>enc (ml (ls.map fun x=>(x.name,x.level)) s))]
noncomputable def mZ:bc:=jV nL (fT Qa)
instance aHY{D:bc}[h:bq D mZ]:bq D nL:=h.nA
theorem afm:gC mZ ([47,48]++([79,80,81]++([103,105,104,76,75,78]++([46,18,17,19,6]++([64]++([96]++([51]++([23,16]++([45]++([43,126,107,77,106]++[58,88,120,94,57,40,71,99,101,25,7,74])))))))))):=gC.or ae3 (nB Qa)
theorem afn(h:∀xs,fT Qa f xs=F xs)(hk:(([79,80,81]++([103,105,104,76,75,78]++([46,18,17,19,6]++([64]++([96]++([51]++([23,16]++([45]++([43,126,107,77,106]++[58,88,120,94,57,40,71,99,101,25,7,74]))))))))):List Nat).contains f=false:=by rfl):∀xs,mZ f xs=F xs:=fun xs=>by rw[<-h];exact mS ae3 hk
theorem aCM[bq D mZ][aT x1 l](h:aF ν aB 47 [enc l] (p7 l)):bT ν aB D 47 [x1] K tg=K (p7 l):=gN (D':=mZ) (F:=fun(l:List aU)=>p7 l) (afn fun _=>rfl) h
variable {x2:AV}{ls:List eu}{s:aj}
theorem aCN[bq D mZ][aT x1 ls][aT x2 s](h:aF ν aB 48 [enc ls,enc s] (enc (ml (ls.map fun x=>(x.name,x.level)) s))):bT ν aB D 48 [x1,x2] K tg=K (enc (ml (ls.map fun x=>(x.name,x.level)) s)):=lI (D':=mZ) (F:=fun(ls:List eu)(s:aj)=>enc (ml (ls.map fun x=>(x.name,x.level)) s)) (afn fun _=>rfl) h
theorem aCO(c:l.length<=128)(U:∀r∈l,r.body.length<=8):(ke l).length<=1152:=by
 have:=Po (f:=fun r:aU=>r.head.name::r.body.map fun x=>x.atom.name) (b:=9) l (fun r a=>by have:=U r a;simp;omega);unfold ke;omega
theorem aCP(l:List aU):(jY l).length<=(jr l).length:=by
 have key:∀(m acc:List bE),(m.foldl (fun acc x=>vX x acc) acc).length<=acc.length+m.length:=fun m=>by
  induction m with
  |nil=>intro acc;simp|cons x r ih =>
   intro acc;have b:=ih (vX x acc);have U:∀a:List bE,(vX x a).length<=a.length+1:=fun a=>by
    induction a with
    |nil=>simp[vX]|cons y q c=>rw[vX];split<;>(try split)<;>simp only[aID]<;>omega
   have:=U acc;simp only[List.foldl_cons,aID];omega
 simpa[jY]using key (jr l) []
theorem aCQ(l:List aU):(jr l).length<=(ke l).length:=by
 induction l with
 |nil=>simp[jr]|cons r q ih =>
  have a:(ke (r::q)).length=1+r.body.length+(ke q).length:=by simp[ke];omega
  have b:(jr (r::q)).length<=r.body.length+(jr q).length:=by
   simp only[jr,List.filter_cons];split
   ·simp only[List.flatMap_cons,fM,I9];have:=List.length_filter_le (fun x:Lit=>!(x.atom.name==hW)) r.body;omega
   ·omega
  omega
theorem afo(l:List aU)(Y:l.length<=128)(U:∀r∈l,r.body.length<=8):aF ν aB 47 [enc l] (p7 l):=by
 have dh:M=1099511627776:=rfl;have ae:∀r∈l,r.body.length<=M:=fun r Z=>by have:=U r Z;omega
 have l2:(ke l).length<=M:=by have:=aCO Y U;omega
 obtain⟨R,dN⟩:=aCA l;have E:s0 l=R.map fun o=>(gP l).map fun s=>(s,lP o s):=by unfold s0;rw[dN];rfl
 have G:=Pp U;have h5:(jY l).length<=M:=Nat.le_trans (aCP l) (by have:=aCQ l;omega);obtain⟨b,J⟩:∃b,b=gP l:=⟨_,rfl⟩;obtain⟨a,w⟩:∃a,a=jY l:=⟨_,rfl⟩;obtain⟨n,aL⟩:∃n,n=b.length:=⟨_,rfl⟩;rw[<-J,<-aL]at dN;rw[<-J]at G E;rw[<-w]at dN h5;refine aF.jl (D:=mZ) asK (by simp only[aB8,aB9,Enc.arg,aIC]) (by unfold p7;split<;>rfl) (by unfold p7;split<;>exact fun _ _ _ h=>by cases h) ?_;unfold Xa
 (repeat' first|simp(disch:=first|exact aq|fail) only[go_sem,<-J,<-w]|(apply av<;>intro))
 refine b9 (fun p:Bool×Nat×Nat×List (aj×Int)=>⟨N [(4,.v (enc b)),(5,.v (enc a)),(6,.v (.map 0)),(7,.v (.bool p.1))],[.map p.2.2.1 (cb (AV.int .i64) p.2.2.2)]⟩)
  (fun p=>wg n p.2.2.2/\(p.1=true->sZ n a p.2.1 p.2.2.2=some R)/\(p.1=false->R=some p.2.2.2)) (fun p=>if p.1 then p.2.1+1 else 0) (true,n*n+2,0,[]) ⟨afd _,fun _=>dN,fun h=>by cases h⟩ (by(try simp(disch:=first|exact aq|fail) only[go_sem])<;>(first|rfl|(simp(disch:=first|exact a6|fail) only[cj,aHk,aHV,Env.ins,cE,cF,cG,cH,cI,cJ,cK,cL,I.b8,I9,aHW,aIA,aIB,ae0,bZ,aeZ,aB5,TH,cS,cT,go_sem,cb];try rfl))) ?_
 rintro⟨p2,f,v,o⟩ ⟨T,g,A⟩;simp only at T g A;cases p2 with
 |true =>
  replace g:=g rfl
  cases f with
  |zero=>cases g|succ f =>
  rw[sZ]at g;have key:∀(y:Bool)(B:List (aj×Int)),pc n a o false=some (B,y)->(y=true->sZ n a f B=some R)/\(y=false->R=some B):=fun y B h=>by
   rw[h]at g;cases y with
   |true=>exact⟨fun _=>g,fun h=>(by cases h)⟩|false=>exact⟨fun h=>(by cases h),fun _=>(Option.some.inj g).symm⟩
  have L:pc n a o false=none->R=none:=fun h=>by
   rw[h]at g;exact(Option.some.inj g).symm
  clear g
  (repeat' first|simp(disch:=first|exact aq|fail) only[go_sem]|(apply av<;>intro))
  refine b9 (fun p:Nat×Nat×List (aj×Int)×Bool=>⟨N [(4,.v (enc b)),(5,.v (enc a)),(6,.v (.map 0)),(7,.v (.bool p.2.2.2)),(20,.v (enc a)),(21,.v (enc a.length)),(22,.v (enc p.1))],[.map p.2.1 (cb (AV.int .i64) p.2.2.1)]⟩)
   (fun p=>p.1<=a.length/\pc n (a.drop p.1) p.2.2.1 p.2.2.2=pc n a o false/\wg n p.2.2.1) (fun p=>a.length-p.1) (0,v,o,false) ⟨LW _,rfl,T⟩ (by(try simp(disch:=first|exact aq|fail) only[go_sem])<;>(exact bG)) ?_
  rintro⟨j,O,q,P⟩ ⟨dM,c,t⟩;simp only at dM c t;rcases Ja j a.length with C|C
  ·rw[fY C]at c;obtain⟨e,he⟩:∃e,e=a[j]!:=⟨_,rfl⟩;rw[<-he]at c;obtain⟨d,hd⟩:∃d,d=(if e.neg=true then(1:Int)else 0):=⟨_,rfl⟩;have z:=ae9 t e;obtain⟨u,Q⟩:∃u,u=zH q e:=⟨_,rfl⟩;have S:lP q e.dst+d=u:=by rw[Q,hd];rfl
   rw[<-Q]at z;rw[pc,<-Q]at c;have jj:=t e.src;have qu:=t e.dst;by_cases V:lP q e.src<u
   ·rw[if_pos V]at c;by_cases W:u>=(n:Int)
    ·rw[if_pos W]at c;have G:R=none:=L c.symm
     (repeat' first|simp(disch:=first|exact aq|fail) only[go_sem,<-he,<-hd,S,Jb]|(apply av<;>intro))
     refine⟨_,rfl,?_⟩;rw[p7,E,G];exact bQ.a8 (.cons (bQ.aV _) (.cons (bQ.refl _) .nil))
    ·rw[if_neg W]at c
     (repeat' first|simp(disch:=first|exact aq|fail) only[go_sem,<-he,<-hd,S,Jb]|(apply av<;>intro))
     exact⟨(j+1,kD O q e.src,fz q e.src u,true),⟨by simp only;omega,c,afa t z.1 (by omega)⟩,by simp only;omega,by(exact bG)⟩
   ·rw[if_neg V]at c
    (repeat' first|simp(disch:=first|exact aq|fail) only[go_sem,<-he,<-hd,S,Jb]|(apply av<;>intro))
    exact⟨(j+1,O,q,P),⟨by simp only;omega,c,t⟩,by simp only;omega,by(exact bG)⟩
  ·obtain rfl:j=a.length:=by omega
   rw[aIL (Nat.le_refl _),pc]at c;obtain⟨cY,c4⟩:=key P q c.symm
   (repeat' first|simp(disch:=first|exact aq|fail) only[go_sem]|(apply av<;>intro))
   exact⟨(P,f,O,q),⟨t,cY,c4⟩,by simp only;split<;>simp,by(exact bG)⟩
 |false =>
  replace A:=A rfl
  (repeat' first|simp(disch:=first|exact aq|fail) only[go_sem]|(apply av<;>intro))
  refine b9 (fun k:Nat=>⟨N [(6,.v (.map 0)),(11,.v (.list (some 96) 2 ((b.take k).map fun s=>(eu.mk s (lP o s)).enc))),(48,.v (enc b)),(49,.v (enc b.length)),(50,.v (enc k))],[.map v (cb (AV.int .i64) o)]⟩)
   (fun k=>k<=b.length) (fun k=>b.length-k) 0 (LW _) (by(try simp(disch:=first|exact aq|fail) only[go_sem])<;>(exact bG)) ?_
  intro k hk;rcases Ja k b.length with C|C
  ·have sQ:(b.take k).length=k:=by rw[List.length_take];omega
   (repeat' first|simp(disch:=first|exact aq|fail) only[go_sem,Jb,I9,sQ]|(apply av<;>intro))
   exact⟨k+1,by omega,by omega,by(first|rfl|(simp(disch:=first|exact a6|fail) only[cj,aHk,aHV,Env.ins,cE,cF,cG,cH,cI,cJ,cK,cL,I.b8,I9,aHW,aIA,aIB,ae0,bZ,aeZ,aB5,TH,cS,cT,go_sem,eu.enc];try rfl))⟩
  ·obtain rfl:k=b.length:=by omega
   rw[aIF]
   (repeat' first|simp(disch:=first|exact aq|fail) only[go_sem]|(apply av<;>intro))
   refine⟨_,rfl,?_⟩;rw[p7,E,A];simp only[aIM,aII];exact bQ.a8 (.cons (by first|exact bQ.refl _|exact bQ.disown _ _ _) (.cons (bQ.refl _) .nil))
open Enc (enc)
theorem aCS[bq D mZ][aT x1 l](a:l.length<=128)(U:∀r∈l,r.body.length<=8) :bT ν aB D 47 [x1] K tg=K (p7 l):=aCM (afo l a U)
attribute [go_sem ↓ 2000] aCS
theorem aCT(x:eu)(s:aj):bn ν aB 83 [enc x,.db [.str s]] H fun r H'=>r=.bool (x.name==s)/\H'=H:=by
 refine bn.intro (D:=mZ) as7 ?_;unfold Yu
 (repeat' first|simp(disch:=first|exact aq|fail) only[go_sem]|(apply av<;>intro))
 exact⟨_,rfl,by first|exact⟨rfl,rfl⟩|rfl⟩
theorem aCU(s:aj)(l:List eu)(b:l.length<=M) :
  bn ν aB 82 [enc l,.fn 83 [.db [.str s]]] H fun r H'=>r=.int .i64 (k0 (fun x:eu=>x.name==s) l)/\H'=H:=by
 have c:M=1099511627776:=rfl;refine bn.intro (D:=mZ) as6 ?_;unfold Ys
 (repeat' first|simp(disch:=first|exact aq|fail) only[go_sem]|(apply av<;>intro))
 refine b9 (fun i:Nat=>⟨N [(0,.v (enc l)),(1,.v (.fn 83 [.db [.str s]])),(7,.v (enc l.length)),(8,.v (enc i))],H⟩) (fun i=>i<=l.length/\jq (fun x:eu=>x.name==s) (l.drop i) i=k0 (fun x:eu=>x.name==s) l) (fun i=>l.length-i) 0 ⟨LW _,rfl⟩ (by(try simp(disch:=first|exact aq|fail) only[go_sem])<;>(exact bG)) ?_;rintro i ⟨d,a⟩;rcases Ja i l.length with ak|ak
 ·have hd:=aCT (H:=H) l[i]! s;rw[fY ak,jq]at a;cases ao:l[i]!.name==s with
  |true =>
   rw[ao]at hd a
   (repeat' first|simp(disch:=first|exact aq|fail) only[go_sem,iV]|(apply av<;>intro)|refine b6 hd ?_)
   exact⟨_,rfl,by rw[<-a];rfl⟩
  |false =>
   rw[ao]at hd a
   (repeat' first|simp(disch:=first|exact aq|fail) only[go_sem,iV]|(apply av<;>intro)|refine b6 hd ?_)
   exact⟨i+1,⟨by omega,a⟩,by omega,by(exact bG)⟩
 ·rw[aIL (by omega),jq]at a
  (repeat' first|simp(disch:=first|exact aq|fail) only[go_sem]|(apply av<;>intro))
  exact⟨_,rfl,by rw[<-a]⟩
theorem aCV(ls:List eu)(s:aj)(c:ls.length<=M):aF ν aB 48 [enc ls,enc s] (enc (ml (ls.map fun x=>(x.name,x.level)) s)):=by
 have g:M=1099511627776:=rfl;have t:=aCU (H:=[]) s ls c;have hk:=aff s ls 0;rcases hk with⟨b,a⟩|⟨k,b,a,d⟩
 ·have e:k0 (fun x:eu=>x.name==s) ls = -1:=b;rw[a];rw[e]at t;refine aF.intro (D:=mZ) aaq fp fg ?_;unfold M5;simp(disch:=first|exact aq|fail) only[go_sem]
  (repeat' first|simp(disch:=first|exact aq|fail) only[go_sem]|(apply av<;>intro)|refine b6 t ?_)
  all_goals rfl
 ·have e:k0 (fun x:eu=>x.name==s) ls=(k:Int):=by rw[k0,a];congr 1;omega
  rw[d];rw[e]at t;refine aF.intro (D:=mZ) aaq fp fg ?_;unfold M5;simp(disch:=first|exact aq|fail) only[go_sem]
  (repeat' first|simp(disch:=first|exact aq|fail) only[go_sem]|(apply av<;>intro)|refine b6 t ?_)
  all_goals rfl
theorem aCW[bq D mZ][aT x1 ls][aT x2 s](h:ls.length<=M) :bT ν aB D 48 [x1,x2] K tg=K (enc (ml (ls.map fun x=>(x.name,x.level)) s)):=aCN (aCV ls s h)
attribute [go_sem ↓ 2000] aCW
theorem afr(l:List aU)(R:l.length<=128)(U:∀r∈l,r.body.length<=8):aF ν aB 18 [enc l] (qS l):=by
 have dh:M=1099511627776:=rfl;have aHZ:=afo l R U;cases cg:s0 l with
 |none =>
  have e:p7 l=.a8 [.list none 2 [],.int .i64 10]:=by unfold p7;rw[cg]
  have v:qS l=.a8 [.list none 1 [],.int .i64 10]:=by unfold qS kd;rw[cg];rfl
  rw[v];refine aF.jl (D:=mZ) aak (by simp only[aB8,aB9,Enc.arg,aIC]) rfl (fun _ _ _ h=>by cases h) ?_;unfold MW
  (repeat' first|simp(disch:=first|exact aq|fail) only[go_sem,e]|(apply av<;>intro))
  exact⟨_,rfl,bQ.a8 (.cons (bQ.aV _) (.cons (bQ.refl _) .nil))⟩
 |some a =>
  obtain⟨jb,z⟩:∃jb:List eu,jb=a.map fun p=>eu.mk p.1 p.2:=⟨_,rfl⟩;have e:p7 l=.a8 [.list none 2 (jb.map eu.enc),.int .i64 0]:=by unfold p7;rw[cg,z,aII];rfl
  have j:(jb.map fun x=>(x.name,x.level))=a:=by rw[z,aII];simp[Function.comp_def]
  obtain⟨S,dg⟩:∃S,S=(vY a+1).toNat:=⟨_,rfl⟩;obtain⟨lv,T⟩:∃lv:Nat->Int,lv=fun i=>ml a l[i]!.head.name:=⟨_,rfl⟩;have v:qS l=.a8 [.list none 1 ((List.range S).map fun n=>s3 (mY lv l.length n)),.int .i64 0]:=by unfold qS kd;rw[cg,dg,T];simp only[aII];rfl
  rw[v];refine aF.jl (D:=mZ) aak (by simp only[aB8,aB9,Enc.arg,aIC]) rfl (fun _ _ _ h=>by cases h) ?_;unfold MW
  (repeat' first|simp(disch:=first|exact aq|fail) only[go_sem,e]|(apply av<;>intro))
  have EV:=(P9 a (-1)).1;have A:vY a+1=(S:Int):=by have : -1<=vY a:=EV;omega
  have aH0:S<=100000:=by
   have:=aeh R U;unfold kd at this;rw[cg]at this;simp only[I9,List.length_range]at this;omega
  obtain⟨b,B⟩:∃b:Nat->Int,b=fun i=>(jb.take i).foldl (fun m x=>max m x.level) (-1):=⟨_,rfl⟩;have ko:b 0 = -1:=by rw[B];rfl
  have iw:∀i,i<jb.length->max (b i) jb[i]!.level=b (i+1):=fun i ak=>by
   rw[B];simp only[bZ ak,List.foldl_append,List.foldl_cons,List.foldl_nil]
  have Cv:b jb.length=vY a:=by
   rw[B,<-j];simp only[aIF,vY,List.foldl_map]
  have tY:jb.length<=M:=by
   have ah:=cg;unfold s0 at ah;rw[Option.map_eq_some_iff]at ah;obtain⟨x,_,ah⟩:=ah;have:=Pp U;rw[z,<-ah,I9,I9];omega
  refine b9 (fun i:Nat=>⟨N [(0,.v (enc l)),(4,.v (enc jb)),(6,.v (.int .i64 (b i))),(21,.v (enc jb)),(22,.v (enc jb.length)),(23,.v (enc i))],[]⟩) (fun i=>i<=jb.length) (fun i=>jb.length-i) 0 (LW _) (by(try simp(disch:=first|exact aq|fail) only[go_sem])<;>(first|rfl|(simp(disch:=first|exact a6|fail) only[cj,aHk,aHV,Env.ins,cE,cF,cG,cH,cI,cJ,cK,cL,I.b8,I9,aHW,aIA,aIB,ae0,bZ,aeZ,aB5,TH,cS,cT,go_sem,ko];try rfl))) ?_;intro i ak;rcases Ja i jb.length with h|h
  ·have H5:=iw i h
   (repeat' first|simp(disch:=first|exact aq|fail) only[go_sem,H5]|(apply av<;>intro))
   exact⟨i+1,by omega,by omega,by(exact bG)⟩
  obtain rfl:i=jb.length:=by omega
  have lq:(List.replicate S [AV.aV 1]).flatten=kf 3 lv S 0:=by rw[afl,aCD]
  (repeat' first|simp(disch:=first|exact aq|fail) only[go_sem,Cv,A,lq]|(apply av<;>intro))
  refine b9 (fun k:Nat=>⟨N [(4,.v (enc jb)),(9,.v (.bs 0 0 S 1)),(35,.v (enc l)),(36,.v (enc l.length)),(37,.v (enc k))],[.buf 54 (kf 3 lv S k),.dead]⟩) (fun k=>k<=l.length) (fun k=>l.length-k) 0 (LW _) (by(try simp(disch:=first|exact aq|fail) only[go_sem])<;>(exact bG)) ?_;intro k hk;rcases Ja k l.length with aZ|aZ
  ·have o:ml a l[k]!.head.name=lv k:=by rw[T]
   have C:=aCK a l[k]!.head.name;rw[o]at C;rcases Int.lt_or_le (lv k) 0 with V|V
   ·(repeat' first|simp(disch:=first|exact aq|fail) only[go_sem,j,o]|(apply av<;>intro))
    exact⟨k+1,by omega,by omega,by(first|rfl|(simp(disch:=first|exact a6|fail) only[cj,aHk,aHV,Env.ins,cE,cF,cG,cH,cI,cJ,cK,cL,I.b8,I9,aHW,aIA,aIB,ae0,bZ,aeZ,aB5,TH,cS,cT,go_sem,aCB V];try rfl))⟩
   ·obtain⟨w,G⟩:∃w:Nat,lv k=(w:Int):=⟨(lv k).toNat,by omega⟩;have d:w<S:=by omega
    have eK:=aCL lv k w;obtain⟨W,hb⟩:∃c,c=ui 3 (mY lv k w):=⟨_,rfl⟩;have J:=aCJ 3 (mY lv k w);have L:=P8 (e:=3) (lv:=lv) (k:=k) d;have q:=aCC (e:=3) (lv:=lv) (k:=k) G d;rw[<-hb]at J L;obtain⟨O,Y⟩:∃O,O=(mY lv k w).map p3:=⟨_,rfl⟩;have wO:O.length<=128:=by rw[Y,I9];omega
    rw[<-Y]at J q;have g:(kf 3 lv S k).length=S:=Fb _ _ _ _;obtain⟨cs,ic⟩:∃cs,cs=kf 3 lv S k:=⟨_,rfl⟩;rw[<-ic]at L g q ⊢;have u:=aCG (e:=54) L;have Z:∀(E:Env)(H:List ax)(x:AV),sL E H 0 w [x] (some (.buf 54 cs))=some ⟨E,H.set 0 (.buf 54 (cs.set w x))⟩:=fun E H x=>afi (by omega);have qC:∀(E:Env)(H:List ax)(x y:AV),sL E H 0 w [x] (some (.buf 54 (cs.set w y)))=some ⟨E,H.set 0 (.buf 54 (cs.set w x))⟩:=fun E H x y=>by rw[afi (by rw[List.length_set];omega),List.set_set]
    rcases J with⟨P,kR⟩|P
    ·rw[P]at u
     (repeat' first|simp(disch:=first|exact aq|fail) only[go_sem,j,o,G,u,Z,qC,List.set_cons_zero,aIQ]|(apply av<;>intro))
     exact⟨k+1,by omega,by omega,by(first|rfl|(simp(disch:=first|exact a6|fail) only[cj,aHk,aHV,Env.ins,cE,cF,cG,cH,cI,cJ,cK,cL,I.b8,I9,aHW,aIA,aIB,ae0,bZ,aeZ,aB5,TH,cS,cT,go_sem,q,kR,p3];try rfl))⟩
    ·rw[P]at u
     (repeat' first|simp(disch:=first|exact aq|fail) only[go_sem,j,o,G,u,Z,qC,List.set_cons_zero,aIQ]|(apply av<;>intro))
     exact⟨k+1,by omega,by omega,by(first|rfl|(simp(disch:=first|exact a6|fail) only[cj,aHk,aHV,Env.ins,cE,cF,cG,cH,cI,cJ,cK,cL,I.b8,I9,aHW,aIA,aIB,ae0,bZ,aeZ,aB5,TH,cS,cT,go_sem,q,p3];try rfl))⟩
  obtain rfl:k=l.length:=by omega
  have EK:∀(Q:Env)(H:List ax)(t id:Nat),o7 Q H t 54 1 id S 1 (some (.buf 54 (kf 3 lv S l.length)))=some ⟨N ((t,.v (.list (some 54) 1 ((kf 3 lv S l.length).map AV.aW)))::Q),H.set id .dead⟩:=fun Q H t id=>aCH ⟨Fb _ _ _ _,by omega⟩ (aCI _ _ _ _)
  (repeat' first|simp(disch:=first|exact aq|fail) only[go_sem,EK,aIQ]|(apply av<;>intro))
  exact⟨_,rfl,bQ.a8 (.cons (aCF _ _ _ _ _) (.cons (bQ.refl _) .nil))⟩
open Enc (enc)
theorem Fc(l:List aU)(b:List I)(hd:∀r∈l,∀a∈fU r,c0 a<=1000000)(dg:(fq l b).isSome=true):aF ν aB 6 [enc l,enc b] (nK (fq l b)) :=
 aA6 l b (fun r c=>PB r (hd r c)) (fun h=>afr l (zJ h).1 fun r c=>((zJ h).2 r c).b) dg
def k6(l:List I):List I:=l.foldl mg []
theorem aft(l:List I)(a:I):k6 (l++[a])=mg (k6 l) a:=by rw[k6,List.foldl_append];rfl
theorem Qh:∀l:List I,(k6 l).length<=l.length:=fun l=>by
 have key:∀(l acc:List I),(l.foldl mg acc).length<=acc.length+l.length:=fun l=>by
  induction l with
  |nil=>intro acc;simp|cons a r ih=>intro acc;have:=ih (mg acc a);have:=aec acc a;simp only[List.foldl_cons,aID];omega
 simpa[k6]using key l []
def rT(eZ da x k b:Nat)(acc:List I)(H:List ax):Prop:=H[eZ]?=some (.cells [.bool (acc.any fun a=>decide (4<c0 a))])/\H[da]?=some (.cells [.ptr x 0])/\gq 30 H x k b (k6 acc)
def l7(eZ da x k b:Nat)(i:Nat):Prop:=i=eZ\/i=da\/i=x\/i=k\/i=b
variable {eZ da x k b:Nat}{acc:List I}
theorem rT.ne(h:rT eZ da x k b acc H):eZ<H.length/\eZ≠da/\eZ≠x/\eZ≠k/\eZ≠b/\da≠x/\da≠k/\da≠b:=by
 obtain⟨a,U,n,m,km,bj,c,dy⟩:=h;have ah:=c.ah;have hk:=c.hk;have ae:=c.ae
 refine⟨dd a,fun e=>?_,fun e=>?_,fun e=>?_,fun e=>?_,fun e=>?_,fun e=>?_,fun e=>?_⟩
 ·rw[e,U]at a;cases a
 ·rw[e,ah]at a;cases a
 ·rw[e,hk]at a;cases a
 ·rw[e,ae]at a;cases a
 ·rw[e,ah]at U;cases U
 ·rw[e,hk]at U;cases U
 ·rw[e,ae]at U;cases U
variable {n:Nat}{bj:List (aj×List I)}
theorem rT.set(h:rT eZ da x k b acc H)(v:Bool){km:List (aj×I)}(a:tX 30 H x k b n m km bj):tX 30 (H.set eZ (.cells [.bool v])) x k b n m km bj:=by
 obtain⟨g,j,c,d,e,_⟩:=h.ne;exact⟨by rw[b5 c];exact a.ah,by rw[b5 d];exact a.hk,by rw[b5 e];exact a.ae,a.cc⟩
theorem rT.put(h:rT eZ da x k b acc H)(a:I){km:List (aj×I)}(g:tX 30 H x k b n m km bj)(dy:iZ km bj (k6 acc)) :
  rT eZ da x k b (acc++[a]) (qO 30 (H.set eZ (.cells [.bool ((acc++[a]).any fun a=>decide (4<c0 a))])) k b n m km bj (k6 acc) a)/\lN (l7 eZ da x k b) H (qO 30 (H.set eZ (.cells [.bool ((acc++[a]).any fun a=>decide (4<c0 a))])) k b n m km bj (k6 acc) a):=by
 have j:=h;obtain⟨o,p,z,q,t,A,u,v⟩:=h.ne;obtain⟨B,U,_⟩:=h;obtain⟨w,y,c⟩:=gq.add (j.set ((acc++[a]).any fun a=>decide (4<c0 a)) g) dy a;refine⟨⟨?_,?_,by rw[aft];exact w⟩,?_,fun i ak d=>?_⟩
 ·rw[c eZ q t,dD o]
 ·rw[c da u v,b5 p];exact U
 ·rw[y];simp
 ·rw[c i (fun e=>d (.inr (.inr (.inr (.inl e))))) (fun e=>d (.inr (.inr (.inr (.inr e))))),b5 (fun e=>d (.inl e.symm))]
variable {a:I}
theorem aCY(g:rT eZ da x k b acc H)(j:ct 8 a true=true)(w:acc.length+1<=M) :
  bn ν aB 42 [a.enc,.ptr eZ 0,.ptr da 0] H fun r H'=>r=.a8 []/\rT eZ da x k b (acc++[a]) H'/\lN (l7 eZ da x k b) H H':=by
 have y:M=1099511627776:=rfl;have o:=g;obtain⟨z,A,B,C,E,G,J,L⟩:=g.ne;obtain⟨e,U,n,m,km,bj,p,dy⟩:=g;have t:=BS j (Nat.le_refl _);have O:=IV j;have P:=Qh acc;have q:=fun v=>Io (o.set v p) dy a t (by omega);obtain⟨c,d⟩:=o.put a p dy;have h:((acc++[a]).any fun a=>decide (4<c0 a))=((acc.any fun a=>decide (4<c0 a))||decide ((c0 a:Int)>4)):=by
  have u:decide ((c0 a:Int)>4)=decide (4<c0 a):=by rw[aIN];simp;omega
  rw[List.any_append,List.any_cons,List.any_nil,Bool.or_false,u]
 rw[h]at c d;refine bn.intro (D:=ir) asH ?_;unfold WX;cases hd:acc.any fun a=>decide (4<c0 a)with
 |true =>
  rw[hd]at e c d
  (repeat' first|simp(disch:=first|exact aq|fail) only[go_sem,U,e]|(apply av<;>intro)|refine b6 (q _) ?_)
  exact⟨_,rfl,rfl,c,d⟩
 |false =>
  rw[hd]at e c d;rw[Bool.false_or]at c d
  (repeat' first|simp(disch:=first|exact aq|fail) only[go_sem,U,e]|(apply av<;>intro)|refine b6 (q _) ?_)
  exact⟨_,rfl,rfl,c,d⟩
theorem aC0(eZ da x k b jX:Nat)(g:jX<=M):zB 42 [.ptr eZ 0,.ptr da 0] (l7 eZ da x k b) (rT eZ da x k b) (fun a=>ct 8 a true=true) jX:=by
 refine⟨fun acc H a t c j=>⟨aCY c j (by omega),by have o:=c;obtain⟨_,_,n,m,km,bj,d,dy⟩:=c;exact⟨_,_,rfl,o.put a d dy⟩⟩,fun acc H u c h=>?_,rfl,fun acc H i c p=>?_⟩
 ·obtain⟨e,U,q⟩:=c;exact⟨by rw[h eZ (.inl rfl)];exact e,by rw[h da (.inr (.inl rfl))];exact U,q.of (h x (.inr (.inr (.inl rfl)))) (h k (.inr (.inr (.inr (.inl rfl))))) (h b (.inr (.inr (.inr (.inr rfl)))))⟩
 ·obtain⟨e,U,n,m,km,bj,d,dy⟩:=c;rcases p with rfl|rfl|rfl|rfl|rfl
  ·exact dd e
  ·exact dd U
  ·exact dd d.ah
  ·exact dd d.hk
  ·exact dd d.ae
theorem afu(l:List I):∀a∈k6 l,a∈l:=by
 have key:∀(l acc:List I),∀a∈l.foldl mg acc,a∈acc\/a∈l:=fun l=>by
  induction l with
  |nil=>intro acc a h;exact .inl h|cons x r ih =>
   intro acc a h;rcases ih _ a h with h|h
   ·unfold mg at h;split at h
    ·exact .inl h
    ·rcases aIK.1 h with h|h
     ·exact .inl h
     ·rw[List.mem_singleton]at h;exact .inr (by rw[h];exact List.mem_cons_self ..)
   ·exact .inr (List.mem_cons_of_mem _ h)
 intro a h;rcases key l [] a h with h|h
 ·cases h
 ·exact h
def rU(a:I):Bool:=ct 4 a true&&fo a.name
def rV(a:I):Bool:=rU a&&ct 4 a false
def xX(l:List aU)(atoms:List I):List I×Nat :=
 if hY l≠0 then([],hY l)else if 512<atoms.length then([],13)else if !(atoms.all rV)then([],13)
 else if k3 (en l (k6 atoms))then([],3)else if 512<(k6 (en l (k6 atoms))).length then([],11)else(fu (k6 (en l (k6 atoms))),0)
noncomputable def Qi:List kX:=[(36,fO fun(a:I)=>enc (rU a)),
 (14,jo fun(l:List aU)(a:List I)=>nK (some (xX l a)))]
noncomputable def qU:bc:=jV mZ (fT Qi)
instance aH2{D:bc}[h:bq D qU]:bq D mZ:=h.nA
theorem afv:gC qU ([36,14]++([47,48]++([79,80,81]++([103,105,104,76,75,78]++([46,18,17,19,6]++([64]++([96]++([51]++([23,16]++([45]++([43,126,107,77,106]++[58,88,120,94,57,40,71,99,101,25,7,74]))))))))))):=gC.or afm (nB Qi)
theorem afw(h:∀xs,fT Qi f xs=F xs)(hk:(([47,48]++([79,80,81]++([103,105,104,76,75,78]++([46,18,17,19,6]++([64]++([96]++([51]++([23,16]++([45]++([43,126,107,77,106]++[58,88,120,94,57,40,71,99,101,25,7,74])))))))))):List Nat).contains f=false:=by rfl):∀xs,qU f xs=F xs:=fun xs=>by rw[<-h];exact mS afm hk
theorem aC1[bq D qU][aT x1 a](h:aF ν aB 36 [enc a] (enc (rU a))):bT ν aB D 36 [x1] K tg=K (enc (rU a)):=gN (D':=qU) (F:=fun(a:I)=>enc (rU a)) (afw fun _=>rfl) h
theorem aC2[bq D qU]{a:List I}[aT x1 l][aT x2 a](h:aF ν aB 14 [enc l,enc a] (nK (some (xX l a)))):bT ν aB D 14 [x1,x2] K tg=K (nK (some (xX l a))):=lI (D':=qU) (F:=fun(l:List aU)(a:List I)=>nK (some (xX l a))) (afw fun _=>rfl) h
theorem aC3(a:I):aF ν aB 36 [enc a] (enc (rU a)):=by
 unfold rU;refine aF.intro (D:=qU) asC fp fg ?_;unfold WK;simp(disch:=first|exact aq|fail) only[go_sem];cases c:ct 4 a true<;>cases d:fo a.name;all_goals (repeat' first|simp(disch:=first|exact aq|fail) only[go_sem,c,d]|(apply av<;>intro))
 all_goals rfl
theorem aC4[bq D qU][aT x1 a]  :bT ν aB D 36 [x1] K tg=K (enc (rU a)):=aC1 (aC3 a)
attribute [go_sem ↓ 2000] aC4
theorem aC5(l:List aU)(c:List I)(hd:∀r∈l,∀a∈fU r,c0 a<=1000000)(IZ:(en l (k6 c)).length<=1000000):aF ν aB 14 [enc l,enc c] (nK (some (xX l c))):=by
 refine aF.zf fun ep eh=>?_;obtain⟨ep,_⟩:=ep;obtain⟨eh,_⟩:=eh;have dh:M=1099511627776:=rfl;have pC:=ael l (fun r aw=>PB r (hd r aw));have G:=fun{K:AV->Prop}{tg:aM K}=>aek (D:=qU) (K:=K) (tg:=tg) (x1:=enc l) pC;have EY:(enc l:AV)=.list none 3 (l.map aU.enc):=rfl;rw[EY]at G;obtain⟨z,d⟩:∃z,z=xX l c:=⟨_,rfl⟩;rw[<-d];refine aF.jl (D:=qU) asl (by simp only[aB8,aB9,Enc.arg,aIC]) (by rfl) (fun _ _ _ h=>by cases h) ?_;unfold VN;unfold xX at d;rcases aIR (hY l)with h1|h1
 ·rw[if_neg (by omega)]at d;have Q:((hY l:Nat):Int)=0:=by omega
  obtain⟨Ps,EZ⟩:=zJ h1;rcases Ja 512 c.length with U|U
  ·rw[if_pos U]at d
   (repeat' first|simp(disch:=first|exact aq|fail) only[go_sem,G,Q]|(apply av<;>intro))
   rw[d];exact⟨_,rfl,ue 13⟩
  ·rw[if_neg (by omega)]at d
   (repeat' first|simp(disch:=first|exact aq|fail) only[go_sem,G,Q]|(apply av<;>intro)|refine b6 (OQ []) ?_)
   refine b9 (fun q:Nat×List ax=>⟨N [(0,.v (enc l)),(7,.b [.ptr 2 0]),(24,.v (enc c)),(25,.v (enc c.length)),(26,.v (enc q.1))],q.2⟩)
    (fun q=>q.1<=c.length/\gq 30 q.2 2 0 1 (k6 (c.take q.1))/\(∀a∈c.take q.1,rV a=true)) (fun q=>c.length-q.1) (0,[ax.map 0 [],ax.map 0 [],ax.cells [AV.map 0,AV.map 1]])
    ⟨LW _,⟨0,0,[],[],⟨rfl,rfl,rfl,by decide⟩,iZ.nil⟩,fun a h=>(by simp at h)⟩ (by(try simp(disch:=first|exact aq|fail) only[go_sem])<;>(exact bG)) ?_
   rintro⟨i,H⟩ ⟨i1,u,A⟩;simp only at i1 u A;rcases Ja i c.length with ak|ak
   ·cases B:rV c[i]! with
    |true =>
     have Ff:=B;simp only[rV,aIS]at Ff;obtain⟨C,J⟩:=Ff;obtain⟨n,m,km,bj,g,dy⟩:=u;have ry:=Qh (c.take i);rw[List.length_take]at ry;have pa:=Io g dy c[i]! (BS J (by omega)) (by omega);obtain⟨b0,dt,eW⟩:=gq.add g dy c[i]!;obtain⟨R,vR⟩:∃R,R=qO 30 H 0 1 n m km bj (k6 (c.take i)) c[i]!:=⟨_,rfl⟩;rw[<-vR]at pa b0
     (repeat' first|simp(disch:=first|exact aq|fail) only[go_sem,C,J]|(apply av<;>intro)|refine b6 pa ?_)
     exact⟨(i+1,R),⟨by simp only;omega,by simp only;rw[bZ ak,aft];exact b0,fun a aE=>by
      rw[bZ ak,aIK,List.mem_singleton]at aE;rcases aE with aE|aE
      ·exact A a aE
      ·rw[aE];exact B⟩,by simp only;omega,by(exact bG)⟩
    |false =>
     have V:c.all rV=false:=by rw[List.all_eq_false];exact⟨_,ft ak,by rw[B];simp⟩
     rw[V]at d;simp only[aIP,if_true]at d;rw[d];cases C:rU c[i]! with
     |false =>
      (repeat' first|simp(disch:=first|exact aq|fail) only[go_sem,C]|(apply av<;>intro))
      exact⟨_,rfl,ue 13⟩
     |true =>
      have J:ct 4 c[i]! false=false:=by rw[rV,C,Bool.true_and]at B;exact B
      (repeat' first|simp(disch:=first|exact aq|fail) only[go_sem,C,J]|(apply av<;>intro))
      exact⟨_,rfl,ue 13⟩
   ·have sT:c.take i=c:=aIT (by omega);rw[sT]at u A;have V:c.all rV=true:=List.all_eq_true.2 A;rw[V]at d;simp only[Bool.not_true,aIE,if_false]at d;obtain⟨S,dg⟩:∃S,S=k6 c:=⟨_,rfl⟩;rw[<-dg]at d u IZ;have Jd:iq S:=fun a aE=>by
     rw[dg]at aE;have:=A a (afu c a aE);simp only[rV,aIS]at this;exact this.2
    have BU:S.length<=100000:=by rw[dg];have:=Qh c;omega
    have vT:2<H.length:=by obtain⟨_,_,_,_,g,_⟩:=u;exact dd g.ah
    (repeat' first|simp(disch:=first|exact aq|fail) only[go_sem,fM,aID,aIH]|(apply av<;>intro)|refine b6 (OQ H) ?_)
    have xM:((H++[ax.map 0 []]++[ax.map 0 []]++[ax.cells [AV.map H.length,AV.map (H.length+1)]]++[ax.cells [AV.eP]]++[ax.cells [AV.bool false]]).set (H.length+1+1+1) (ax.cells [AV.ptr (H.length+2) 0])).set (H.length+1+1+1+1) (ax.cells [AV.bool false])=H++[.map 0 [],.map 0 [],.cells [.map H.length,.map (H.length+1)],.cells [.ptr (H.length+2) 0],.cells [.bool false]]:=by
     rw[show H++[ax.map 0 []]++[ax.map 0 []]++[ax.cells [AV.map H.length,AV.map (H.length+1)]]++[ax.cells [AV.eP]]++[ax.cells [AV.bool false]]=H++[ax.map 0 [],ax.map 0 [],ax.cells [AV.map H.length,AV.map (H.length+1)],ax.cells [AV.eP],ax.cells [AV.bool false]] by simp];rw[List.set_append_right _ _ (by omega),List.set_append_right _ _ (by omega),show H.length+1+1+1-H.length=3 by omega,show H.length+1+1+1+1-H.length=4 by omega];rfl
    rw[xM];obtain⟨v,L⟩:∃v,v=H++[ax.map 0 [],.map 0 [],.cells [.map H.length,.map (H.length+1)],.cells [.ptr (H.length+2) 0],.cells [.bool false]]:=⟨_,rfl⟩;rw[<-L];have Ph:rT (H.length+4) (H.length+3) (H.length+2) H.length (H.length+1) [] v:=by
     rw[L];exact⟨by simp,by simp,0,0,[],[],⟨by simp,by simp[cb],by simp[cb],by omega⟩,iZ.nil⟩
    have DE:∀i,i<H.length->v[i]?=H[i]?:=fun i ak=>by rw[L];exact dp ak
    have BV:v.length=H.length+5:=by rw[L];simp
    refine b9 (fun q:Nat×List ax=>⟨N [(7,.b [.ptr 2 0]),(10,.v (.ptr (H.length+3) 0)),(11,.v (.ptr (H.length+4) 0)),(44,.v (enc l)),(45,.v (enc l.length)),(46,.v (enc q.1))],q.2⟩)
     (fun q=>q.1<=l.length/\rT (H.length+4) (H.length+3) (H.length+2) H.length (H.length+1) (en (l.take q.1) S) q.2/\H.length+5<=q.2.length/\∀i,i<H.length->q.2[i]?=H[i]?) (fun q=>l.length-q.1) (0,v) ⟨LW _,Ph,by simp only;omega,DE⟩ (by(try simp(disch:=first|exact aq|fail) only[go_sem])<;>(exact bG)) ?_
    rintro⟨i,H1⟩ ⟨dM,O,dx,E⟩;simp only at dM O dx E;have IW:gq 30 H1 2 0 1 S:=u.of (E 2 (by omega)) (E 0 (by omega)) (E 1 (by omega));rcases Ja i l.length with ak|ak
    ·have zF:=EZ _ (ft ak);have vd:en (l.take (i+1)) S=en (l.take i) S++o9 S l[i]!:=by rw[en,bZ ak,aIO];simp[en]
     have k2:(en (l.take i) S++o9 S l[i]!).length<=1000000:=by
      rw[<-vd];have e:en l S=en (l.take (i+1)) S++en (l.drop (i+1)) S:=by rw[en,en,en,<-aIO,List.take_append_drop]
      rw[e,fM]at IZ;omega
     have af:=adF (r:=l[i]!) (aC0 (H.length+4) (H.length+3) (H.length+2) H.length (H.length+1) 1000000 (by omega)) (fun j o=>by rcases o with o|o|o|o|o<;>omega) (ad0 Jd BU zF) (by have:=zF.b;omega) IW O ⟨.nil,fun k hk=>(by cases hk),fun p ao=>(by cases ao)⟩ k2
     (repeat' first|simp(disch:=first|exact aq|fail) only[go_sem]|(apply av<;>intro)|(refine iW af ?_;(rintro sW dS ⟨rfl,P,f2⟩)))
     exact⟨(i+1,dS),⟨by simp only;omega,by simp only;rw[vd];exact P,by have:=f2.1;simp only;omega,fun j o=>(f2.2 j (by omega) (fun w=>by rcases w with w|w|w|w|w<;>omega)).trans (E j o)⟩,by simp only;omega,by(exact bG)⟩
    ·have bw:l.take i=l:=aIT (by omega);rw[bw]at O;obtain⟨y,P,cU⟩:=O;obtain⟨n,m,km,bj,g,dy⟩:=cU;have ah:=g.ah;have hk:=g.hk
     have W:=dy.len;have Y:((en l S).any fun a=>decide (4<c0 a))=k3 (en l S):=rfl;rw[Y]at y;cases Z:k3 (en l S)with
     |true =>
      rw[Z]at y d;rw[if_pos rfl]at d;rw[d]
      (repeat' first|simp(disch:=first|exact aq|fail) only[go_sem,y]|(apply av<;>intro))
      exact⟨_,rfl,ue 3⟩
     |false =>
      rw[Z]at y d;simp only[aIE,if_false]at d;obtain⟨T,dL⟩:∃T,T=k6 (en l S):=⟨_,rfl⟩;rw[<-dL]at d W dy;rcases Ja 512 T.length with ai|ai
      ·rw[if_pos ai]at d;rw[d]
       (repeat' first|simp(disch:=first|exact aq|fail) only[go_sem,y,P,ah,hk,zn,W]|(apply av<;>intro))
       exact⟨_,rfl,ue 11⟩
      ·rw[if_neg (by omega)]at d;have tm:=ada (H:=H1) ⟨n,m,km,bj,g,dy⟩ (by omega);have Px:(fu T).length<=100000/\jz (fu T)<=100000:=⟨by have:=Od T;omega,Es fun t ay=>by
        have:=EU EZ Jd Z (afu _ _ (by rw[<-dL];exact(oi _ _).1 ay));have:=EP this;omega⟩
       rw[d]
       (repeat' first|simp(disch:=first|exact aq|fail) only[go_sem,y,P,ah,hk,zn,W]|(apply av<;>intro)|refine b6 tm ?_)
       exact⟨_,rfl,bQ.refl _⟩
 ·rw[if_pos (by omega)]at d;have Q:((hY l:Nat):Int)≠0:=by omega
  (repeat' first|simp(disch:=first|exact aq|fail) only[go_sem,G]|(apply av<;>intro))
  rw[d];exact⟨_,rfl,ue _⟩
open Enc (enc)
def xY(l:List I)(t:I):Bool:=decide (jU l t<l.length)&&(cf l[jU l t]! t==0)
def findF(l:List I)(t:I):Int:=if xY l t then(jU l t:Int)else -1
def rW(r:Option (List I×Nat))(a:I):Bool×Nat:=if !rV a then(false,13)else match r with
 |none=>(false,0)|some (A,e)=>if e≠0 then(false,e)else(xY A a,0)
noncomputable def Qj:List kX:=[(44,jo fun(l:List I)(t:I)=>enc (findF l t)),
 (15,rI fun(l:List aU)(g:List I)(a:I)=>.a8 [.bool (rW (fq l g) a).1,.int .i64 (rW (fq l g) a).2])]
noncomputable def mo:bc:=jV qU (fT Qj)
instance aH3{D:bc}[h:bq D mo]:bq D qU:=h.nA
theorem Je:gC mo ([44,15]++([36,14]++([47,48]++([79,80,81]++([103,105,104,76,75,78]++([46,18,17,19,6]++([64]++([96]++([51]++([23,16]++([45]++([43,126,107,77,106]++[58,88,120,94,57,40,71,99,101,25,7,74])))))))))))):=gC.or afv (nB Qj)
theorem afy(h:∀xs,fT Qj f xs=F xs)(hk:(([36,14]++([47,48]++([79,80,81]++([103,105,104,76,75,78]++([46,18,17,19,6]++([64]++([96]++([51]++([23,16]++([45]++([43,126,107,77,106]++[58,88,120,94,57,40,71,99,101,25,7,74]))))))))))):List Nat).contains f=false:=by rfl):∀xs,mo f xs=F xs:=fun xs=>by rw[<-h];exact mS afv hk
variable {l:List I}{t:I}
theorem aC7[bq D mo][aT x1 l][aT x2 t](h:aF ν aB 44 [enc l,enc t] (enc (findF l t))):bT ν aB D 44 [x1,x2] K tg=K (enc (findF l t)):=lI (D':=mo) (F:=fun(l:List I)(t:I)=>enc (findF l t)) (afy fun _=>rfl) h
variable {x3:AV}
theorem aC8[bq D mo]{l:List aU}{g:List I}[aT x1 l][aT x2 g][aT x3 a](h:aF ν aB 15 [enc l,enc g,enc a] (.a8 [.bool (rW (fq l g) a).1,.int .i64 (rW (fq l g) a).2])):bT ν aB D 15 [x1,x2,x3] K tg=K (.a8 [.bool (rW (fq l g) a).1,.int .i64 (rW (fq l g) a).2]):=D6 (D':=mo) (F:=fun(l:List aU)(g:List I)(a:I)=>.a8 [.bool (rW (fq l g) a).1,.int .i64 (rW (fq l g) a).2]) (afy fun _=>rfl) h
theorem aC9(l:List I)(t:I)(v:l.length<=M) :
  bn ν aB 70 [enc l,enc t,.fn 71 []] H fun r H'=>r=.a8 [.int .i64 (jU l t),.bool (xY l t)]/\H'=H:=by
 have w:M=1099511627776:=rfl;refine bn.intro (D:=mo) asX ?_;unfold XX
 (repeat' first|simp(disch:=first|exact aq|fail) only[go_sem]|(apply av<;>intro))
 refine b9 (fun p:Nat×Nat=>⟨N [(0,.v (enc l)),(2,.v (.fn 71 [])),(4,.v (.db [.str t.name,.list none 2 (t.args.map I.enc)])),(8,.v (enc l.length)),(9,.v (enc p.1)),(10,.v (enc p.2))],H⟩)
  (fun p=>p.1<=p.2/\p.2<=l.length/\mR l t l.length p.1 p.2=jU l t) (fun p=>p.2-p.1) (0,l.length) ⟨LW _,Nat.le_refl _,rfl⟩ (by(try simp(disch:=first|exact aq|fail) only[go_sem])<;>(exact bG)) ?_
 rintro⟨bh,ak⟩ ⟨o,q,c⟩;simp only at o q c;rcases Ja bh ak with h|h
 ·obtain⟨m,hm⟩:∃m,m=(bh+ak) / 2:=⟨_,rfl⟩;have d:m<l.length:=by omega
  have ah:l[(bh+ak) / 2]?=some l[m]!:=by rw[<-hm,List.getElem?_eq_getElem d,getElem!_pos l m d]
  have az:=aa3 l t (f:=l.length) (by omega) h ah;rw[<-hm]at az;have e:((bh:Int)+(ak:Int)) / 2=(m:Int):=by omega
  rcases Int.lt_or_le (cf l[m]! t) 0 with g|g
  ·rw[if_pos g]at az
   (repeat' first|simp(disch:=first|exact aq|fail) only[go_sem,e,iV]|(apply av<;>intro)|refine pV ?_)
   exact⟨(m+1,ak),⟨by simp only;omega,by simp only;omega,az.symm.trans c⟩,by simp only;omega,by(exact bG)⟩
  ·rw[if_neg (by omega)]at az
   (repeat' first|simp(disch:=first|exact aq|fail) only[go_sem,e,iV]|(apply av<;>intro)|refine pV ?_)
   exact⟨(bh,m),⟨by simp only;omega,by simp only;omega,az.symm.trans c⟩,by simp only;omega,by(exact bG)⟩
 ·have ao:jU l t=bh:=by rw[<-c,Br l t (by omega)]
  rw[ao];have u:xY l t=(decide (bh<l.length)&&(cf l[bh]! t==0)):=by rw[xY,ao]
  rw[u];rcases Ja bh l.length with j|j
  ·rw[decide_eq_true j,Bool.true_and]
   (repeat' first|simp(disch:=first|exact aq|fail) only[go_sem,iV]|(apply av<;>intro)|refine pV ?_)
   exact⟨_,rfl,by first|exact⟨rfl,rfl⟩|rfl⟩
  ·rw[decide_eq_false (by omega),Bool.false_and]
   (repeat' first|simp(disch:=first|exact aq|fail) only[go_sem,iV]|(apply av<;>intro)|refine pV ?_)
   exact⟨_,rfl,by first|exact⟨rfl,rfl⟩|rfl⟩
theorem aDa(l:List I)(t:I)(d:l.length<=M):aF ν aB 44 [enc l,enc t] (enc (findF l t)):=by
 have e:M=1099511627776:=rfl;have ae:=aC9 (H:=[]) l t d;unfold findF;cases c:xY l t with
 |true =>
  rw[c]at ae;refine aF.intro (D:=mo) aao fp fg ?_;unfold M3;simp(disch:=first|exact aq|fail) only[go_sem]
  (repeat' first|simp(disch:=first|exact aq|fail) only[go_sem]|(apply av<;>intro)|refine b6 ae ?_)
  all_goals rfl
 |false =>
  rw[c]at ae;refine aF.intro (D:=mo) aao fp fg ?_;unfold M3;simp(disch:=first|exact aq|fail) only[go_sem]
  (repeat' first|simp(disch:=first|exact aq|fail) only[go_sem]|(apply av<;>intro)|refine b6 ae ?_)
  all_goals rfl
theorem aDb[bq D mo][aT x1 l][aT x2 t](h:l.length<=M) :bT ν aB D 44 [x1,x2] K tg=K (enc (findF l t)):=aC7 (aDa l t h)
attribute [go_sem ↓ 2000] aDb
theorem aDc(l:List I)(t:I):decide (findF l t>=0)=xY l t:=by
 unfold findF;cases xY l t<;>simp
theorem aDd(l:List aU)(g:List I)(a:I)(hd:∀r∈l,∀a∈fU r,c0 a<=1000000)(dg:(fq l g).isSome=true)(d:∀A e,fq l g=some (A,e)->A.length<=M) :
  aF ν aB 15 [enc l,enc g,enc a] (.a8 [.bool (rW (fq l g) a).1,.int .i64 (rW (fq l g) a).2]):=by
 have w:M=1099511627776:=rfl;have q:=Fc l g hd dg;obtain⟨⟨A,e⟩,dN⟩:=Option.isSome_iff_exists.1 dg;rw[dN]at q ⊢;have y:=d A e dN;have h:=fun{K:AV->Prop}{tg:aM K}=>EX (D:=mo) (K:=K) (tg:=tg) (x1:=enc l) (x2:=enc g) (l:=l) (a:=g) (by rw[dN];exact q);have v:(enc l:AV)=.list none 3 (l.map aU.enc):=rfl;have o:(enc g:AV)=.list none 2 (g.map I.enc):=rfl;rw[v,o,dN]at h;simp only[nK]at h;unfold rW;have p:=aDc A a;cases aA:rV a with
 |false =>
  simp only[aIP,if_true];refine aF.intro (D:=mo) Nr fp fg ?_;unfold HJ;simp(disch:=first|exact aq|fail) only[go_sem];cases c:rU a with
  |false =>
   (repeat' first|simp(disch:=first|exact aq|fail) only[go_sem,c]|(apply av<;>intro))
   all_goals rfl
  |true =>
   have j:ct 4 a false=false:=by rw[rV,c,Bool.true_and]at aA;exact aA
   (repeat' first|simp(disch:=first|exact aq|fail) only[go_sem,c,j]|(apply av<;>intro))
   all_goals rfl
 |true =>
  have u:=aA;simp only[rV,aIS]at u;obtain⟨c,j⟩:=u;simp only[Bool.not_true,aIE,if_false];rcases aIR e with he|he
  ·subst he;simp only[ne_eq,not_true_eq_false,if_false];refine aF.intro (D:=mo) Nr fp fg ?_;unfold HJ;simp(disch:=first|exact aq|fail) only[go_sem]
   (repeat' first|simp(disch:=first|exact aq|fail) only[go_sem,c,j,h,p]|(apply av<;>intro))
   all_goals rfl
  ·rw[if_pos (by omega)];have z:((e:Nat):Int)≠0:=by omega
   refine aF.intro (D:=mo) Nr fp fg ?_;unfold HJ;simp(disch:=first|exact aq|fail) only[go_sem]
   (repeat' first|simp(disch:=first|exact aq|fail) only[go_sem,c,j,h]|(apply av<;>intro))
   all_goals rfl
open Enc (enc)
def wj(r:List ba×Bool):AV:=.a8 [enc r.1,.bool r.2]
def oy(t:I):Option I->AV
 |some u=>.a8 [enc u,.bool true]|none=>.a8 [enc t,.bool false]
noncomputable def Qn:List kX:=[(28,fO fun(t:I)=>enc (fa t)),
 (29,fO fun(t:I)=>enc (c0 t)),
 (55,fO fun(t:I)=>enc (kE t)),
 (54,rI fun(p:I)(t:I)(s:List ba)=>wj (eO p t s)),
 (31,jo fun(t:I)(s:List ba)=>oy t (gQ t s))]
noncomputable def fV:bc:=jV mo (fT Qn)
instance aH4{D:bc}[h:bq D fV]:bq D mo:=h.nA
theorem afG:gC fV ([28,29,55,54,31]++([44,15]++([36,14]++([47,48]++([79,80,81]++([103,105,104,76,75,78]++([46,18,17,19,6]++([64]++([96]++([51]++([23,16]++([45]++([43,126,107,77,106]++[58,88,120,94,57,40,71,99,101,25,7,74]))))))))))))):=gC.or Je (nB Qn)
theorem Fh(h:∀xs,fT Qn f xs=F xs)(hk:(([44,15]++([36,14]++([47,48]++([79,80,81]++([103,105,104,76,75,78]++([46,18,17,19,6]++([64]++([96]++([51]++([23,16]++([45]++([43,126,107,77,106]++[58,88,120,94,57,40,71,99,101,25,7,74])))))))))))):List Nat).contains f=false:=by rfl):∀xs,fV f xs=F xs:=fun xs=>by rw[<-h];exact mS Je hk
theorem afH[bq D fV][aT x1 t](h:aF ν aB 28 [enc t] (enc (fa t))):bT ν aB D 28 [x1] K tg=K (enc (fa t)):=gN (D':=fV) (F:=fun(t:I)=>enc (fa t)) (Fh fun _=>rfl) h
theorem afI[bq D fV][aT x1 t](h:aF ν aB 29 [enc t] (enc (c0 t))):bT ν aB D 29 [x1] K tg=K (enc (c0 t)):=gN (D':=fV) (F:=fun(t:I)=>enc (c0 t)) (Fh fun _=>rfl) h
theorem aDl[bq D fV][aT x1 t](h:aF ν aB 55 [enc t] (enc (kE t))):bT ν aB D 55 [x1] K tg=K (enc (kE t)):=gN (D':=fV) (F:=fun(t:I)=>enc (kE t)) (Fh fun _=>rfl) h
variable {p:I}{s:List ba}
theorem Qo[bq D fV][aT x1 p][aT x2 t][aT x3 s](h:aF ν aB 54 [enc p,enc t,enc s] (wj (eO p t s))):bT ν aB D 54 [x1,x2,x3] K tg=K (wj (eO p t s)):=D6 (D':=fV) (F:=fun(p:I)(t:I)(s:List ba)=>wj (eO p t s)) (Fh fun _=>rfl) h
theorem Qp[bq D fV][aT x1 t][aT x2 s](h:aF ν aB 31 [enc t,enc s] (oy t (gQ t s))):bT ν aB D 31 [x1,x2] K tg=K (oy t (gQ t s)):=lI (D':=fV) (F:=fun(t:I)(s:List ba)=>oy t (gQ t s)) (Fh fun _=>rfl) h
theorem aDm(t:I):fa t=t.name++[40]++hZ t.args++[41]:=by cases t;rfl
theorem aDn:∀t:I,(fa t).length<=M->aF ν aB 28 [enc t] (enc (fa t)):=I.ind fun t ih hk=>by
 refine aF.l9 fun ae=>?_;have j:=((I.o4 t).1 ae).2.1;have o:M=1099511627776:=rfl;rw[aDm]at hk ⊢;simp only[fM,aID,aIH]at hk;refine aF.intro (D:=fV) asw fp fg ?_;unfold Wk;simp(disch:=first|exact aq|fail) only[go_sem]
 (repeat' first|simp(disch:=first|exact aq|fail) only[go_sem,fM,aID,aIH]|(apply av<;>intro))
 refine b9 (fun i:Nat=>⟨N [(1,.v (.db t.enc.cells)),(3,.v (.str (t.name++[40]++hZ (t.args.take i)))),(10,.v (enc t.args.length)),(11,.v (enc i))],[]⟩)
  (fun i=>i<=t.args.length) (fun i=>t.args.length-i) 0 (LW _) (by(try simp(disch:=first|exact aq|fail) only[go_sem])<;>(first|rfl|(simp(disch:=first|exact a6|fail) only[cj,aHk,aHV,Env.ins,cE,cF,cG,cH,cI,cJ,cK,cL,I.b8,I9,aHW,aIA,aIB,ae0,bZ,aeZ,aB5,TH,cS,cT,go_sem,hZ,aIG];try rfl))) ?_
 intro i ak;have d:=Ql t.args i;rcases Ja i t.args.length with h|h
 ·have c:=Ql t.args (i+1);have e:=aDg h;rw[e]at c;simp only[fM,aID,aIH]at c;have hd:=ih t.args[i]! (ft h) (by omega);have g:=fun{K:AV->Prop}{tg:aM K}(q:i<t.args.length)=>afH (D:=fV) (K:=K) (tg:=tg) (x1:=t.args[i]!.enc) (hd)
  (repeat' first|simp(disch:=first|exact aq|fail) only[go_sem,g,fM,aID,aIH]|(apply av<;>intro))
  exact⟨i+1,by omega,by omega,by(first|rfl|(simp(disch:=first|exact a6|fail) only[cj,aHk,aHV,Env.ins,cE,cF,cG,cH,cI,cJ,cK,cL,I.b8,I9,aHW,aIA,aIB,ae0,bZ,aeZ,aB5,TH,cS,cT,go_sem,Qk,List.append_assoc];try rfl))⟩
 ·obtain rfl:i=t.args.length:=by omega
  rw[aIF]
  (repeat' first|simp(disch:=first|exact aq|fail) only[go_sem,fM,aID,aIH]|(apply av<;>intro))
  all_goals rfl
theorem aDo[bq D fV][aT x1 t](h:(fa t).length<=M) :bT ν aB D 28 [x1] K tg=K (enc (fa t)):=afH (aDn t h)
attribute [go_sem ↓ 2000] aDo
theorem aDp:∀(t:I),c0 t<=1000000->aF ν aB 29 [enc t] (enc (c0 t)):=I.ind fun t ih hd=>by
 refine aF.l9 fun ae=>?_;obtain⟨_,ae,_⟩:=(I.o4 t).1 ae;have g:M=1099511627776:=rfl;have d:=vI t;refine aF.intro (D:=fV) asx fp fg ?_;unfold Wn;simp(disch:=first|exact aq|fail) only[go_sem];refine b9 (fun(i:Nat)=>⟨N [(1,.v (.db t.enc.cells)),(3,.v (enc (iX (t.args.take i)))),(7,.v (enc t.args.length)),(8,.v (enc i))],[]⟩) (fun(i:Nat)=>i<=t.args.length) (fun(i:Nat)=>t.args.length-i) 0 (by first|omega|(refine⟨by omega,?_⟩;first|rfl|simp)|(constructor<;>first|omega|rfl|simp)|simp) (by(try simp(disch:=first|exact aq|fail) only[go_sem])<;>(first|rfl|(simp(disch:=first|exact a6|fail) only[cj,aHk,aHV,Env.ins,cE,cF,cG,cH,cI,cJ,cK,cL,I.b8,I9,aHW,aIA,aIB,ae0,bZ,aeZ,aB5,TH,cS,cT,go_sem,iX];try rfl))) ?_;intro i ak;have e:=fun{K:AV->Prop}{tg:aM K}(c:i<t.args.length)=>afI (D:=fV) (K:=K) (tg:=tg) (x1:=t.args[i]!.enc) (ih t.args[i]! (ft c) (by have:=Bz (ft c);omega));have h:=abI t.args i
 (repeat' first|simp(disch:=first|exact aq|fail) only[go_sem,e]|(apply av<;>intro))
 ·exact⟨i+1,by omega,by omega,by(first|rfl|(simp(disch:=first|exact a6|fail) only[cj,aHk,aHV,Env.ins,cE,cF,cG,cH,cI,cJ,cK,cL,I.b8,I9,aHW,aIA,aIB,ae0,bZ,aeZ,aB5,TH,cS,cT,go_sem,NX];try rfl))⟩
 ·rw[aIT (by omega),d];rfl
theorem aDq[bq D fV][aT x1 t](h:c0 t<=1000000) :bT ν aB D 29 [x1] K tg=K (enc (c0 t)):=afI (aDp t h)
attribute [go_sem ↓ 2000] aDq
theorem aDr(t:I):aF ν aB 55 [enc t] (enc (kE t)):=by
 have U:((t.args.length:Int)==0)=decide (t.args.length=0):=by rw[aIN];simp
 have g:kE t=(decide (t.args.length=0)&&wh t.name):=rfl;rw[g];cases e:t.name with
 |nil =>
  refine aF.intro (D:=fV) aat fp fg ?_;unfold M7;simp(disch:=first|exact aq|fail) only[go_sem];cases d:decide (t.args.length=0);all_goals (repeat' first|simp(disch:=first|exact aq|fail) only[go_sem,U,d,e]|(apply av<;>intro))
  all_goals rfl
 |cons c r =>
  have h:wh (c::r)=(decide (65<=c.toNat)&&decide (c.toNat<=90)):=rfl;have j:((c::r)==([]:aj))=false:=rfl;have o:decide ((c.toNat:Int)>=65)=decide (65<=c.toNat):=by rw[aIN];simp;omega
  have q:decide ((c.toNat:Int)<=90)=decide (c.toNat<=90):=by rw[aIN];simp;omega
  rw[h];refine aF.intro (D:=fV) aat fp fg ?_;unfold M7;simp(disch:=first|exact aq|fail) only[go_sem];cases d:decide (t.args.length=0)<;>cases u:decide (65<=c.toNat)<;>cases v:decide (c.toNat<=90);all_goals (repeat' first|simp(disch:=first|exact aq|fail) only[go_sem,U,d,e,j,o,q,u,v,aIQ,aIM]|(apply av<;>intro))
  all_goals rfl
theorem aDs[bq D fV][aT x1 t]  :bT ν aB D 55 [x1] K tg=K (enc (kE t)):=aDl (aDr t)
attribute [go_sem ↓ 2000] aDs
theorem afJ{n:aj}(h:i<s.length):ox (s.drop i) n=if s[i]!.var==n then some s[i]!.term else ox (s.drop (i+1)) n:=by
 rw[fY h,ox,List.find?_cons];cases s[i]!.var==n<;>rfl
theorem aDt(h:kE p=true):eO p t s=(match ox s p.name with|some u=>(s,hi u t)|none=>(s++[⟨p.name,t⟩],true)):=by
 obtain⟨n,l⟩:=p;rw[eO,if_pos h];rfl
theorem aDu(h:kE p=false):eO p t s=if p.name != t.name||decide (p.args.length≠t.args.length)then([],false)else js p.args t.args s:=by
 obtain⟨n,l⟩:=p;rw[eO,if_neg (by rw[h];simp)];rfl
theorem aDv{m:List I}(c:i<l.length)(U:i<m.length):js (l.drop i) (m.drop i) s=if(eO l[i]! m[i]! s).2 then js (l.drop (i+1)) (m.drop (i+1)) (eO l[i]! m[i]! s).1 else((eO l[i]! m[i]! s).1,false):=by
 rw[fY c,fY U,js]
mutual
theorem Fi:∀(p t:I)(s:List ba),(eO p t s).1.length<=s.length+(dG p).length
 |.mk n l,t,s=>by
  have g:(cw l).length<=(dG (.mk n l)).length:=by cases l<;>simp[dG,cw]
  have d:l=[]->(dG (.mk n l)).length=1:=by rintro rfl;simp[dG]
  cases c:kE (.mk n l)with
  |true =>
   have e:l.length=0:=by
    simp only[kE,aIS,I.args]at c;exact of_decide_eq_true c.1
   have:=d (aIJ.1 e);rw[eO,if_pos c];cases ox s n<;>simp<;>omega
  |false =>
   have U:=afK l t.args s;rw[eO,if_neg (by rw[c];simp)];split
   ·simp
   ·omega
theorem afK:∀(l m:List I)(s:List ba),(js l m s).1.length<=s.length+(cw l).length
 |[],m,s=>by simp[js]|p::c,[],s=>by simp[js]|p::c,t::bu,s=>by
  have d:=Fi p t s;have U:=afK c bu (eO p t s).1;rw[js,cw,fM];split
  ·omega
  ·simp only;omega
end
theorem afL:∀{l:List I}{i:Nat},i<l.length->(cw (l.take i)).length+(dG l[i]!).length<=(cw l).length
 |[],i,h=>by simp at h|t::r,0,h=>by simp[cw]|t::r,i+1,h=>by
  have:=afL (l:=r) (i:=i) (by simpa using h);simp only[List.take_succ_cons,cw,fM,List.getElem!_cons_succ]at this ⊢;omega
theorem aDw:∀(p t:I)(s:List ba),s.length+(dG p).length<=1000000->aF ν aB 54 [enc p,enc t,enc s] (wj (eO p t s)):=I.ind fun p ih t s az=>by
 refine aF.zf fun C E=>?_;have T:=((I.o4 p).1 C).2.1;have G:=((I.o4 t).1 E).2.1;have U:M=1099511627776:=rfl;cases d:kE p with
 |true =>
  rw[aDt d];obtain⟨R,dN⟩:∃R,R=ox s p.name:=⟨_,rfl⟩;rw[<-dN];refine aF.jl (D:=fV) Ns (by simp only[aB8,aB9,Enc.arg,aIC]) rfl (fun _ _ _ h=>by cases h) ?_;unfold HK
  (repeat' first|simp(disch:=first|exact aq|fail) only[go_sem,d]|(apply av<;>intro))
  refine b9 (fun i:Nat=>⟨N [(2,.v (enc s)),(3,.v (.db p.enc.cells)),(4,.v (.db t.enc.cells)),(14,.v (enc s.length)),(15,.v (enc i))],[]⟩)
   (fun i=>i<=s.length/\ox (s.drop i) p.name=R) (fun i=>s.length-i) 0 ⟨LW _,dN.symm⟩ (by(try simp(disch:=first|exact aq|fail) only[go_sem])<;>(exact bG)) ?_
  rintro i ⟨z,c⟩;rcases Ja i s.length with h|h
  ·rw[afJ h]at c;cases u:s[i]!.var==p.name with
   |true =>
    rw[u,if_pos rfl]at c;rw[<-c]
    (repeat' first|simp(disch:=first|exact aq|fail) only[go_sem,d,u]|(apply av<;>intro))
    exact⟨_,rfl,bQ.refl _⟩
   |false =>
    rw[u,if_neg (by simp)]at c
    (repeat' first|simp(disch:=first|exact aq|fail) only[go_sem,d,u]|(apply av<;>intro))
    exact⟨i+1,⟨by omega,c⟩,by omega,by(exact bG)⟩
  ·rw[aIL h]at c;have j:R=none:=c.symm;rw[j]
   (repeat' first|simp(disch:=first|exact aq|fail) only[go_sem,d,I9,List.nil_append]|(apply av<;>intro))
   exact⟨_,rfl,by simp only[wj];rw[show(enc (s++[ba.mk p.name t]):AV)=.list none 3 ((s++[ba.mk p.name t]).map ba.enc) from rfl,aeZ];exact bQ.refl _⟩
 |false =>
  rw[aDu d];have J:=qI p;have A:((p.args.length:Int) != (t.args.length:Int))=decide (p.args.length≠t.args.length):=by rw[aIN];simp;omega
  cases v:(p.name != t.name||decide (p.args.length≠t.args.length))with
  |true =>
   simp only[if_true];refine aF.jl (D:=fV) Ns (by simp only[aB8,aB9,Enc.arg,aIC]) rfl (fun _ _ _ h=>by cases h) ?_;unfold HK;cases e:p.name==t.name with
   |false =>
    (repeat' first|simp(disch:=first|exact aq|fail) only[go_sem,d,e]|(apply av<;>intro))
    exact⟨_,rfl,bQ.a8 (.cons (bQ.aV _) (.cons (bQ.refl _) .nil))⟩
   |true =>
    have w:decide (p.args.length≠t.args.length)=true:=by
     have:(p.name != t.name)=false:=by rw[bne,e];rfl
     rw[this,Bool.false_or]at v;exact v
    (repeat' first|simp(disch:=first|exact aq|fail) only[go_sem,d,e,A,w]|(apply av<;>intro))
    exact⟨_,rfl,bQ.a8 (.cons (bQ.aV _) (.cons (bQ.refl _) .nil))⟩
  |false =>
   simp only[Bool.or_eq_false_iff]at v;obtain⟨e,w⟩:=v;have e:(p.name==t.name)=true:=by rw[bne]at e;simpa using e
   have L:p.args.length=t.args.length:=by simpa using w
   simp only[aIE,if_false];obtain⟨R,dN⟩:∃R,R=js p.args t.args s:=⟨_,rfl⟩;rw[<-dN];have O:s.length+(cw p.args).length<=1000000:=by
    rw[J]at az;split at az
    ·rename_i P;rw[aIJ.1 P];simp only[cw,aIH];omega
    ·exact az
   refine aF.jl (D:=fV) Ns (by simp only[aB8,aB9,Enc.arg,aIC]) rfl (fun _ _ _ h=>by cases h) ?_;unfold HK
   (repeat' first|simp(disch:=first|exact aq|fail) only[go_sem,d,e,A,w]|(apply av<;>intro))
   refine b9 (fun q:Nat×List ba×Bool=>⟨N [(2,.v (enc q.2.1)),(3,.v (.db p.enc.cells)),(4,.v (.db t.enc.cells)),(9,.v (.bool q.2.2)),(10,.v (enc q.1))],[]⟩)
    (fun q=>q.1<=p.args.length/\(q.2.2=true->js (p.args.drop q.1) (t.args.drop q.1) q.2.1=R/\q.2.1.length<=s.length+(cw (p.args.take q.1)).length)/\(q.2.2=false->R=(q.2.1,false))) (fun q=>p.args.length-q.1) (0,s,true) ⟨LW _,fun _=>⟨dN.symm,by simp[cw]⟩,fun h=>by cases h⟩ (by(try simp(disch:=first|exact aq|fail) only[go_sem])<;>(exact bG)) ?_
   rintro⟨i,o,ok⟩ ⟨z,c,j⟩;simp only at z c j;cases ok with
   |false =>
    have j:=j rfl;rw[j]
    (repeat' first|simp(disch:=first|exact aq|fail) only[go_sem]|(apply av<;>intro))
    all_goals exact⟨_,rfl,bQ.refl _⟩
   |true =>
    obtain⟨c,V⟩:=c rfl;rcases Ja i p.args.length with h|h
    ·have W:=afL h;have hd:=ih p.args[i]! (ft h) t.args[i]! o (by omega);rw[aDv h (by omega)]at c;have Q:=Fi p.args[i]! t.args[i]! o;obtain⟨X,bp⟩:∃X,X=eO p.args[i]! t.args[i]! o:=⟨_,rfl⟩;have g:=fun{K:AV->Prop}{tg:aM K}=>Qo (D:=fV) (K:=K) (tg:=tg) (x1:=p.args[i]!.enc) (x2:=t.args[i]!.enc) (x3:=enc o) hd;rw[<-bp]at c Q g;have S:(enc o:AV)=.list none 3 (o.map ba.enc):=rfl;rw[S]at g;simp only[wj]at g;have Y:(cw (p.args.take (i+1))).length=(cw (p.args.take i)).length+(dG p.args[i]!).length:=by
      have key:∀(l:List I)(x:I),(cw (l++[x])).length=(cw l).length+(dG x).length:=fun l x=>by
       induction l with
       |nil=>simp[cw]|cons y r ih=>simp only[List.cons_append,cw,fM,ih];omega
      rw[bZ h,key]
     cases B:X.2 with
     |true =>
      rw[B]at c g;rw[if_pos rfl]at c
      (repeat' first|simp(disch:=first|exact aq|fail) only[go_sem,g]|(apply av<;>intro))
      exact⟨(i+1,X.1,true),⟨by simp only;omega,fun _=>⟨c,by simp only;omega⟩,fun h=>by cases h⟩,by simp only;omega,by(exact bG)⟩
     |false =>
      rw[B]at c g;rw[if_neg (by simp)]at c
      (repeat' first|simp(disch:=first|exact aq|fail) only[go_sem,g]|(apply av<;>intro))
      exact⟨(i+1,X.1,false),⟨by simp only;omega,fun h=>(by cases h),fun _=>c.symm⟩,by simp only;omega,by(exact bG)⟩
    ·rw[aIL h,js]at c;rw[<-c]
     (repeat' first|simp(disch:=first|exact aq|fail) only[go_sem]|(apply av<;>intro))
     all_goals exact⟨_,rfl,bQ.refl _⟩
open Enc (enc)
theorem aDx(h:kE t=true):gQ t s=ox s t.name:=by
 obtain⟨n,l⟩:=t;rw[gQ,if_pos h];rfl
theorem aDy(h:kE t=false):gQ t s=(j1 t.args s).map (I.mk t.name):=by
 obtain⟨n,l⟩:=t;rw[gQ,if_neg (by rw[h];simp)];rfl
theorem afN(t:I)(R:Option I):(oy t R).res=true:=by
 cases R with
 |none=>simp only[oy,AV.res,aB8,aB9];rw[show(enc t:AV)=t.enc from rfl,t.pR];rfl|some u=>simp only[oy,AV.res,aB8,aB9];rw[show(enc u:AV)=u.enc from rfl,u.pR];rfl
theorem afO(t:I)(R:Option I):cP (oy t R):=by cases R<;>exact fun _ _ _ h=>by cases h
theorem aDz(s:List ba)(az:s.length<=M):∀t:I,aF ν aB 31 [enc t,enc s] (oy t (gQ t s)):=I.ind fun t ih=>by
 refine aF.zf fun A _=>?_;have B:=((I.o4 t).1 A).2.1;have G:M=1099511627776:=rfl;cases e:kE t with
 |true =>
  rw[aDx e];obtain⟨R,dN⟩:∃R,R=ox s t.name:=⟨_,rfl⟩;rw[<-dN];refine aF.jl (D:=fV) aam (by simp only[aB8,aB9,Enc.arg,aIC]) (afN _ _) (afO _ _) ?_;unfold MZ
  (repeat' first|simp(disch:=first|exact aq|fail) only[go_sem,e]|(apply av<;>intro))
  refine b9 (fun i:Nat=>⟨N [(1,.v (enc s)),(2,.v (.db t.enc.cells)),(4,.b [.str [],.aV 2]),(14,.v (enc s.length)),(15,.v (enc i))],[]⟩)
   (fun i=>i<=s.length/\ox (s.drop i) t.name=R) (fun i=>s.length-i) 0 ⟨LW _,dN.symm⟩ (by(try simp(disch:=first|exact aq|fail) only[go_sem])<;>(exact bG)) ?_
  rintro i ⟨y,c⟩;rcases Ja i s.length with h|h
  ·rw[afJ h]at c;cases o:s[i]!.var==t.name with
   |true =>
    rw[o,if_pos rfl]at c;rw[<-c]
    (repeat' first|simp(disch:=first|exact aq|fail) only[go_sem,e,o]|(apply av<;>intro))
    exact⟨_,rfl,bQ.refl _⟩
   |false =>
    rw[o,if_neg (by simp)]at c
    (repeat' first|simp(disch:=first|exact aq|fail) only[go_sem,e,o]|(apply av<;>intro))
    exact⟨i+1,⟨by omega,c⟩,by omega,by(exact bG)⟩
  ·rw[aIL h]at c;have d:R=none:=c.symm;rw[d]
   (repeat' first|simp(disch:=first|exact aq|fail) only[go_sem,e]|(apply av<;>intro))
   exact⟨_,rfl,bQ.refl _⟩
 |false =>
  rw[aDy e];obtain⟨R,dN⟩:∃R,R=j1 t.args s:=⟨_,rfl⟩;rw[<-dN];refine aF.jl (D:=fV) aam (by simp only[aB8,aB9,Enc.arg,aIC]) (afN _ _) (afO _ _) ?_;unfold MZ
  (repeat' first|simp(disch:=first|exact aq|fail) only[go_sem,e]|(apply av<;>intro))
  refine b9 (fun q:Nat×List I=>⟨N [(1,.v (enc s)),(2,.v (.db t.enc.cells)),(4,.b [.str [],.aV 2]),(7,.b [.str t.name,if q.1=0 then .aV 2 else .list (some 30) 2 (q.2.map I.enc)]),(38,.v (enc t.args.length)),(39,.v (enc q.1))],[]⟩)
   (fun q=>q.1<=t.args.length/\q.2.length=q.1/\(j1 (t.args.drop q.1) s).map (q.2++·)=R) (fun q=>t.args.length-q.1) (0,[]) ⟨LW _,rfl,by simp only[List.drop_zero,List.nil_append];rw[dN];cases j1 t.args s<;>rfl⟩ (by(try simp(disch:=first|exact aq|fail) only[go_sem])<;>(exact bG)) ?_
  rintro⟨i,os⟩ ⟨y,c,d⟩;simp only at y c d;rcases Ja i t.args.length with h|h
  ·have hd:=ih t.args[i]! (ft h);have g:=fun{K:AV->Prop}{tg:aM K}=>Qp (D:=fV) (K:=K) (tg:=tg) (x1:=t.args[i]!.enc) (x2:=enc s) hd;have C:(enc s:AV)=.list none 3 (s.map ba.enc):=rfl;rw[C]at g;rw[fY h,j1]at d;obtain⟨X,bp⟩:∃X,X=gQ t.args[i]! s:=⟨_,rfl⟩;rw[<-bp]at d g;cases X with
   |none =>
    simp only[Option.map_none]at d;rw[<-d];simp only[oy]at g
    (repeat' first|simp(disch:=first|exact aq|fail) only[go_sem,g]|(apply av<;>intro))
    exact⟨_,rfl,bQ.refl _⟩
   |some u =>
    simp only[oy]at g;simp only[Option.map_map]at d;have z:Option.map (fun x=>(os++[u])++x) (j1 (t.args.drop (i+1)) s)=R:=by
     rw[<-d];congr 1
     funext x
     simp
    have E:¬(i+1=0):=by omega
    rcases aIR i with j|j
    ·subst j;have v:os=[]:=aIJ.1 c;subst v
     (repeat' first|simp(disch:=first|exact aq|fail) only[go_sem,g]|(apply av<;>intro))
     exact⟨(1,[u]),⟨by simp only;omega,rfl,z⟩,by simp only;omega,by(exact bG)⟩
    ·have w:¬(i=0):=by omega
     (repeat' first|simp(disch:=first|exact aq|fail) only[go_sem,g,if_neg w,I9,c]|(apply av<;>intro))
     exact⟨(i+1,os++[u]),⟨by simp only;omega,by simp[c],z⟩,by simp only;omega,by(first|rfl|(simp(disch:=first|exact a6|fail) only[cj,aHk,aHV,Env.ins,cE,cF,cG,cH,cI,cJ,cK,cL,I.b8,I9,aHW,aIA,aIB,ae0,bZ,aeZ,aB5,TH,cS,cT,go_sem,if_neg E];try rfl))⟩
  ·obtain rfl:i=t.args.length:=by omega
   rw[List.drop_length,j1]at d;simp only[aIM,aIG]at d;rw[<-d];rcases aIR t.args.length with j|j
   ·have v:os=[]:=aIJ.1 (by omega);subst v
    (repeat' first|simp(disch:=first|exact aq|fail) only[go_sem,j]|(apply av<;>intro))
    exact⟨_,rfl,by simp only[oy,aIM];rw[show(enc (I.mk t.name []):AV)=(I.mk t.name []).enc from rfl,I.pR];exact bQ.a8 (.cons (bQ.agg (.cons (bQ.refl _) (.cons (bQ.aV _) .nil))) (.cons (bQ.refl _) .nil))⟩
   ·have w:¬(t.args.length=0):=by omega
    (repeat' first|simp(disch:=first|exact aq|fail) only[go_sem,if_neg w]|(apply av<;>intro))
    exact⟨_,rfl,by simp only[oy,aIM];rw[show(enc (I.mk t.name os):AV)=(I.mk t.name os).enc from rfl,I.pR];exact bQ.refl _⟩
end AM
