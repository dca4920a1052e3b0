/- prove.Answers. Conditions: bounds; the pattern binds one variable at most. -/
import Derived.Test.YtclmmldjogkhoaaGreatDoorG2
import Derived.Test.YtclmmldjogkhoaaGreatDoorAm20
set_option linter.unusedSimpArgs false
set_option maxRecDepth 100000
set_option maxHeartbeats 4000000
set_option linter.unusedVariables false
namespace AM
open Go Go.Proofs
open Enc (enc)
theorem Jv:oE []=true:=rfl
variable {p g:I}{R:List ba×Bool}
theorem aFq(h:r0 p g []=some R):aF Tryz.prog aB 39 [enc p,enc g,.aV 3] (Cf (some R)):=by
 unfold r0 at h;rw[Jv,Bool.and_true]at h;cases c:ct 4 g false with
 |false =>
  rw[c]at h;simp only[Bool.not_false,if_true,Option.some.injEq]at h;subst h;refine aF.jl (D:=ea) aan (by simp only[List.all_cons,List.all_nil,Enc.arg,Bool.and_self];rfl) rfl (fun _ _ _ h=>by cases h) ?_;unfold M0
  (repeat' first|simp(disch:=first|exact aq|fail) only[go_sem,c]|(apply av<;>intro))
  all_goals exact⟨_,rfl,bQ.a8 (.cons (bQ.aV 3) (.cons (bQ.refl _) .nil))⟩
 |true =>
  rw[c]at h;simp only[Bool.not_true,Bool.false_eq_true,if_false]at h;cases hm:nP p g []with
  |none=>rw[hm]at h;cases h|some r =>
   obtain⟨out,ok⟩:=r;rw[hm]at h;simp only at h;have e:∀{K:AV->Prop}{tg:aM K},bT Tryz.prog aB ea 61 [p.enc,g.enc,.aV 3] K tg=K (.a8 [kh out,.bool ok]):=fun{K tg}=>by
    have hd:=aFk p g [] (out,ok) hm (by simp);rw[<-hm]at hd;have:=agW (D:=ea) (K:=K) (tg:=tg) (x:=p.enc) (y:=g.enc) (s:=[]) hd;rw[hm]at this;exact this
   refine aF.jl (D:=ea) aan (by simp only[List.all_cons,List.all_nil,Enc.arg,Bool.and_self];rfl) (by obtain⟨a,b⟩:=R;rfl) (fun _ _ _ h=>by obtain⟨a,b⟩:=R;cases h) ?_;unfold M0;cases ok with
   |false =>
    simp only[Bool.false_and,Bool.false_eq_true,if_false,Option.some.injEq]at h;subst h
    (repeat' first|simp(disch:=first|exact aq|fail) only[go_sem,c,Jv,e]|(apply av<;>intro))
    all_goals exact⟨_,rfl,bQ.a8 (.cons (bQ.aV 3) (.cons (bQ.refl _) .nil))⟩
   |true =>
    rw[Bool.true_and]at h;cases d:oE out with
    |false =>
     rw[d]at h;simp only[Bool.false_eq_true,if_false,Option.some.injEq]at h;subst h
     (repeat' first|simp(disch:=first|exact aq|fail) only[go_sem,c,Jv,e,d]|(apply av<;>intro))
     all_goals exact⟨_,rfl,bQ.a8 (.cons (bQ.aV 3) (.cons (bQ.refl _) .nil))⟩
    |true =>
     rw[d]at h;simp only[if_true,Option.some.injEq]at h;subst h
     (repeat' first|simp(disch:=first|exact aq|fail) only[go_sem,c,Jv,e,d]|(apply av<;>intro))
     all_goals exact⟨_,rfl,bQ.refl _⟩
theorem aFr{D:bc}[bq D ea]{K:AV->Prop}{tg:aM K}{x y:AV}[a:aT x p][U:aT y g](h:r0 p g []=some R):bT Tryz.prog aB D 39 [x,y,.aV 3] K tg=K (Cf (some R)) :=
 tM (by simp only[List.all_cons,a.arg,U.arg,List.all_nil,Bool.and_self];rfl) (bq.h (D':=ea) _ _ _ (by rw[s9 (F:=rI fun(p:I)(g:I)(s:List ba)=>Cf (r0 p g s)) (fun _=>rfl)];rw[<-h];exact NS (F:=fun(p:I)(g:I)(s:List ba)=>Cf (r0 p g s)) a U aT.abz)) ((aFq h).args (.cons a.kB (.cons U.kB (.cons (bQ.refl _) .nil))))
theorem aFs{H:List ax}{a:I}(h:r0 p a []=some R):bn Tryz.prog aB 38 [enc a,.db p.enc.cells] H fun r H'=>r=.bool (!R.2)/\H'=H:=by
 obtain⟨o,b⟩:=R;have hm:=fun{K:AV->Prop}{tg:aM K}=>aFr (D:=ea) (K:=K) (tg:=tg) (x:=p.enc) (y:=a.enc) h;refine bn.intro (D:=ea) asE ?_;unfold WQ
 (repeat' first|simp(disch:=first|exact aq|fail) only[go_sem,hm,Cf]|(apply av<;>intro))
 exact⟨_,rfl,by first|exact⟨rfl,rfl⟩|rfl⟩
section
variable {H:List ax}{id f:Nat}{p:I}{L:List I}(d:I->Bool)
theorem aFt(b:H[id]?=some (.buf 30 (cM L)))(cg:L.length<=M)(c:∀t∈L,∀H',bn Tryz.prog aB f [t.enc,.db p.enc.cells] H' fun r e=>r=.bool (d t)/\e=H') :
  bn Tryz.prog aB 59 [.bs id 0 L.length 2,.fn f [.db p.enc.cells]] H fun r H'=>r=.int .i64 (k0 d L)/\H'=H:=by
 have h:M=1099511627776:=rfl;refine bn.intro (D:=ea) aau ?_;unfold M9
 (repeat' first|simp(disch:=first|exact aq|fail) only[go_sem]|(apply av<;>intro))
 refine b9 (fun i:Nat=>⟨N [(0,.v (.bs id 0 L.length 2)),(1,.v (.fn f [.db p.enc.cells])),(7,.v (enc L.length)),(8,.v (enc i))],H⟩) (fun i=>i<=L.length/\jq d (L.drop i) i=k0 d L) (fun i=>L.length-i) 0 ⟨Nat.zero_le _,rfl⟩ (by(try simp(disch:=first|exact aq|fail) only[go_sem])<;>(exact bG)) ?_;rintro i ⟨j,a⟩;rcases Nat.lt_or_ge i L.length with ak|ak
 ·have hd:=c L[i]! (ft ak) H;rw[I.b8]at hd;rw[fY ak,jq]at a;cases ao:d L[i]! with
  |true =>
   rw[ao]at hd a
   (repeat' first|simp(disch:=first|exact aq|fail) only[go_sem,b,iV]|(apply av<;>intro)|refine b6 hd ?_)
   exact⟨_,rfl,by rw[<-a];rfl⟩
  |false =>
   rw[ao]at hd a
   (repeat' first|simp(disch:=first|exact aq|fail) only[go_sem,b,iV]|(apply av<;>intro)|refine b6 hd ?_)
   exact⟨i+1,⟨by omega,a⟩,by omega,by(exact bG)⟩
 ·rw[List.drop_eq_nil_of_le ak,jq]at a
  (repeat' first|simp(disch:=first|exact aq|fail) only[go_sem]|(apply av<;>intro))
  exact⟨_,rfl,by rw[<-a]⟩
theorem aFu(c:H[id]?=some (.buf 30 (cM L)))(cg:L.length<=M)(i:∀t∈L,∀H',bn Tryz.prog aB f [t.enc,.db p.enc.cells] H' fun r o=>r=.bool (d t)/\o=H'){S:List I}(dg:S=L.filter fun t=>!d t) :
  bn Tryz.prog aB 37 [.bs id 0 L.length 2,.fn f [.db p.enc.cells]] H fun r H'=>r=.bs id 0 S.length 2/\H'=H.set id (.buf 30 (um S (L.length-S.length))):=by
 have B:M=1099511627776:=rfl;have C:id<H.length:=(List.getElem?_eq_some_iff.1 c).1;refine bn.intro (D:=ea) asD ?_;unfold WN;have b:=aFt d c cg i;rw[I.b8]at b;rcases ag0 d L 0 with⟨e,U⟩|⟨k,e,U,s,u⟩
 ·have v:k0 d L = -1:=e;rw[ag1 U]at dg;rw[v]at b
  (repeat' first|simp(disch:=first|exact aq|fail) only[go_sem]|(apply av<;>intro)|refine b6 b ?_)
  refine⟨_,rfl,by rw[dg],?_⟩;rw[dg,Nat.sub_self,aFn];exact(zr c).symm
 ·have w:k0 d L=(k:Int):=by rw[k0,U,Nat.zero_add]
  rw[w]at b;have x:H=fF 30 H id L:=(zr c).symm
  (repeat' first|simp(disch:=first|exact aq|fail) only[go_sem]|(apply av<;>intro)|refine b6 b ?_)
  refine b9 (fun q:Nat×Nat×List I=>⟨N [(0,.v (.bs id 0 L.length 2)),(1,.v (.fn f [.db p.enc.cells])),(5,.v (enc q.2.1)),(6,.v (enc q.1))],fF 30 H id q.2.2⟩) (fun q=>qe d L q.1 q.2.1 q.2.2) (fun q=>L.length-q.1) (k+1,k,L) (qe.start e s u) (by(try simp(disch:=first|exact aq|fail) only[go_sem])<;>(first|rfl|(simp(disch:=first|exact a6|fail) only[cj,List.foldr_cons,List.foldr_nil,Env.ins,cE,cF,cG,cH,cI,cJ,cK,cL,I.b8,List.length_map,Int.natCast_add,Int.natCast_one,Int.natCast_zero,List.take_zero,bZ,List.map_append,List.map_cons,List.map_nil,cS,cT,go_sem,<-x];try rfl))) ?_;rintro⟨j,k,l⟩ fK;simp only at fK;have E:=fK.2.2.1;have y:=fK.2.1;rcases Nat.lt_or_ge j L.length with a|a
  ·have hd:=i L[j]! (ft a) (fF 30 H id l);have az:=fK.same a;rw[I.b8]at hd;cases ao:d L[j]! with
   |true =>
    rw[ao]at hd
    (repeat' first|simp(disch:=first|exact aq|fail) only[go_sem,az,iV]|(apply av<;>intro)|refine b6 hd ?_)
    exact⟨(j+1,k,l),fK.drop a ao,by simp only;omega,by(exact bG)⟩
   |false =>
    rw[ao]at hd;have m:=fK.Pg a ao;rw[az]at m
    (repeat' first|simp(disch:=first|exact aq|fail) only[go_sem,az,iV]|(apply av<;>intro)|refine b6 hd ?_)
    exact⟨(j+1,k+1,_),m,by simp only;omega,by(exact bG)⟩
  ·obtain rfl:j=L.length:=Nat.le_antisymm fK.1 a;obtain⟨n,h,F⟩:=fK.len rfl;rw[<-dg]at n h;have z:0<L.length-k:=by omega
   have A:((k:Int)=(L.length:Int))=False:=eq_false (by omega)
   (repeat' first|simp(disch:=first|exact aq|fail) only[go_sem,z,A,false_and,and_false,if_false,Nat.sub_zero]|(apply av<;>intro))
   exact⟨_,rfl,by rw[h],by rw[n,h]⟩
end
theorem aFv(l:List aU)(g:List I)(p:I)(hd:∀r∈l,∀a∈fU r,c0 a<=1000000){A:List I}(cq:fq l g=some (A,0))(b:A.length<=M)(ao:rU p=true){R:I->List ba×Bool}(hm:∀a∈A,r0 p a []=some (R a)) :
  aF Tryz.prog aB 13 [enc l,enc g,enc p] (.a8 [enc (A.filter fun a=>(R a).2),.int .i64 0]):=by
 refine aF.av6 fun c d _=>?_;obtain⟨c,_⟩:=c;obtain⟨d,_⟩:=d;have v:M=1099511627776:=rfl;have e:=aem c d (fun r i=>PB r (hd r i)) (fun h=>afr l (zJ h).1 fun r i=>((zJ h).2 r i).b) cq;have j:jK Tryz.prog aB 6 [enc l,enc g] [] _:=⟨e,.a8 [.bs 0 0 A.length 2,.int .i64 ((0:Nat):Int)],[.buf 30 (cM A)],.inr ⟨0,rfl,rfl,b⟩⟩;have k:(A.filter fun a=>(R a).2)=A.filter fun a=>!(!(R a).2):=by simp only[Bool.not_not]
 obtain⟨S,dg⟩:∃S,S=A.filter fun a=>(R a).2:=⟨_,rfl⟩;have w:S.length<=M:=by rw[dg];exact Nat.le_trans (List.length_filter_le _ _) b
 rw[<-dg];have o:(enc S:AV)=.list none 2 (S.map I.enc):=rfl;refine aF.jl (D:=ea) asj (by simp only[List.all_cons,List.all_nil,Enc.arg,Bool.and_self]) rfl (fun _ _ _ h=>by cases h) ?_;unfold VJ
 (repeat' first|simp(disch:=first|exact aq|fail) only[go_sem,ao]|(apply av<;>intro)|(refine iW j ?_;(rintro x q (⟨s,_⟩|⟨id,rfl,m,_⟩))))
 ·exact absurd rfl s
 ·have n:=aFu (fun a=>!(R a).2) m b (f:=38) (p:=p) (fun t u y=>aFs (hm t u)) (dg.trans k);rw[I.b8]at n;have z:id<q.length:=(List.getElem?_eq_some_iff.1 m).1
  (repeat' first|simp(disch:=first|exact aq|fail) only[go_sem]|(apply av<;>intro)|refine b6 n ?_)
  exact⟨_,rfl,bQ.refl _⟩
end AM
