/- prove.Answers. Conditions: bounds; the pattern binds one variable at most. -/
import Derived.Test.YtljpaghckmbmlaaGreatDoorE66
import Derived.Test.YtljpaghckmbmlaaGreatDoorAm10
set_option linter.unusedSimpArgs false
set_option maxRecDepth 100000
set_option maxHeartbeats 4000000
set_option linter.unusedVariables false
namespace AM
open Go Go.Proofs
open Enc (enc)
theorem LI:q1 []=true:=rfl
variable {p g:I}{R:List aY×Bool}
theorem aMG(h:sU p g []=some R):aA Tryz.prog aD 50 [enc p,enc g,.aS 3] (DQ (some R)):=by
 unfold sU at h;rw[LI,Bool.and_true]at h;cases c:cD 4 g false with
 |false =>
  rw[c]at h;simp only[Bool.not_false,if_true,Option.some.injEq]at h;subst h;refine aA.gK (D:=e7) ae8 (by simp only[List.all_cons,List.all_nil,Enc.arg,Bool.and_self];rfl) rfl (λ_ _ _ h=>d7) ?_;unfold Pf;refine bU @c ?_;all_goals exact⟨_,rfl,bx.bg (.cons (bx.aS 3) (.cons (bx.refl _) .nil))⟩
 |true =>
  rw[c]at h;simp only[Bool.not_true,Bool.false_eq_true,if_false]at h;cases hm:oI p g []with
  |none=>rw[hm]at h;cases h|some r =>
   obtain⟨out,ok⟩:=r;rw[hm]at h;simp only at h;have e:∀{K:AV->Prop}{tg:aN K},b1 Tryz.prog aD e7 94 [p.enc,g.enc,.aS 3] K tg=K (.bg [k3 out,.bool ok]):=λ{K tg}=>by
    have hd:=aMA p g [] (out,ok) hm be;rw[<-hm]at hd;have:=ama (D:=e7) (K:=K) (tg:=tg) (x:=p.enc) (y:=g.enc) (s:=[]) hd;rw[hm]at this;exact this
   refine aA.gK (D:=e7) ae8 (by simp only[List.all_cons,List.all_nil,Enc.arg,Bool.and_self];rfl) (by obtain⟨a,b⟩:=R;rfl) (λ_ _ _ h=>by obtain⟨a,b⟩:=R;cases h) ?_;unfold Pf;cases ok with
   |false =>
    simp only[Bool.false_and,Bool.false_eq_true,if_false,Option.some.injEq]at h;subst h;refine iv @c @LI @e ?_;all_goals exact⟨_,rfl,bx.bg (.cons (bx.aS 3) (.cons (bx.refl _) .nil))⟩
   |true =>
    rw[Bool.true_and]at h;cases d:q1 out with
    |false =>
     rw[d]at h;simp only[Bool.false_eq_true,if_false,Option.some.injEq]at h;subst h;refine mb @c @LI @e @d ?_;all_goals exact⟨_,rfl,bx.bg (.cons (bx.aS 3) (.cons (bx.refl _) .nil))⟩
    |true =>
     rw[d]at h;simp only[if_true,Option.some.injEq]at h;subst h;refine mb @c @LI @e @d ?_;all_goals exact⟨_,rfl,bx.refl _⟩
theorem aMH{D:bj}[bt D e7]{K:AV->Prop}{tg:aN K}{x y:AV}[a:aT x p][b:aT y g](h:sU p g []=some R):b1 Tryz.prog aD D 50 [x,y,.aS 3] K tg=K (DQ (some R)) :=
 u1 (by simp only[List.all_cons,a.arg,b.arg,List.all_nil,Bool.and_self];rfl) (bt.h (D':=e7) _ _ _ (by rw[sW (F:=qF λ(p:I)(g:I)(s:List aY)=>DQ (sU p g s)) (λ_=>rfl)];rw[<-h];exact Qj (F:=λ(p:I)(g:I)(s:List aY)=>DQ (sU p g s)) a b aT.Qm)) ((aMG h).args (.cons a.kX (.cons b.kX (.cons (bx.refl _) .nil))))
theorem aMI{H:List ay}{a:I}(h:sU p a []=some R):bB Tryz.prog aD 49 [enc a,.cL p.enc.cells] H λr H'=>r=.bool (!R.2)/\H'=H:=by
 obtain⟨o,b⟩:=R;have hm:=λ{K:AV->Prop}{tg:aN K}=>aMH (D:=e7) (K:=K) (tg:=tg) (x:=p.enc) (y:=a.enc) h;refine bB.intro (D:=e7) ayv ?_;unfold ZL
 (repeat' first|simp(disch:=first|exact ai|fail) only[go_sem,hm,DQ]|(refine ao ?_ ?_<;>intro))
 exact⟨_,rfl,d9⟩
section
variable {H:List ay}{id f:Nat}{p:I}{L:List I}(d:I->Bool)
theorem aMJ(b:H[id]?=some (.buf 31 (c3 L)))(cf:L.length<=M)(c:∀t∈L,∀H',bB Tryz.prog aD f [t.enc,.cL p.enc.cells] H' λr e=>r=.bool (d t)/\e=H') :
  bB Tryz.prog aD 92 [.bI id 0 L.length 2,.fn f [.cL p.enc.cells]] H λr H'=>r=.int .i64 (lN d L)/\H'=H:=by
 have h:M=1099511627776:=rfl;refine bB.intro (D:=e7) afh ?_;unfold Pp;refine ag ?_;refine bQ (λi:Nat=>⟨N [(0,.v (.bI id 0 L.length 2)),(1,.v (.fn f [.cL p.enc.cells])),(7,.v (enc L.length)),(8,.v (enc i))],H⟩) (λi=>i<=L.length/\j7 d (L.drop i) i=lN d L) (λi=>L.length-i) 0 ⟨Nat.zero_le _,rfl⟩ ew ?_;rintro i ⟨j,a⟩;rcases Nat.lt_or_ge i L.length with al|al
 ·have hd:=c L[i]! (ek al) H;rw[I.b0]at hd;rw[fi al,j7]at a;cases ar:d L[i]! with
  |true =>
   rw[ar]at hd a
   (repeat' first|simp(disch:=first|exact ai|fail) only[go_sem,b,jL]|(refine ao ?_ ?_<;>intro)|refine cA hd ?_)
   exact⟨_,rfl,by rw[<-a];rfl⟩
  |false =>
   rw[ar]at hd a
   (repeat' first|simp(disch:=first|exact ai|fail) only[go_sem,b,jL]|(refine ao ?_ ?_<;>intro)|refine cA hd ?_)
   exact⟨i+1,⟨am,a⟩,am,co⟩
 ·rw[List.drop_eq_nil_of_le al,j7]at a;refine ag ?_;exact⟨_,rfl,by rw[<-a]⟩
theorem aMK(c:H[id]?=some (.buf 31 (c3 L)))(cf:L.length<=M)(m:∀t∈L,∀H',bB Tryz.prog aD f [t.enc,.cL p.enc.cells] H' λr s=>r=.bool (d t)/\s=H'){S:List I}(ds:S=L.filter λt=>!d t) :
  bB Tryz.prog aD 48 [.bI id 0 L.length 2,.fn f [.cL p.enc.cells]] H λr H'=>r=.bI id 0 S.length 2/\H'=H.set id (.buf 31 (vt S (L.length-S.length))):=by
 have C:M=1099511627776:=rfl;have E:id<H.length:=(List.getElem?_eq_some_iff.1 c).1;refine bB.intro (D:=e7) ayu ?_;unfold ZJ;have b:=aMJ d c cf m;rw[I.b0]at b;rcases ame d L 0 with⟨e,h⟩|⟨k,e,h,u,v⟩
 ·have w:lN d L = -1:=e;rw[amf h]at ds;rw[w]at b
  (repeat' first|simp(disch:=first|exact ai|fail) only[go_sem]|(refine ao ?_ ?_<;>intro)|refine cA b ?_)
  refine⟨_,rfl,by rw[ds],?_⟩;rw[ds,Nat.sub_self,aMD];exact(C6 c).symm
 ·have x:lN d L=(k:Int):=by rw[lN,h,Nat.zero_add]
  rw[x]at b;have y:H=gi 31 H id L:=(C6 c).symm
  (repeat' first|simp(disch:=first|exact ai|fail) only[go_sem]|(refine ao ?_ ?_<;>intro)|refine cA b ?_)
  refine bQ (λq:Nat×Nat×List I=>⟨N [(0,.v (.bI id 0 L.length 2)),(1,.v (.fn f [.cL p.enc.cells])),(5,.v (enc q.2.1)),(6,.v (enc q.1))],gi 31 H id q.2.2⟩) (λq=>q2 d L q.1 q.2.1 q.2.2) (λq=>L.length-q.1) (k+1,k,L) (q2.start e u v) (rm (Eq.symm @y)) ?_;rintro⟨j,k,l⟩ gq;simp only at gq;have F:=gq.2.2.1;have z:=gq.2.1;rcases Nat.lt_or_ge j L.length with a|a
  ·have hd:=m L[j]! (ek a) (gi 31 H id l);have ax:=gq.same a;rw[I.b0]at hd;cases ar:d L[j]! with
   |true =>
    rw[ar]at hd
    (repeat' first|simp(disch:=first|exact ai|fail) only[go_sem,ax,jL]|(refine ao ?_ ?_<;>intro)|refine cA hd ?_)
    exact⟨(j+1,k,l),gq.drop a ar,ap,co⟩
   |false =>
    rw[ar]at hd;have n:=gq.RQ a ar;rw[ax]at n
    (repeat' first|simp(disch:=first|exact ai|fail) only[go_sem,ax,jL]|(refine ao ?_ ?_<;>intro)|refine cA hd ?_)
    exact⟨(j+1,k+1,_),n,ap,co⟩
  ·obtain rfl:j=L.length:=Nat.le_antisymm gq.1 a;obtain⟨o,i,G⟩:=gq.len rfl;rw[<-ds]at o i;have A:0<L.length-k:=by omega
   have B:((k:Int)=(L.length:Int))=False:=eq_false am
   (repeat' first|simp(disch:=first|exact ai|fail) only[go_sem,A,B,false_and,and_false,if_false,Nat.sub_zero]|(refine ao ?_ ?_<;>intro))
   exact⟨_,rfl,by rw[i],by rw[o,i]⟩
end
theorem aML(l:List aU)(g:List I)(p:I)(hd:∀r∈l,∀a∈dx r,cc a<=1000000){A:List I}(cE:iz l g=some (A,0))(b:A.length<=M)(ar:ug p=true){R:I->List aY×Bool}(hm:∀a∈A,sU p a []=some (R a)) :
  aA Tryz.prog aD 14 [enc l,enc g,enc p] (.bg [enc (A.filter λa=>(R a).2),.int .i64 0]):=by
 refine aA.aCE λc d _=>?_;obtain⟨c,_⟩:=c;obtain⟨d,_⟩:=d;have v:M=1099511627776:=rfl;have e:=ai9 c d (λr i=>Sb r (hd r i)) (λh=>akc l (xi h).1 λr i=>((xi h).2 r i).b) cE;have j:kv Tryz.prog aD 8 [enc l,enc g] [] _:=⟨e,.bg [.bI 0 0 A.length 2,.int .i64 ((0:Nat):Int)],[.buf 31 (c3 A)],.inr ⟨0,rfl,rfl,b⟩⟩;have k:(A.filter λa=>(R a).2)=A.filter λa=>!(!(R a).2):=by simp only[Bool.not_not]
 obtain⟨S,ds⟩:∃S,S=A.filter λa=>(R a).2:=⟨_,rfl⟩;have w:S.length<=M:=by rw[ds];exact Nat.le_trans (List.length_filter_le _ _) b
 rw[<-ds];have o:(enc S:AV)=.list none 2 (S.map I.enc):=rfl;refine aA.gK (D:=e7) ax8 g8 rfl (λ_ _ _ h=>d7) ?_;unfold Yx
 (repeat' first|simp(disch:=first|exact ai|fail) only[go_sem,ar]|(refine ao ?_ ?_<;>intro)|(refine iJ j ?_;(rintro x q (⟨s,_⟩|⟨id,rfl,m,_⟩))))
 ·exact absurd rfl s
 ·have n:=aMK (λa=>!(R a).2) m b (f:=49) (p:=p) (λt u y=>aMI (hm t u)) (ds.trans k);rw[I.b0]at n;have z:id<q.length:=(List.getElem?_eq_some_iff.1 m).1
  (repeat' first|simp(disch:=first|exact ai|fail) only[go_sem]|(refine ao ?_ ?_<;>intro)|refine cA n ?_)
  exact⟨_,rfl,bx.refl _⟩
end AM
