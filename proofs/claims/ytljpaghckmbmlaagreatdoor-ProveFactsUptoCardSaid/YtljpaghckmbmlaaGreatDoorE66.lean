/- What functions of the given program do, as calls of the machine. Conditions: names and lists are bounded where that is said. -/
import Derived.Test.YtljpaghckmbmlaaGreatDoorE56
import Derived.Test.YtljpaghckmbmlaaGreatDoorAm10
import Derived.Test.YtljpaghckmbmlaaGreatDoorE29
set_option linter.unusedSimpArgs false
set_option maxRecDepth 100000
set_option maxHeartbeats 4000000
set_option linter.unusedVariables false
namespace AM
open Nat renaming lt_or_ge -> aqt,zero_le -> aqv,eq_zero_or_pos -> aL0
open List renaming length_map -> aqw,all_cons -> aqx,all_nil -> aqB,map_append -> aqH,take_zero -> aqI,foldr_cons -> aqT,foldr_nil -> aqU,map_cons -> avQ,map_nil -> avR,drop_eq_nil_of_le -> avS,length_take -> avX,getElem?_cons_zero -> aLO,set_cons_zero -> aLY,take_length -> aLZ
open Bool renaming and_self -> aqE,false_or -> avT,true_or -> avY,true_and -> ax6,false_and -> aKc
open Int renaming natCast_add -> aqV,natCast_one -> avO,natCast_zero -> avP
open Go Go.Proofs
open Tryz renaming prog -> ν
open Enc (enc)
attribute [go_sem 3000] alU alV apH
variable {D:bj}{x1:AV}{l:List aU}{K:AV->Prop}{tg:aN K}
theorem apN[bt D bZ][aT x1 l](a:l.length<=128)(b:∀r∈l,r.body.length<=8) :b1 ν aD D 119 [x1] K tg=K (enc (mv l)):=ec (D':=bZ) (F:=λ(l:List aU)=>enc (mv l)) (gC λ_=>rfl) (ae1 l a b)
attribute [go_sem ↓ 2000] apN
def dI(l:List aU):Nat:=if hG l≠0 then hG l else(oC l).2
noncomputable def Jw:List iZ:=[(74,hj λ(ls:List e2)(s:ak)=>enc (p1 (ls.map λx=>(x.name,x.level)) s)),
 (118,hj λ(es:List bR)(ns:List ak)=>eU ns ((bX ns.length es (ns.length*ns.length+2) []).getD none)),
 (72,eh λ(l:List aU)=>sL l),
 (35,eh λ(l:List aU)=>rP l),
 (32,eh λ(l:List aU)=>enc (dI l)),
 (33,eh λ(g:List I)=>enc (rO g)),
 (9,hj λ(l:List aU)(g:List I)=>j8 (iz l g))]
noncomputable def bp:bj:=ij bZ (e1 Jw)
instance aqq{D:bj}[h:bt D bp]:bt D bZ:=h.ke
variable {f:Nat}{F:List AV->Option AV}
theorem fg(h:∀xs,e1 Jw f xs=F xs)(hk:Jl.contains f=false:=by rfl):∀xs,bp f xs=F xs:=λxs=>by rw[<-h];exact kg Wx hk
variable {x2:AV}
theorem apO[bt D bp]{es:List bR}{ns:List ak}[aT x1 es][aT x2 ns](h:aA ν aD 118 [enc es,enc ns] (eU ns ((bX ns.length es (ns.length*ns.length+2) []).getD none))):b1 ν aD D 118 [x1,x2] K tg=K (eU ns ((bX ns.length es (ns.length*ns.length+2) []).getD none)):=ik (D':=bp) (F:=λ(es:List bR)(ns:List ak)=>eU ns ((bX ns.length es (ns.length*ns.length+2) []).getD none)) (fg λ_=>rfl) h
variable {g:List I}
theorem apP[bt D bp][aT x1 l][aT x2 g](h:aA ν aD 9 [enc l,enc g] (j8 (iz l g))):b1 ν aD D 9 [x1,x2] K tg=K (j8 (iz l g)):=ik (D':=bp) (F:=λ(l:List aU)(g:List I)=>j8 (iz l g)) (fg λ_=>rfl) h
theorem apQ(ls:List e2)(s:ak)(c:ls.length<=1000000):aA ν aD 74 [enc ls,enc s] (enc (p1 (ls.map λx=>(x.name,x.level)) s)):=by
 have d:M=1099511627776:=rfl;obtain⟨R,de⟩:∃R,R=p1 (ls.map λx=>(x.name,x.level)) s:=⟨_,rfl⟩;rw[<-de];refine aA.intro (D:=bp) Fs cX c7 ?_;unfold kD;simp(disch:=first|exact ai|fail) only[go_sem];refine bQ (λi:Nat=>⟨N [(0,.v (enc ls)),(1,.v (enc s)),(5,.v (enc i))],[]⟩) (λi=>i<=ls.length/\p1 ((ls.drop i).map λx=>(x.name,x.level)) s=R) (λi=>ls.length-i) 0 ⟨aqv _,de.symm⟩ ci ?_;rintro i ⟨j,a⟩;rcases aqt i ls.length with h|h
 ·rw[Jv h]at a;cases b:ls[i]!.name==s with
  |true =>
   rw[if_pos (eq_of_beq b).symm]at a
   (repeat' first|simp(disch:=first|exact ai|fail) only[go_sem,b,a]|(refine ao ?_ ?_<;>intro))
   all_goals rfl
  |false =>
   rw[if_neg (λe=>by rw[e]at b;simp at b)]at a
   (repeat' first|simp(disch:=first|exact ai|fail) only[go_sem,b]|(refine ao ?_ ?_<;>intro))
   exact⟨i+1,⟨am,a⟩,am,co⟩
 ·rw[avS h]at a;have:R = -1:=a.symm;subst this
  (repeat' first|simp(disch:=first|exact ai|fail) only[go_sem]|(refine ao ?_ ?_<;>intro))
  all_goals rfl
variable {ls:List e2}
theorem apT[bt D bp]{s:ak}[aT x1 ls][aT x2 s](h:ls.length<=1000000) :b1 ν aD D 74 [x1,x2] K tg=K (enc (p1 (ls.map λx=>(x.name,x.level)) s)):=ik (D':=bp) (F:=λ(ls:List e2)(s:ak)=>enc (p1 (ls.map λx=>(x.name,x.level)) s)) (fg λ_=>rfl) (apQ ls s h)
attribute [go_sem ↓ 2000] apT
variable {H:List ay}
theorem apU{id e n:Nat}(s:ak){R:Int}(de:p1 (ls.map λx=>(x.name,x.level)) s=R)(c:H[id]?=some (.buf e (bf ls)))(d:ls.length=n)(j:n<=1000000) :
  bB ν aD 74 [.bI id 0 n 2,enc s] H λr H'=>r=.int .i64 R/\H'=H:=by
 have k:M=1099511627776:=rfl;subst d;refine bB.intro (D:=bp) Fs ?_;unfold kD
 (repeat' first|simp(disch:=first|exact ai|fail) only[go_sem]|(refine ao ?_ ?_<;>intro))
 refine bQ (λi:Nat=>⟨N [(0,.v (.bI id 0 ls.length 2)),(1,.v (enc s)),(5,.v (enc i))],H⟩) (λi=>i<=ls.length/\p1 ((ls.drop i).map λx=>(x.name,x.level)) s=R) (λi=>ls.length-i) 0 ⟨aqv _,de⟩ ci ?_;rintro i ⟨m,a⟩;rcases aqt i ls.length with h|h
 ·rw[Jv h]at a;cases b:ls[i]!.name==s with
  |true =>
   rw[if_pos (eq_of_beq b).symm]at a
   (repeat' first|simp(disch:=first|exact ai|fail) only[go_sem,b,a,c]|(refine ao ?_ ?_<;>intro))
   exact⟨_,rfl,by first|rfl|exact⟨rfl,rfl⟩⟩
  |false =>
   rw[if_neg (λe=>by rw[e]at b;simp at b)]at a
   (repeat' first|simp(disch:=first|exact ai|fail) only[go_sem,b,c]|(refine ao ?_ ?_<;>intro))
   exact⟨i+1,⟨am,a⟩,am,co⟩
 ·rw[avS h]at a;have:R = -1:=a.symm;subst this
  (repeat' first|simp(disch:=first|exact ai|fail) only[go_sem]|(refine ao ?_ ?_<;>intro))
  exact⟨_,rfl,by first|rfl|exact⟨rfl,rfl⟩⟩
theorem apV(es:List bR)(ns:List ak)(aI:ns.Nodup)(ax:∀e∈es,e.src∈ns/\e.dst∈ns)(aC:ns.length<=2000)(hle:es.length<=1000000) :
  aA ν aD 118 [enc es,enc ns] (eU ns ((bX ns.length es (ns.length*ns.length+2) []).getD none)):=by
 have cP:M=1099511627776:=rfl;obtain⟨R,de⟩:=Option.ne_none_iff_exists'.1 (mV (es:=es) rfl (λe he=>(ax e he).1) (ns.length*ns.length+2) (ajY _) am);rw[de,Option.getD_some];obtain⟨n,q⟩:∃n,n=ns.length:=⟨_,rfl⟩;refine aA.gK (D:=bp) V6 cX (by cases R<;>rfl) (by cases R<;>exact λ_ _ _ h=>d7) ?_;unfold yr
 (repeat' first|simp(disch:=first|exact ai|fail) only[go_sem]|(refine ao ?_ ?_<;>intro))
 refine bQ (λp:Nat×AV×List ay=>⟨N [(0,.v (enc es)),(1,.v (enc ns)),(6,.v p.2.1),(7,.v (enc p.1))],p.2.2⟩)
  (λp=>p.1<=ns.length/\apM 104 p.2.1 p.2.2 (bm (ns.take p.1) [])) (λp=>ns.length-p.1) (0,.aS 2,[]) ⟨aqv _,.inl ⟨rfl,rfl⟩⟩ ci ?_
 rintro⟨i,v,H⟩ ⟨L,d⟩;simp only at L d;rcases aqt i ns.length with h|h
 ·have B:bm (ns.take (i+1)) []=bm (ns.take i) []++[⟨ns[i]!,0⟩]:=by rw[bm,bL h,aqH];rfl
  have y7:(bm (ns.take i) []).length=i:=by rw[eT,avX];omega
  rcases d with⟨rfl,e⟩|⟨id,rfl,e⟩
  ·rw[e]at B
   (repeat' first|simp(disch:=first|exact ai|fail) only[go_sem,apI]|(refine ao ?_ ?_<;>intro))
   exact⟨(i+1,.bI H.length 0 1 2,H++[.buf 104 (bf [⟨ns[i]!,0⟩]),.dead]),⟨ap,.inr ⟨H.length,by rw[B];rfl,by rw[B];simp⟩⟩,ap,co⟩
  ·have aF8:H[id]?=some (.buf 104 (bf (bm (ns.take i) [])))/\(bm (ns.take i) []).length=(bm (ns.take i) []).length/\(bm (ns.take i) []).length+1<=M:=⟨e,rfl,am⟩;have bW:=dq e
   (repeat' first|simp(disch:=first|exact ai|fail) only[go_sem,apJ]|(refine ao ?_ ?_<;>intro))
   exact⟨(i+1,.bI H.length 0 (i+1) 2,H.set id .dead++[.buf 104 (bf (bm (ns.take i) []++[⟨ns[i]!,0⟩])),.dead]),⟨ap,.inr ⟨H.length,by rw[B];simp[y7],by rw[B];simp⟩⟩,ap,by rw[y7];(exact bl)⟩
 rw[List.take_of_length_le h]at d;have al:i=ns.length:=by omega
 subst al;rw[<-q]at de;rcases d with⟨rfl,e⟩|⟨id,rfl,e⟩
 ·have nv:ns=[]:=by rw[bm,List.map_eq_nil_iff]at e;exact e
  have yk:es=[]:=List.eq_nil_iff_forall_not_mem.2 λx ah=>by have:=(ax x ah).1;rw[nv]at this;cases this
  have e6:R=some []:=by rw[yk]at de;simpa[bX,bC,eq_comm]using de
  subst yk nv e6
  (repeat' first|simp(disch:=first|exact ai|fail) only[go_sem]|(refine ao ?_ ?_<;>intro))
  refine bQ (λb:Bool=>⟨N [(0,.v (enc ([]:List bR))),(1,.v (enc ([]:List ak))),(6,.v (.aS 2)),(8,.v (.bool b))],H⟩) (λ_=>True) (λb=>if b then 1 else 0) true trivial ci ?_;rintro b -;cases b with
  |true =>
   (repeat' first|simp(disch:=first|exact ai|fail) only[go_sem]|(refine ao ?_ ?_<;>intro))
   refine bQ (λj:Nat=>⟨N [(0,.v (enc ([]:List bR))),(1,.v (enc ([]:List ak))),(6,.v (.aS 2)),(8,.v (.bool false)),(9,.v (enc j))],H⟩) (λj=>j=0) (λ_=>0) 0 rfl ci ?_;rintro j rfl
   (repeat' first|simp(disch:=first|exact ai|fail) only[go_sem]|(refine ao ?_ ?_<;>intro))
   exact⟨false,be,co⟩
  |false =>
   (repeat' first|simp(disch:=first|exact ai|fail) only[go_sem]|(refine ao ?_ ?_<;>intro))
   exact⟨_,rfl,bx.bg (.cons (by first|exact bx.aS _|exact bx.refl _|exact bx.disown _ _ _) (.cons (bx.refl _) .nil))⟩
 rw[eT,<-q];have bW:=dq e;have yW:H.set id (.buf 104 (bf (bm ns [])))=H:=by
  obtain⟨h1,ab⟩:=List.getElem?_eq_some_iff.1 e;rw[<-ab];exact List.set_getElem_self h1
 (repeat' first|simp(disch:=first|exact ai|fail) only[go_sem]|(refine ao ?_ ?_<;>intro))
 rw[<-yW];refine bQ (λp:Bool×Nat×List (ak×Int)=>⟨N [(0,.v (enc es)),(1,.v (enc ns)),(6,.v (.bI id 0 n 2)),(8,.v (.bool p.1))],H.set id (.buf 104 (bf (bm ns p.2.2)))⟩)
  (λp=>xp n p.2.2/\(p.1=true->bX n es p.2.1 p.2.2=some R)/\(p.1=false->R=some p.2.2)) (λp=>if p.1 then p.2.1+1 else 0) (true,n*n+2,[]) ⟨ajY _,λ_=>by rw[q];rw[q]at de;exact de,λh=>d7⟩ ci ?_
 rintro⟨ch,f,lev⟩ ⟨L,d,O⟩;simp only at L d O;cases ch with
 |true =>
  replace d:=d rfl
  cases f with
  |zero=>cases d|succ f =>
  rw[bX]at d;have key:∀(C:Bool)(P:List (ak×Int)),bC n es lev false=some (P,C)->(C=true->bX n es f P=some R)/\(C=false->R=some P):=λC P h=>by
   rw[h]at d;cases C with
   |true=>exact⟨λ_=>d,λh=>d7⟩|false=>exact⟨λh=>d7,λ_=>(Option.some.inj d).symm⟩
  have V:bC n es lev false=none->R=none:=λh=>by
   rw[h]at d;exact(Option.some.inj d).symm
  clear d
  (repeat' first|simp(disch:=first|exact ai|fail) only[go_sem]|(refine ao ?_ ?_<;>intro))
  refine bQ (λp:Nat×List (ak×Int)×Bool=>⟨N [(0,.v (enc es)),(1,.v (enc ns)),(6,.v (.bI id 0 n 2)),(8,.v (.bool p.2.2)),(9,.v (enc p.1))],H.set id (.buf 104 (bf (bm ns p.2.1)))⟩)
   (λp=>p.1<=es.length/\bC n (es.drop p.1) p.2.1 p.2.2=bC n es lev false/\xp n p.2.1) (λp=>es.length-p.1) (0,lev,false) ⟨aqv _,rfl,L⟩ ci ?_
  rintro⟨j,a,Q⟩ ⟨ei,o,w⟩;simp only at ei o w;rcases aqt j es.length with W|W
  ·rw[fi W]at o;obtain⟨Nw,pF⟩:=ax es[j]! (ek W);have E:=ajV w es[j]!;have r:AY a es[j]! = mw a es[j]!.dst+if es[j]!.neg=true then(1:Int)else 0:=rfl;rw[bC]at o;have rl:=w es[j]!.dst;obtain⟨c,X⟩:∃c,c=AY a es[j]!:=⟨_,rfl⟩;rw[<-X]at r E o;obtain⟨src,G⟩:∃s,s=es[j]!.src:=⟨_,rfl⟩;rw[<-G]at Nw o;have t:=apU (H:=H.set id (.buf 104 (bf (bm ns a)))) (id:=id) (e:=104) (n:=n) es[j]!.dst (apL pF) (dV bW) (by rw[eT,q]) am;have Y:(es[j]!.neg=true/\c=mw a es[j]!.dst+1)\/(es[j]!.neg=false/\c=mw a es[j]!.dst):=by
    cases y:es[j]!.neg<;>rw[y]at r<;>simp at r<;>simp[r]
   rcases Y with⟨qW,r⟩|⟨qW,r⟩
   all_goals
    (repeat' first|simp(disch:=first|exact ai|fail) only[go_sem,qW,<-r]|(refine ao ?_ ?_<;>intro)|refine cA t ?_)
    refine bQ (λp:Nat×Bool=>⟨N [(0,.v (enc es)),(1,.v (enc ns)),(6,.v (.bI id 0 n 2)),(8,.v (.bool (p.2||Q))),(9,.v (enc j)),(10,.v (.int .i64 c)),(11,.v (enc p.1))],H.set id (.buf 104 (bf (bm ns (bif p.2 then fV a src c else a))))⟩)
     (λp=>p.1<=n/\p.2=(decide (src∈ns.take p.1)&&decide (mw a src<c))) (λp=>n-p.1) (0,false) ⟨aqv _,be⟩ (by(try simp(disch:=first|exact ai|fail) only[go_sem])<;>(first|rfl|(simp(disch:=first|exact aX|fail) only[b7,aqT,aqU,Env.ins,cp,cq,cr,ct,cu,cv,cw,cx,I.b0,aqw,aqV,avO,avP,aqI,bL,aqH,avQ,avR,cy,cz,go_sem,avT,cond_false];try rfl))) ?_
    rintro⟨k,b⟩ ⟨Z,z⟩;simp only at Z z;rcases aqt k n with hk|hk
    ·have u:k<ns.length:=by omega
     have S:src∈ns.take (k+1)↔src∈ns.take k\/src=ns[k]!:=by rw[bL u];simp
     cases b with
     |true =>
      have Ld:src∈ns.take k/\mw a src<c:=by simpa using z.symm
      have cG:(ns[k]! ==src)=false:=by
       obtain⟨m,hm,he⟩:=List.getElem_of_mem Ld.1;rw[List.getElem_take]at he;rw[avX]at hm;simp only[beq_eq_false_iff_ne];intro h;have aH:ns[k]! = ns[k]:=by simp[u]
       rw[aH,<-he]at h;have:=(List.getElem_inj aI).1 h;omega
      have A:=Ju (lev:=fV a src c) u;have uj:k<(bm ns (fV a src c)).length:=by rw[eT];exact u
      (repeat' first|simp(disch:=first|exact ai|fail) only[go_sem,avY,cond_true,A,cG,<-G]|(refine ao ?_ ?_<;>intro))
      exact⟨(k+1,true),⟨ap,by simp[S,Ld]⟩,ap,by(first|rfl|(simp(disch:=first|exact aX|fail) only[b7,aqT,aqU,Env.ins,cp,cq,cr,ct,cu,cv,cw,cx,I.b0,aqw,aqV,avO,avP,aqI,bL,aqH,avQ,avR,cy,cz,go_sem,avY,cond_true];try rfl))⟩
     |false =>
      have A:=Ju (lev:=a) u;have uj:k<(bm ns a).length:=by rw[eT];exact u
      cases y:ns[k]! ==src with
      |false =>
       have cG:¬src=ns[k]!:=λe=>by rw[e]at y;simp at y
       (repeat' first|simp(disch:=first|exact ai|fail) only[go_sem,avT,cond_false,A,y,<-G]|(refine ao ?_ ?_<;>intro))
       exact⟨(k+1,false),⟨ap,by rw[z];simp only[S,cG,or_false]⟩,ap,by(first|rfl|(simp(disch:=first|exact aX|fail) only[b7,aqT,aqU,Env.ins,cp,cq,cr,ct,cu,cv,cw,cx,I.b0,aqw,aqV,avO,avP,aqI,bL,aqH,avQ,avR,cy,cz,go_sem,avT,cond_false];try rfl))⟩
      |true =>
       have iH:ns[k]! = src:=eq_of_beq y;have sb:=apK aI (lev:=a) u c;rw[iH]at A sb S;have No:(src==src)=true:=by simp
       cases J:decide (mw a src<c)with
       |false =>
        (repeat' first|simp(disch:=first|exact ai|fail) only[go_sem,avT,cond_false,A,No,<-G,J]|(refine ao ?_ ?_<;>intro))
        exact⟨(k+1,false),⟨ap,be⟩,ap,by(first|rfl|(simp(disch:=first|exact aX|fail) only[b7,aqT,aqU,Env.ins,cp,cq,cr,ct,cu,cv,cw,cx,I.b0,aqw,aqV,avO,avP,aqI,bL,aqH,avQ,avR,cy,cz,go_sem,avT,cond_false];try rfl))⟩
       |true =>
        (repeat' first|simp(disch:=first|exact ai|fail) only[go_sem,avT,cond_false,A,No,<-G,J,alX,sb]|(refine ao ?_ ?_<;>intro))
        exact⟨(k+1,true),⟨ap,by simp[S]⟩,ap,by(first|rfl|(simp(disch:=first|exact aX|fail) only[b7,aqT,aqU,Env.ins,cp,cq,cr,ct,cu,cv,cw,cx,I.b0,aqw,aqV,avO,avP,aqI,bL,aqH,avQ,avR,cy,cz,go_sem,avY,cond_true,List.set_set];try rfl))⟩
    ·have lx:k=n:=by omega
     have ae:b=decide (mw a src<c):=by rw[z,lx,q,aLZ];simp[Nw]
     by_cases T:c>(n:Int)
     ·first
      |exfalso;omega
      |rw[if_pos T]at o
       have SK:=V o.symm;have o2:decide (c>(ns.length:Int))=true:=by rw[<-q];simpa using T
       have o3:decide ((k:Int)<(n:Int))=false:=by simp;omega
       (repeat' first|simp(disch:=first|exact ai|fail) only[go_sem,o2,o3]|(refine ao ?_ ?_<;>intro))
       rw[SK];exact⟨_,rfl,bx.bg (.cons (by first|exact bx.aS _|exact bx.refl _) (.cons (bx.refl _) .nil))⟩
     ·rw[if_neg T]at o;have o2:decide (c>(ns.length:Int))=false:=by rw[<-q];simpa using T
      have o3:decide ((k:Int)<(n:Int))=false:=by simp;omega
      (repeat' first|simp(disch:=first|exact ai|fail) only[go_sem,o2,o3]|(refine ao ?_ ?_<;>intro))
      refine⟨(j+1,(bif b then fV a src c else a),b||Q),⟨ap,?_,?_⟩,ap,co⟩
      ·rw[<-o,ae];by_cases J:mw a src<c
       ·simp[J]
       ·simp[J]
      ·cases b with
       |false=>exact w|true=>exact ajW w E.1 am
  ·obtain rfl:j=es.length:=by omega
   rw[avS (Nat.le_refl _),bC]at o;obtain⟨Z,z⟩:=key Q a o.symm
   (repeat' first|simp(disch:=first|exact ai|fail) only[go_sem]|(refine ao ?_ ?_<;>intro))
   exact⟨(Q,f,a),⟨w,Z,z⟩,by simp only;split<;>simp,co⟩
 |false =>
  replace O:=O rfl
  subst O;have Cb:(bm ns lev).length=n/\n<=M:=⟨by rw[eT,q],am⟩
  (repeat' first|simp(disch:=first|exact ai|fail) only[go_sem]|(refine ao ?_ ?_<;>intro))
  exact⟨_,rfl,bx.bg (.cons kO (.cons (bx.refl _) .nil))⟩
open Enc (enc)
theorem apY(n:Nat):((n:Int)==1)=decide (n=1):=by rw[Bool.eq_iff_iff];simp;omega
theorem apZ(n:Nat):((n:Int)==2)=decide (n=2):=by rw[Bool.eq_iff_iff];simp;omega
theorem ap0(l:List aU):(il l).Nodup:=by
 rw[<-FA,mh,bz];exact(fU _ (fU _ (acc:=[]) List.Pairwise.nil).1).1.imp λ{a b}h e=>by
  subst e;rw[GQ.irrefl]at h;cases h
theorem ap1(l:List aU)(m:l.length<=128)(i:∀r∈l,r.body.length<=8):aA ν aD 72 [enc l] (sL l):=by
 have n:M=1099511627776:=rfl;obtain⟨R,de⟩:=aIN l;have j:AZ l=R.map λa=>(il l).map λs=>(s,mw a s):=by unfold AZ;rw[de];rfl
 have k:=Wu l;rw[de]at k;have o:=RY i;have iH:(mv l).length<=1000000:=Nat.le_trans (aI0 l) (by have:=aI1 l;have:=aIZ m i;omega);have b:=apV (mv l) (il l) (ap0 l) (λe he=>aIM he) am iH;have bI:=λ{K:AV->Prop}{tg:aN K}=>apO (D:=bp) (K:=K) (tg:=tg) (x1:=enc (mv l)) (x2:=enc (il l)) (es:=mv l) (ns:=il l) b;rw[k,Option.getD_some]at bI;have c:(enc (mv l):AV)=.list none 3 ((mv l).map bR.enc):=rfl;have d:(enc (il l):AV)=.list none 1 ((il l).map .str):=rfl;rw[c,d]at bI;refine aA.gK (D:=bp) V5 cX (by unfold sL;split<;>rfl) (by unfold sL;split<;>exact λ_ _ _ h=>d7) ?_;unfold uX;cases R with
 |none =>
  rw[show eU (il l) none=.bg [.list none 2 [],.bool false] from rfl]at bI
  (repeat' first|simp(disch:=first|exact ai|fail) only[go_sem,bI]|(refine ao ?_ ?_<;>intro))
  refine⟨_,rfl,?_⟩;rw[sL,j];exact bx.bg (.cons (by first|exact bx.aS _|exact bx.refl _) (.cons (bx.refl _) .nil))
 |some a =>
  rw[show eU (il l) (some a)=.bg [.list none 2 ((bm (il l) a).map e2.enc),.bool true] from rfl]at bI
  (repeat' first|simp(disch:=first|exact ai|fail) only[go_sem,bI]|(refine ao ?_ ?_<;>intro))
  refine⟨_,rfl,?_⟩;rw[sL,j];simp only[Option.map_some,bm,List.map_map];exact bx.bg (.cons (bx.refl _) (.cons (bx.refl _) .nil))
theorem ap4[bt D bp][aT x1 l](a:l.length<=128)(b:∀r∈l,r.body.length<=8) :b1 ν aD D 72 [x1] K tg=K (sL l):=ec (D':=bp) (F:=λ(l:List aU)=>sL l) (fg λ_=>rfl) (ap1 l a b)
attribute [go_sem ↓ 2000] ap4
theorem ap5(l:List aU)(v:l.length<=128)(s:∀r∈l,r.body.length<=8):aA ν aD 35 [enc l] (rP l):=by
 have R:M=1099511627776:=rfl;cases cf:AZ l with
 |none =>
  have e:sL l=.bg [.list none 2 [],.int .i64 10]:=by unfold sL;rw[cf]
  have d:rP l=.bg [.list none 1 [],.int .i64 10]:=by unfold rP oC;rw[cf];rfl
  rw[d];refine aA.gK (D:=bp) Fq cX rfl (λ_ _ _ h=>d7) ?_;unfold kC
  (repeat' first|simp(disch:=first|exact ai|fail) only[go_sem,e]|(refine ao ?_ ?_<;>intro))
  exact⟨_,rfl,bx.bg (.cons (bx.aS _) (.cons (bx.refl _) .nil))⟩
 |some lev =>
  obtain⟨jP,j⟩:∃jP:List e2,jP=lev.map λp=>e2.mk p.1 p.2:=⟨_,rfl⟩;have e:sL l=.bg [.list none 2 (jP.map e2.enc),.int .i64 0]:=by unfold sL;rw[cf,j,List.map_map];rfl
  have o:(jP.map λx=>(x.name,x.level))=lev:=by rw[j,List.map_map];simp[Function.comp_def]
  obtain⟨S,ds⟩:∃S,S=(xh lev+1).toNat:=⟨_,rfl⟩;obtain⟨lv,t⟩:∃lv:Nat->Int,lv=λi=>p1 lev l[i]!.head.name:=⟨_,rfl⟩;have d:rP l=.bg [.list none 1 ((List.range S).map λn=>ue (nP lv l.length n)),.int .i64 0]:=by unfold rP oC;rw[cf,ds,t];simp only[List.map_map];rfl
  rw[d];refine aA.gK (D:=bp) Fq cX rfl (λ_ _ _ h=>d7) ?_;unfold kC
  (repeat' first|simp(disch:=first|exact ai|fail) only[go_sem,e]|(refine ao ?_ ?_<;>intro))
  have w:=(SH lev (-1)).1;have y:xh lev+1=(S:Int):=by have : -1<=xh lev:=w;omega
  have z:S<=100000:=by
   have:=ai4 v s;unfold oC at this;rw[cf]at this;simp only[aqw,List.length_range]at this;omega
  obtain⟨a,q⟩:∃a:Nat->Int,a=λi=>(jP.take i).foldl (λm x=>max m x.level) (-1):=⟨_,rfl⟩;have A:a 0 = -1:=by rw[q];rfl
  have B:∀i,i<jP.length->max (a i) jP[i]!.level=a (i+1):=λi al=>by
   rw[q];simp only[bL al,List.foldl_append,List.foldl_cons,List.foldl_nil]
  have C:a jP.length=xh lev:=by
   rw[q,<-o];simp only[aLZ,xh,List.foldl_map]
  have T:jP.length<=1000000:=by
   have ah:=cf;unfold AZ at ah;rw[Option.map_eq_some_iff]at ah;obtain⟨x,_,ah⟩:=ah;have:=RY s;rw[j,<-ah,aqw,aqw];omega
  refine bQ (λi:Nat=>⟨N [(0,.v (enc l)),(4,.v (enc jP)),(6,.v (.int .i64 (a i))),(7,.v (enc i))],[]⟩) (λi=>i<=jP.length) (λi=>jP.length-i) 0 (aqv _) (by(try simp(disch:=first|exact ai|fail) only[go_sem])<;>(first|rfl|(simp(disch:=first|exact aX|fail) only[b7,aqT,aqU,Env.ins,cp,cq,cr,ct,cu,cv,cw,cx,I.b0,aqw,aqV,avO,avP,aqI,bL,aqH,avQ,avR,cy,cz,go_sem,A];try rfl))) ?_;intro i al;rcases aqt i jP.length with h|h
  ·have E:=B i h
   (repeat' first|simp(disch:=first|exact ai|fail) only[go_sem,E]|(refine ao ?_ ?_<;>intro))
   exact⟨i+1,am,am,co⟩
  obtain rfl:i=jP.length:=by omega
  have G:xh lev=(S:Int)-1:=by omega
  (repeat' first|simp(disch:=first|exact ai|fail) only[go_sem,C]|(refine ao ?_ ?_<;>intro))
  refine bQ (λn:Nat=>⟨N [(0,.v (enc l)),(4,.v (enc jP)),(6,.v (.int .i64 (xh lev))),(8,.v (.list (some 55) 1 ((List.range n).map λk=>ue (nP lv l.length k)))),(9,.v (enc n))],[]⟩) (λn=>n<=S) (λn=>S-n) 0 (aqv _) (by(try simp(disch:=first|exact ai|fail) only[go_sem])<;>(first|rfl|(simp(disch:=first|exact aX|fail) only[b7,aqT,aqU,Env.ins,cp,cq,cr,ct,cu,cv,cw,cx,I.b0,aqw,aqV,avO,avP,aqI,bL,aqH,avQ,avR,cy,cz,go_sem,List.range_zero];try rfl))) ?_;intro n V;rcases aqt n S with J|J
  ·(repeat' first|simp(disch:=first|exact ai|fail) only[go_sem]|(refine ao ?_ ?_<;>intro))
   refine bQ (λk:Nat=>⟨N [(0,.v (enc l)),(4,.v (enc jP)),(6,.v (.int .i64 (xh lev))),(8,.v (.list (some 55) 1 ((List.range n).map λk=>ue (nP lv l.length k)))),(9,.v (enc n)),(10,.v (.list (some 3) 1 ((nP lv k n).map qO))),(11,.v (enc k))],[]⟩) (λk=>k<=l.length) (λk=>l.length-k) 0 (aqv _) ci ?_;intro k hk;rcases aqt k l.length with L|L
   ·have u:p1 lev l[k]!.head.name=lv k:=by rw[t]
    have b:=aj1 lv k n;have O:=aIY lv k n;obtain⟨Y,P⟩:∃Y,Y=nP lv k n:=⟨_,rfl⟩;rw[<-P]at b O ⊢;cases c:lv k==(n:Int)with
    |true =>
     rw[if_pos (eq_of_beq c)]at b
     (repeat' first|simp(disch:=first|exact ai|fail) only[go_sem,o,u,c]|(refine ao ?_ ?_<;>intro))
     exact⟨k+1,am,am,by rw[b];(first|rfl|(simp(disch:=first|exact aX|fail) only[b7,aqT,aqU,Env.ins,cp,cq,cr,ct,cu,cv,cw,cx,I.b0,aqw,aqV,avO,avP,aqI,bL,aqH,avQ,avR,cy,cz,go_sem,qO];try rfl))⟩
    |false =>
     rw[if_neg (λe=>by rw[e]at c;simp at c)]at b
     (repeat' first|simp(disch:=first|exact ai|fail) only[go_sem,o,u,c]|(refine ao ?_ ?_<;>intro))
     exact⟨k+1,am,am,by rw[b];(exact bl)⟩
   ·obtain rfl:k=l.length:=by omega
    have Q:(List.range n).length+1<=M:=by rw[List.length_range];omega
    (repeat' first|simp(disch:=first|exact ai|fail) only[go_sem,Q]|(refine ao ?_ ?_<;>intro))
    exact⟨n+1,am,am,by rw[List.range_succ];(first|rfl|(simp(disch:=first|exact aX|fail) only[b7,aqT,aqU,Env.ins,cp,cq,cr,ct,cu,cv,cw,cx,I.b0,aqw,aqV,avO,avP,aqI,bL,aqH,avQ,avR,cy,cz,go_sem,ue];try rfl))⟩
  ·obtain rfl:n=S:=by omega
   (repeat' first|simp(disch:=first|exact ai|fail) only[go_sem]|(refine ao ?_ ?_<;>intro))
   exact⟨_,rfl,bx.bg (.cons kO (.cons (bx.refl _) .nil))⟩
theorem ap6[bt D bp][aT x1 l](a:l.length<=128)(b:∀r∈l,r.body.length<=8) :b1 ν aD D 35 [x1] K tg=K (rP l):=ec (D':=bp) (F:=λ(l:List aU)=>rP l) (fg λ_=>rfl) (ap5 l a b)
attribute [go_sem ↓ 2000] ap6
theorem ap7(l:List aU)(hd:∀r∈l,∀a∈dx r,cc a<=1000000):aA ν aD 32 [enc l] (enc (dI l)):=by
 have m:M=1099511627776:=rfl;have c:=aLf l;refine aA.intro (D:=bp) V1 cX c7 ?_;unfold sw;simp(disch:=first|exact ai|fail) only[go_sem];rcases aL0 (hG l)with b|b
 ·rw[b]at c;obtain⟨n,h⟩:=xi b;have i:∀r∈l,r.body.length<=8:=λr j=>(h r j).b;have d:(oC l).2=match AZ l with|none=>10|some _=>0:=by unfold oC;cases AZ l<;>rfl
  cases cf:AZ l with
  |none =>
   have e:sL l=.bg [.list none 2 [],.int .i64 10]:=by unfold sL;rw[cf]
   rw[cf]at d
   (repeat' first|simp(disch:=first|exact ai|fail) only[go_sem,c,e]|(refine ao ?_ ?_<;>intro))
   rw[dI,b,d];rfl
  |some lev =>
   have e:sL l=.bg [.list none 2 (lev.map λp=>(e2.mk p.1 p.2).enc),.int .i64 0]:=by unfold sL;rw[cf]
   rw[cf]at d
   (repeat' first|simp(disch:=first|exact ai|fail) only[go_sem,c,e]|(refine ao ?_ ?_<;>intro))
   rw[dI,b,d];rfl
 ·have k:((hG l:Int) != 0)=true:=by simp;omega
  (repeat' first|simp(disch:=first|exact ai|fail) only[go_sem,c,k]|(refine ao ?_ ?_<;>intro))
  rw[dI,if_pos am]
theorem ap8[bt D bp][aT x1 l](h:∀r∈l,∀a∈dx r,cc a<=1000000) :b1 ν aD D 32 [x1] K tg=K (enc (dI l)):=ec (D':=bp) (F:=λ(l:List aU)=>enc (dI l)) (fg λ_=>rfl) (ap7 l h)
attribute [go_sem ↓ 2000] ap8
theorem ap9(g:List I):aA ν aD 33 [enc g] (enc (rO g)):=by
 refine aA.h4 λae=>?_;obtain⟨ae,q⟩:=ae;have r:M=1099511627776:=rfl;obtain⟨R,de⟩:∃R,R=rO g:=⟨_,rfl⟩;rw[<-de];refine aA.intro (D:=bp) V2 cX c7 ?_;unfold tI;simp(disch:=first|exact ai|fail) only[go_sem];refine bQ (λi:Nat=>⟨N [(0,.v (enc g)),(3,.v (enc i))],[]⟩) (λi=>i<=g.length/\R=(decide (g.length<=512)&&(g.drop i).all A0)) (λi=>g.length-i) 0 ⟨aqv _,de⟩ ci ?_;rintro i ⟨s,b⟩;rcases aqt i g.length with h|h
 ·rw[fi h,aqx]at b;obtain⟨a,aG⟩:∃a,a=g[i]!:=⟨_,rfl⟩;rw[<-aG]at b;have c:A0 a=((a.name==[116,114,117,101]&&decide (a.args.length=1)||a.name==[100,111,101,115]&&decide (a.args.length=2))&&cD 4 a false):=rfl;have d:=apY a.args.length;have e:=apZ a.args.length;cases j:cD 4 a false<;>cases k:a.name==[116,114,117,101]<;>cases m:decide (a.args.length=1)<;>cases n:a.name==[100,111,101,115]<;>cases o:decide (a.args.length=2)<;>rw[j,k,m,n,o]at c<;>rw[c]at b<;>rw[m]at d<;>rw[o]at e;all_goals
   simp only[Bool.and_true,Bool.and_false,ax6,aKc,Bool.or_true,Bool.or_false,avY,avT]at b
   (repeat' first|simp(disch:=first|exact ai|fail) only[go_sem,<-aG,j,k,n,d,e]|(refine ao ?_ ?_<;>intro))
   first|exact⟨i+1,⟨am,b⟩,am,co⟩|rw[b]
 ·rw[avS h,aqB,Bool.and_true]at b;subst b;have p:decide ((g.length:Int)<=512)=decide (g.length<=512):=by simp;omega
  (repeat' first|simp(disch:=first|exact ai|fail) only[go_sem,p]|(refine ao ?_ ?_<;>intro))
  all_goals rfl
theorem aqa[bt D bp][aT x1 g]  :b1 ν aD D 33 [x1] K tg=K (enc (rO g)):=ec (D':=bp) (F:=λ(g:List I)=>enc (rO g)) (fg λ_=>rfl) (ap9 g)
attribute [go_sem ↓ 2000] aqa
open Enc (enc)
variable {A:List I}
theorem aqb{L:List aU}{S:List I}(C:sR L A){r:aU}(c:r∈L)(b:Hf r)(cE:jo S)(ds:∀a∈S,a∈A):DP r S:=by
 refine⟨aLB C c (K1 cE) ds λl d=>(b.a l.atom (by simp only[dx,List.mem_cons,List.mem_map];exact .inr ⟨l,d,rfl⟩)).2,?_,b.hz⟩;have e:=b.toRV1.leaves;rw[dx,bF,List.length_append]at e;omega
theorem aqc(v:∀r∈l,RV1 r)(cE:jo A)(i:gX A)(z:A.length<=512){R:Nat×List I}(h:xe (f+1) l A=some R) :
  (∃e,e≠0/\xy A (eB l A)=([],e)/\R.1=e)\/(xy A (eB l A)=(A,0)/\R=(0,A)) \/
  (∃B,xy A (eB l A)=(B,0)/\A.length<B.length/\jo B/\gX B/\B.length<=512/\(∀a∈B,a∈A\/a∈eB l A)/\jR (eB l A)=false/\xe f l B=some R):=by
 obtain⟨s,en⟩:=QH (eB l A) A cE;rw[xe]at h;cases hd:jR (eB l A)with
 |true =>
  rw[hd,if_pos rfl,Option.some.injEq]at h;exact .inl ⟨3,dw,by rw[xy,hd,if_pos rfl],by rw[<-h]⟩
 |false =>
  rw[hd,if_neg be]at h;have m:∀x∈eB l A,cD 4 x false=true:=λx ah=>Dm v i hd ah;have t:∀x,x∈kZ l A↔x∈eB l A/\x∉A:=λx=>by
   rw[ub];constructor
   ·rintro⟨c,j⟩;exact⟨c,λq=>by rw[(KY i (m x c)).2 q]at j;cases j⟩
   ·rintro⟨c,j⟩;exact⟨c,by rw[Bool.eq_false_iff];exact λq=>j ((KY i (m x c)).1 q)⟩
  have u:fx (A++kZ l A)=lI A (eB l A):=(QJ s λx=>by rw[en,List.mem_append,t];grind).symm;have n:gX (lI A (eB l A)):=λx ah=>((en x).1 ah).elim (m x) (i x);have b:xy A (eB l A)=if 512<(lI A (eB l A)).length then([],11)else(lI A (eB l A),0):=by rw[xy,hd,if_neg be]
  rw[u]at h;by_cases k:kZ l A=[]
  ·rw[if_pos k,Option.some.injEq]at h;have e:lI A (eB l A)=A:=by rw[<-u,k,List.append_nil,Wd cE]
   rw[e,if_neg am]at b;exact .inr (.inl ⟨b,h.symm⟩)
  ·rw[if_neg k]at h;split at h
   ·cases h
   ·split at h
    ·rename_i o;rw[if_pos o]at b;simp only[Option.some.injEq]at h;exact .inl ⟨11,dw,b,by rw[<-h]⟩
    ·rename_i o;rw[if_neg o]at b;obtain⟨x,ah⟩:=List.exists_mem_of_ne_nil _ k;have d:=(t x).1 ah;have w:(x::A).length<=(lI A (eB l A)).length:=List.Nodup.length_le_of_subset (List.nodup_cons.2 ⟨d.2,K1 cE⟩) λy p=>by
      rw[en];rcases List.mem_cons.1 p with rfl|p
      ·exact .inl d.1
      ·exact .inr p
     exact .inr (.inr ⟨_,b,w,s,n,am,λa aG=>((en a).1 aG).symm,rfl,h⟩)
theorem o4{rs:List aU}(a:hG l=0)(ax:∀r∈rs,r∈l)(cE:gX A):(rs.flatMap λr=>mA r A)=eB rs A:=by
 rw[eB,List.flatMap_def,List.flatMap_def,List.map_congr_left λr b=>aKu cE (alu a r (ax r b))]
theorem aqf(l:List aU)(g:List I)(hd:∀r∈l,∀a∈dx r,cc a<=1000000)(hR:hG l=0->rO g=true->∃A,sR l A/\∀a∈g,a∈A)(ds:(iz l g).isSome=true) :
  aA ν aD 9 [enc l,enc g] (j8 (iz l g)):=by
 have cP:M=1099511627776:=rfl;obtain⟨⟨uk,Bf⟩,e6⟩:=Option.isSome_iff_exists.1 ds;rw[e6];have j:=e6;unfold iz at j;refine aA.gK (D:=bp) V0 cX (by rfl) (λ_ _ _ h=>d7) ?_;unfold rE;by_cases m:hG l=0
 case neg =>
  rw[if_pos m,Option.some.injEq]at j;have t:dI l=hG l:=if_pos m;have sJ:((hG l:Int) != 0)=true:=by simp;omega
  (repeat' first|simp(disch:=first|exact ai|fail) only[go_sem,t,sJ]|(refine ao ?_ ?_<;>intro))
  rw[<-j];exact⟨_,rfl,pd (hG l)⟩
 case pos =>
 rw[if_neg am]at j;obtain⟨K7,P⟩:=xi m;have t:dI l=(oC l).2:=if_neg am;by_cases Q:(oC l).2=0
 case neg =>
  rw[if_pos Q,Option.some.injEq]at j;have R3:(((oC l).2:Int) != 0)=true:=by simp;omega
  (repeat' first|simp(disch:=first|exact ai|fail) only[go_sem,t,R3]|(refine ao ?_ ?_<;>intro))
  rw[<-j];exact⟨_,rfl,pd (oC l).2⟩
 case pos =>
 rw[if_neg am]at j;rw[Q]at t;cases u:rO g with
 |false =>
  rw[u]at j;simp only[Bool.not_false,if_true,Option.some.injEq]at j
  (repeat' first|simp(disch:=first|exact ai|fail) only[go_sem,t,u]|(refine ao ?_ ?_<;>intro))
  rw[<-j];exact⟨_,rfl,pd 13⟩
 |true =>
 rw[u]at j;simp only[Bool.not_true,Bool.false_eq_true,if_false]at j;obtain⟨JB,C,Fj⟩:=hR m u;obtain⟨WW,S⟩:=aHa u;obtain⟨rows,x⟩:∃rows,rows=(oC l).1:=⟨_,rfl⟩;have R2:rP l=.bg [.list none 1 (rows.map ue),.int .i64 0]:=by rw[rP,x,Q];rfl
 have oA:rows.length<=100000:=by rw[x];exact ai4 K7 λr c=>(P r c).b
 have Uf:∀row∈rows,∀k∈row,k<l.length:=λrow c k hk=>aG7 (x▸c) hk;have aHM:∀r∈l,r.body.length<=8:=λr c=>(P r c).b;rw[<-x]at j;have qi:=Kf g
 (repeat' first|simp(disch:=first|exact ai|fail) only[go_sem,t,u,R2]|(refine ao ?_ ?_<;>intro))
 refine bQ (λp:Nat×List I=>⟨N [(0,.v (enc l)),(7,.v (enc p.2)),(8,.v (.list none 1 (rows.map ue))),(10,.v (enc p.1))],[]⟩)
  (λp=>p.1<=rows.length/\GJ l (rows.drop p.1) p.2=some (uk,Bf)/\jo p.2/\gX p.2/\p.2.length<=512/\∀a∈p.2,a∈JB) (λp=>rows.length-p.1) (0,fx g)
  ⟨aqv _,j,wZ g,λa h=>S a ((rI _ _).1 h),ap,λa h=>Fj a ((rI _ _).1 h)⟩ ci ?_
 rintro⟨s,A⟩ ⟨i1,d,i3,i4,i5,i6⟩;simp only at i1 d i3 i4 i5 i6;rcases aqt s rows.length with ax|ax
 ·rw[fi ax,GJ]at d;have T:=Uf _ (ek ax);obtain⟨row,o⟩:∃row,row=rows[s]!:=⟨_,rfl⟩;rw[<-o]at d T;obtain⟨rs,G⟩:∃rs,rs=row.map (l[·]!):=⟨_,rfl⟩;have q:∀r∈rs,r∈l:=λr c=>by
   rw[G,List.mem_map]at c;obtain⟨k,hk,rfl⟩:=c;exact ek (T k hk)
  have JC:∀r∈rs,RV1 r:=λr c=>P r (q r c);rw[<-G]at d;cases V:xe 600 rs A with
  |none=>rw[V]at d;cases d|some R =>
  obtain⟨W,X⟩:=R;rw[V]at d;simp only at d
  (repeat' first|simp(disch:=first|exact ai|fail) only[go_sem]|(refine ao ?_ ?_<;>intro))
  refine bQ (λp:Bool×Nat×List I=>⟨N [(0,.v (enc l)),(7,.v (enc p.2.2)),(8,.v (.list none 1 (rows.map ue))),(10,.v (enc s)),(11,.v (.bool p.1))],[]⟩)
   (λp=>(p.1=true->xe p.2.1 rs p.2.2=some (W,X))/\(p.1=false->(W,X)=(0,p.2.2))/\jo p.2.2/\gX p.2.2/\p.2.2.length<=512/\∀a∈p.2.2,a∈JB) (λp=>if p.1 then p.2.1+1 else 0) (true,600,A)
   ⟨λ_=>V,λh=>d7,i3,i4,i5,i6⟩ ci ?_
  rintro⟨more,f,b⟩ ⟨y,dy,v,n,J,w⟩;simp only at y dy v n J w;cases more with
  |false =>
   have e:=dy rfl;simp only[Prod.mk.injEq]at e;obtain⟨rfl,rfl⟩:=e;rw[if_pos rfl]at d
   (repeat' first|simp(disch:=first|exact ai|fail) only[go_sem]|(refine ao ?_ ?_<;>intro))
   exact⟨(s+1,X),⟨ap,d,v,n,J,w⟩,ap,co⟩
  |true =>
   replace y:=y rfl
   cases f with
   |zero=>cases y|succ f =>
   have Z:=aqc JC v n J y;have T8:∀r∈rs,DP r b:=λr c=>aqb C (q r c) (alu m r (q r c)) v w;have aqi:rs.length=row.length:=by rw[G,aqw]
   have aqs:row.length<=128:=by
    have hm:row∈(oC l).1:=by rw[o,<-x];exact ek ax
    have:=aHb hm;omega
   rw[<-o4 m q n]at Z
   (repeat' first|simp(disch:=first|exact ai|fail) only[go_sem,ue,<-o]|(refine ao ?_ ?_<;>intro))
   refine bQ (λi:Nat=>⟨N [(0,.v (enc l)),(7,.v (enc b)),(8,.v (.list none 1 (rows.map ue))),(10,.v (enc s)),(12,.v (.list (some 31) 2 (((rs.take i).flatMap λr=>mA r b).map I.enc))),(13,.v (enc i))],[]⟩)
    (λi=>i<=row.length) (λi=>row.length-i) 0 (aqv _) (by(try simp(disch:=first|exact ai|fail) only[go_sem])<;>(first|rfl|(simp(disch:=first|exact aX|fail) only[b7,aqT,aqU,Env.ins,cp,cq,cr,ct,cu,cv,cw,cx,I.b0,aqw,aqV,avO,avP,aqI,bL,aqH,avQ,avR,cy,cz,go_sem,List.flatMap_nil];try rfl))) ?_
   intro i cF;have L:((rs.take i).flatMap λr=>mA r b).length<=(rs.take i).length*5000:=GK _ λr c=>alT (T8 r (List.mem_of_mem_take c));rw[avX,aqi]at L;rcases aqt i row.length with al|al
   ·have z:i<rs.length:=by omega
    have xW:rs[i]! = l[row[i]!]!:=by rw[G];simp[al]
    have LA:((rs.take (i+1)).flatMap λr=>mA r b)=((rs.take i).flatMap λr=>mA r b)++mA l[row[i]!]! b:=by rw[bL z,List.flatMap_append,xW];simp
    have bh:jo b/\DP l[row[i]!]! b:=⟨v,by rw[<-xW];exact T8 _ (ek z)⟩;have aPx:=alT bh.2;have gb:=T _ (ek al);obtain⟨Y,O⟩:∃Y,Y=(rs.take i).flatMap λr=>mA r b:=⟨_,rfl⟩;rw[<-O]at LA L ⊢
    (repeat' first|simp(disch:=first|exact ai|fail) only[go_sem,ue,<-o,qO]|(refine ao ?_ ?_<;>intro))
    exact⟨i+1,am,am,by rw[LA];(exact bl)⟩
   ·rw[List.take_of_length_le am]at L ⊢;have mu:∀a∈(rs.flatMap λr=>mA r b),cc a<=1000000:=λa aG=>by
     rw[o4 m q n,eB,List.mem_flatMap]at aG;obtain⟨r,c,bh⟩:=aG;have:=GH (aiN n (JC r c) bh);omega
    obtain⟨Y,O⟩:∃Y,Y=rs.flatMap λr=>mA r b:=⟨_,rfl⟩;have aqj:Y=eB rs b:=by rw[O,o4 m q n]
    rw[<-O]at Z L mu ⊢;have aPy:b.length+Y.length<=900000/\∀a∈Y,cc a<=1000000:=⟨am,mu⟩;rcases Z with⟨e,he,aG,de⟩|⟨aG,de⟩|⟨B,aG,aj,av,aQ,bG,ev,py,v7⟩
    ·have E:j8 (some (xy b Y))=.bg [enc ([]:List I),.int .i64 e]:=by rw[aG];rfl
     have aqk:(((e:Nat):Int) != 0)=true:=by simp;omega
     simp only at de;subst de;rw[if_neg he,Option.some.injEq]at d
     (repeat' first|simp(disch:=first|exact ai|fail) only[go_sem,ue,<-o,E,aqk]|(refine ao ?_ ?_<;>intro))
     rw[<-d];exact⟨_,rfl,pd W⟩
    ·have E:j8 (some (xy b Y))=.bg [enc b,.int .i64 0]:=by rw[aG];rfl
     have R6:decide ((b.length:Int)>(b.length:Int))=false:=by simp
     (repeat' first|simp(disch:=first|exact ai|fail) only[go_sem,ue,<-o,E,R6]|(refine ao ?_ ?_<;>intro))
     exact⟨(false,f,b),⟨λh=>d7,λ_=>de,v,n,J,w⟩,be,co⟩
    ·have E:j8 (some (xy b Y))=.bg [enc B,.int .i64 0]:=by rw[aG];rfl
     have R6:decide ((B.length:Int)>(b.length:Int))=true:=by simp;omega
     (repeat' first|simp(disch:=first|exact ai|fail) only[go_sem,ue,<-o,E,R6]|(refine ao ?_ ?_<;>intro))
     refine⟨(true,f,B),⟨λ_=>v7,λh=>d7,av,aQ,bG,λa h=>?_⟩,be,co⟩;rcases ev a h with h|h
     ·exact w a h
     ·rw[aqj]at h py;exact C.round q w py a h
 ·rw[avS ax,GJ]at d;simp only[Option.some.injEq,Prod.mk.injEq]at d;obtain⟨rfl,rfl⟩:=d
  (repeat' first|simp(disch:=first|exact ai|fail) only[go_sem]|(refine ao ?_ ?_<;>intro))
  exact⟨_,rfl,bx.refl _⟩
open Enc (enc)
theorem aL2(b:aA ν aD 7 [] (enc true))(l:List aU)(g:List I)(v:∀r∈l,DJ r)(w:∀a∈g,fH 1048576 a):aA ν aD 3 [enc l,enc g] (enc true):=by
 have x:M=1099511627776:=rfl;have aG:=λ{K:AV->Prop}{tg:aN K}=>aKd (D:=bp) (K:=K) (tg:=tg) b;cases c:rV l g with
 |false =>
  refine aA.intro (D:=bp) Fp cX c7 ?_;unfold kB
  (repeat' first|simp(disch:=first|exact ai|fail) only[go_sem,c,aG]|(refine ao ?_ ?_<;>intro))
  all_goals rfl
 |true =>
 obtain⟨k,y,m⟩:=aKh c;have z:=(Hc k).1;obtain⟨S,e,n,B,C,E⟩:=Wg m (λr=>Iff.rfl) (λa=>Iff.rfl);have d:=aKg k;have h:(iz l g).isSome=true:=by rw[n];rfl
 have o:j8 (iz l g)=.bg [enc S,.int .i64 e]:=by rw[n];rfl
 have i:=aqf l g d (λp q=>aJ0 (xi p).2 (aHa q).2 m) h;have j:=λ{K:AV->Prop}{tg:aN K}=>apP (D:=bp) (K:=K) (tg:=tg) (x1:=enc l) (x2:=enc g) (l:=l) (g:=g) i;rw[o]at j;have s:∀R:List aU,(enc R:AV)=.list none 3 (R.map aU.enc):=λ_=>rfl;have t:∀R:List I,(enc R:AV)=.list none 2 (R.map I.enc):=λ_=>rfl;simp only[s,t]at j;have u:gD S S=true:=(FN S S).2 rfl;refine aA.intro (D:=bp) Fp cX c7 ?_;unfold kB
 (repeat' first|simp(disch:=first|exact ai|fail) only[go_sem,c,aG,o,j,u]|(refine ao ?_ ?_<;>intro))
 all_goals rfl
open Enc (enc)
def sV:Option (List aY×Bool)->AV
 |some (s,b)=>.bg [k3 s,.bool b]|none=>.bg []
def DQ:Option (List aY×Bool)->AV
 |some (s,b)=>.bg [enc s,.bool b]|none=>.bg []
noncomputable def al1:List AV->Option AV
 |[_,_,y]=>eh (λt:List aY=>enc t) [y]|_=>none
noncomputable def al2:List AV->Option AV:=λ_=>some (.aS 3)
noncomputable def al3:List AV->Option AV
 |[_,x,y]=>hj (λ(v:ak)(t:I)=>enc [aY.mk v t]) [x,y]|_=>none
noncomputable def Ud:List iZ:=[(141,eh λ(t:I)=>enc (zf t)),
 (142,hj λ(s:List aY)(v:ak)=>.bg [.int .i64 (oH s v),.bool (sS s v)]),
 (143,hj λ(t:I)(u:I)=>enc (hi t u)),
 (145,eh λ(t:I)=>enc (t)),
 (181,al1),
 (182,al2),
 (144,al3),
 (94,qF λ(p:I)(g:I)(s:List aY)=>sV (oI p g s)),
 (95,eh λ(s:List aY)=>enc (s)),
 (93,eh λ(s:List aY)=>enc (q1 s)),
 (50,qF λ(p:I)(g:I)(s:List aY)=>DQ (sU p g s))]
noncomputable def e7:bj:=ij nR (e1 Ud)
instance aPz{D:bj}[h:bt D e7]:bt D nR:=h.ke
def al4:List Nat:=[141,142,143,145,181,182,144,94,95,93,50]++G2
theorem aL8:fq e7 al4:=fq.or Lh (kf Ud)
theorem sW(h:∀xs,e1 Ud f xs=F xs)(hk:G2.contains f=false:=by rfl):∀xs,e7 f xs=F xs:=λxs=>by rw[<-h];exact kg Lh hk
variable {t:I}
theorem aL9[bt D e7][aT x1 t](h:aA ν aD 145 [enc t] (enc (t))):b1 ν aD D 145 [x1] K tg=K (enc (t)):=ec (D':=e7) (F:=λ(t:I)=>enc (t)) (sW λ_=>rfl) h
theorem aMa(t:I):aA ν aD 141 [enc t] (enc (zf t)):=by
 have a:((t.args.length:Int)==0)=decide (t.args.length=0):=by rw[Bool.eq_iff_iff];simp
 unfold zf;refine aA.intro (D:=e7) azu cX c7 ?_;unfold acV;simp(disch:=first|exact ai|fail) only[go_sem];cases b:decide (t.args.length=0)<;>cases c:eg t.name;all_goals (repeat' first|simp(disch:=first|exact ai|fail) only[go_sem,a,b,c]|(refine ao ?_ ?_<;>intro))
 all_goals rfl
theorem aMb[bt D e7][aT x1 t]  :b1 ν aD D 141 [x1] K tg=K (enc (zf t)):=ec (D':=e7) (F:=λ(t:I)=>enc (zf t)) (sW λ_=>rfl) (aMa t)
attribute [go_sem ↓ 2000] aMb
theorem al5(b:aY)(v:ak):aA ν aD 179 [enc b,enc v] (enc (du b.var v)):=by
 refine aA.intro (D:=e7) afs cX c7 ?_;unfold ad2;simp(disch:=first|exact ai|fail) only[go_sem]
 (repeat' first|refine ag ?_|(refine ao ?_ ?_<;>intro))
 all_goals rfl
theorem aMc(s:List aY)(v:ak)(w:s.length<=M) :
  bB ν aD 178 [enc s,enc v,.fn 179 []] H λr H'=>r=.bg [.int .i64 (oH s v),.bool (sS s v)]/\H'=H:=by
 have x:M=1099511627776:=rfl;have d:=(yh afs).1;obtain⟨c,a⟩:∃c:Nat->Bool,c=λk:Nat=>decide (du s[k]!.var v<0):=⟨_,rfl⟩;have j:oH s v=p8 c s.length 0 s.length:=by rw[a];rfl
 refine bB.intro (D:=e7) azT ?_;unfold ad0;refine ag ?_;refine bQ (λp:Nat×Nat=>⟨N [(0,.v (enc s)),(1,.v (enc v)),(2,.v (.fn 179 [])),(8,.v (enc s.length)),(9,.v (enc p.1)),(10,.v (enc p.2))],H⟩)
  (λp=>p.1<=p.2/\p.2<=s.length/\p8 c s.length p.1 p.2=oH s v) (λp=>p.2-p.1) (0,s.length) ⟨aqv _,Nat.le_refl _,j.symm⟩ ew ?_
 rintro⟨bc,al⟩ ⟨n,o,b⟩;simp only at n o b;rcases aqt bc al with h|h
 ·obtain⟨m,hm⟩:∃m,m=(bc+al) / 2:=⟨_,rfl⟩;have y:m<s.length:=by omega
  have ax:=aL4 c (f:=s.length) am h;rw[<-hm]at ax;have q:c m=decide (du s[m]!.var v<0):=by simp only[a]
  rw[q]at ax;have e:((bc:Int)+(al:Int)) / 2=(m:Int):=by omega
  have hd:=al5 s[m]! v;rcases Int.lt_or_le (du s[m]!.var v) 0 with a|a
  ·rw[decide_eq_true a,if_pos rfl]at ax
   (repeat' first|simp(disch:=first|exact ai|fail) only[go_sem,e,jL]|(refine ao ?_ ?_<;>intro)|refine CV d hd ?_)
   exact⟨(m+1,al),⟨ap,ap,ax.symm.trans b⟩,ap,co⟩
  ·rw[decide_eq_false am,if_neg be]at ax
   (repeat' first|simp(disch:=first|exact ai|fail) only[go_sem,e,jL]|(refine ao ?_ ?_<;>intro)|refine CV d hd ?_)
   exact⟨(bc,m),⟨ap,ap,ax.symm.trans b⟩,ap,co⟩
 ·have ar:oH s v=bc:=by rw[<-b,Hk c am]
  have u:sS s v=(decide (bc<s.length)&&(du s[bc]!.var v==0)):=by rw[sS,ar]
  rw[ar,u];rcases aqt bc s.length with i|i
  ·rw[decide_eq_true i,ax6];have hd:=al5 s[bc]! v
   (repeat' first|simp(disch:=first|exact ai|fail) only[go_sem,jL]|(refine ao ?_ ?_<;>intro)|refine CV d hd ?_)
   exact⟨_,rfl,d9⟩
  ·rw[decide_eq_false am,aKc];refine bU @jL ?_;exact⟨_,rfl,d9⟩
theorem aMd(s:List aY)(v:ak)(a:s.length<=M):aA ν aD 142 [enc s,enc v] (.bg [.int .i64 (oH s v),.bool (sS s v)]):=by
 have ae:=aMc (H:=[]) s v a;refine aA.intro (D:=e7) azv (by simp only[aqx,aqB,Enc.arg,aqE]) rfl ?_;unfold acX
 (repeat' first|simp(disch:=first|exact ai|fail) only[go_sem]|(refine ao ?_ ?_<;>intro)|refine cA ae ?_)
 all_goals rfl
variable {s:List aY}
theorem aMe[bt D e7]{v:ak}[aT x1 s][aT x2 v](h:s.length<=M) :b1 ν aD D 142 [x1,x2] K tg=K (.bg [.int .i64 (oH s v),.bool (sS s v)]):=ik (D':=e7) (F:=λ(s:List aY)(v:ak)=>.bg [.int .i64 (oH s v),.bool (sS s v)]) (sW λ_=>rfl) (aMd s v h)
attribute [go_sem ↓ 2000] aMe
theorem aMf{l m:List I}{i:Nat}(a:i<l.length)(b:i<m.length):gD (l.drop i) (m.drop i)=(hi l[i]! m[i]!&&gD (l.drop (i+1)) (m.drop (i+1))):=by
 rw[fi a,fi b,gD]
theorem aMg(l m:List I)(e:l.length<=M/\m.length<=M)(h:∀t∈l,∀u,aA ν aD 143 [enc t,enc u] (enc (hi t u))) :
  bB ν aD 180 [enc l,enc m,.fn 143 []] H λr H'=>r=.bool (decide (l.length=m.length)&&gD l m)/\H'=H:=by
 have j:M=1099511627776:=rfl;have c:=(yh afn).1;refine bB.intro (D:=e7) azU ?_;unfold ad5;rcases Decidable.em (l.length=m.length)with b|b
 ·have cG:((l.length:Int) != (m.length:Int))=false:=by rw[b];simp
  rw[decide_eq_true b,ax6];refine bU @cG ?_;refine bQ (λi:Nat=>⟨N [(1,.v (enc m)),(2,.v (.fn 143 [])),(15,.v (enc l)),(16,.v (enc l.length)),(17,.v (enc i))],H⟩) (λi=>i<=l.length/\gD (l.drop i) (m.drop i)=gD l m) (λi=>l.length-i) 0 ⟨aqv _,rfl⟩ ew ?_;rintro i ⟨k,a⟩;rcases aqt i l.length with al|al
  ·have hd:=h l[i]! (ek al) m[i]!;rw[aMf al am]at a;cases d:hi l[i]! m[i]! with
   |true =>
    rw[d]at hd a;rw[ax6]at a
    (repeat' first|simp(disch:=first|exact ai|fail) only[go_sem,jL]|(refine ao ?_ ?_<;>intro)|refine CV c hd ?_)
    exact⟨i+1,⟨am,a⟩,am,co⟩
   |false =>
    rw[d]at hd a;rw[aKc]at a
    (repeat' first|simp(disch:=first|exact ai|fail) only[go_sem,jL]|(refine ao ?_ ?_<;>intro)|refine CV c hd ?_)
    exact⟨_,rfl,by first|(rw[<-a];done)|(rw[<-a];exact⟨rfl,rfl⟩)⟩
  ·rw[avS al,avS am,gD]at a;refine ag ?_;exact⟨_,rfl,by first|(rw[<-a];done)|(rw[<-a];exact⟨rfl,rfl⟩)⟩
 ·have cG:((l.length:Int) != (m.length:Int))=true:=by simp;omega
  rw[decide_eq_false b,aKc];refine bU @cG ?_;exact⟨_,rfl,d9⟩
theorem al6:∀{l m:List I},gD l m=true->l.length=m.length
 |[],[],_=>rfl|_::_,_::_,h=>by simp only[gD,Bool.and_eq_true]at h;simp only[List.length_cons,al6 h.2]|[],_::_,h=>by simp[gD]at h|_::_,[],h=>by simp[gD]at h
theorem aMh:∀t u:I,aA ν aD 143 [enc t,enc u] (enc (hi t u)):=I.ind λt ih u=>by
 refine aA.sy λh i=>?_;have j:M=1099511627776:=rfl;have c:(decide (t.args.length=u.args.length)&&gD t.args u.args)=gD t.args u.args:=by
  cases d:gD t.args u.args with
  |true=>rw[decide_eq_true (al6 d)];rfl|false=>rw[Bool.and_false]
 have e:=aMg (H:=[]) t.args u.args ⟨((I.j5 t).1 h).2.1,((I.j5 u).1 i).2.1⟩ ih;rw[c]at e;have he:hi t u=(t.name==u.name&&gD t.args u.args):=by
  obtain⟨n,a⟩:=t;obtain⟨m,b⟩:=u;rfl
 rw[he];refine aA.intro (D:=e7) afn cX c7 ?_;unfold acZ;simp(disch:=first|exact ai|fail) only[go_sem];cases d:t.name==u.name;all_goals (repeat' first|simp(disch:=first|exact ai|fail) only[go_sem,d]|(refine ao ?_ ?_<;>intro)|refine cA e ?_)
 all_goals rfl
theorem aMi[bt D e7]{u:I}[aT x1 t][aT x2 u]  :b1 ν aD D 143 [x1,x2] K tg=K (enc (hi t u)):=ik (D':=e7) (F:=λ(t:I)(u:I)=>enc (hi t u)) (sW λ_=>rfl) (aMh t u)
attribute [go_sem ↓ 2000] aMi
theorem aMj:∀t:I,aA ν aD 145 [enc t] (enc t):=I.ind λt ih=>by
 refine aA.h4 λae=>?_;have m:=(I.j5 t).1 ae;have n:=m.2.1;have q:M=1099511627776:=rfl;obtain⟨o,cK⟩:=t;simp only[I.args]at ih n;obtain⟨row,j⟩:∃row:Nat->AV,row=λi:Nat=>if i=0 then AV.aS 2 else .list (some 31) 2 ((cK.take i).map I.enc):=⟨_,rfl⟩;have b:row 0=.aS 2:=by rw[j];rfl
 have a:∀i,row (i+1)=.list (some 31) 2 ((cK.take (i+1)).map I.enc):=λi=>by rw[j];exact if_neg am
 refine aA.gK (D:=e7) azx (by simp only[aqx,aqB,Enc.arg,aqE]) (Enc.res _) (Enc.iI _) ?_;unfold ac4;refine gS @aLO.{0} @aLY.{0} ?_;refine bQ (λi:Nat=>⟨N [(2,.b [.str [],.aS 2]),(3,.v (.ptr 0 0)),(10,.v (enc cK)),(11,.v (enc cK.length)),(12,.v (enc i))],[.cells [.str o,row i]]⟩)
  (λi=>i<=cK.length) (λi=>cK.length-i) 0 (aqv _) (rm @b) ?_
 intro i al;rcases aqt i cK.length with h|h
 ·have hd:=ih cK[i]! (ek h);have k:=λ{K:AV->Prop}{tg:aN K}(r:i<cK.length)=>aL9 (D:=e7) (K:=K) (tg:=tg) (x1:=cK[i]!.enc) (hd);have p:(cK.take i).length=i:=by rw[avX];omega
  cases i with
  |zero =>
   refine mb @k @b @aLO.{0} @aLY.{0} ?_;exact⟨1,am,am,by(exact qn (a 0))⟩
  |succ i =>
   refine oX @k (a i) @p @aqw.{0,0} @aLO.{0} @aLY.{0} ?_;exact⟨i+2,am,am,by(exact qn (a (i+1)))⟩
 ·obtain rfl:i=cK.length:=by omega
  rcases aL0 cK.length with c|c
  ·have d:cK=[]:=List.length_eq_zero_iff.1 c;have e:row cK.length=.aS 2:=by rw[c];exact b
   refine iv @e @aLO.{0} @aLY.{0} ?_;exact⟨_,rfl,by rw[d];exact bx.agg (.cons (bx.refl _) (.cons (bx.aS 2) .nil))⟩
  ·have e:row cK.length=.list (some 31) 2 (cK.map I.enc):=by
    have:=a (cK.length-1);rw[show cK.length-1+1=cK.length by omega,aLZ]at this;exact this
   refine iv @e @aLO.{0} @aLY.{0} ?_;exact⟨_,rfl,bx.agg (.cons (bx.refl _) (.cons (by first|exact bx.refl _|(rw[oj];exact bx.refl _)|exact bx.disown _ _ _) .nil))⟩
theorem aMl[bt D e7][aT x1 t]  :b1 ν aD D 145 [x1] K tg=K (enc (t)):=ec (D':=e7) (F:=λ(t:I)=>enc (t)) (sW λ_=>rfl) (aMj t)
attribute [go_sem ↓ 2000] aMl
open Enc (enc)
theorem aMm(s:List aY):aA ν aD 93 [enc s] (enc (q1 s)):=by
 refine aA.h4 λq=>?_;have w:M=1099511627776:=rfl;have q:s.length<=M:=q.1;rcases aqt 64 s.length with d|d
 ·have e:q1 s=false:=by rw[q1,decide_eq_false am,aKc]
  rw[e];refine aA.intro (D:=e7) afi cX c7 ?_;unfold Pq;simp(disch:=first|exact ai|fail) only[go_sem]
  (repeat' first|refine ag ?_|(refine ao ?_ ?_<;>intro))
  all_goals rfl
 ·refine aA.intro (D:=e7) afi cX c7 ?_;unfold Pq;simp(disch:=first|exact ai|fail) only[go_sem]
  (repeat' first|refine ag ?_|(refine ao ?_ ?_<;>intro))
  refine bQ (λi:Nat=>⟨N [(0,.v (enc s)),(8,.v (enc s)),(9,.v (enc s.length)),(10,.v (enc i))],[]⟩) (λi=>i<=s.length/\∀k,k<i->xz s k=true) (λi=>s.length-i) 0 ⟨aqv _,λk h=>absurd h am⟩ ew ?_;rintro i ⟨x,r⟩;rcases aqt i s.length with h|h
  ·cases a:xz s i with
   |true =>
    have u:∀k,k<i+1->xz s k=true:=λk hk=>by
     rcases aqt k i with h|h
     ·exact r k h
     ·obtain rfl:k=i:=by omega
      exact a
    simp only[xz,Bool.and_eq_true]at a;obtain⟨⟨b,c⟩,v⟩:=a;rcases aL0 i with m|m
    ·subst m;refine gS @b @c ?_;exact⟨1,⟨am,u⟩,am,co⟩
    ·obtain⟨j,rfl⟩:∃j,i=j+1:=⟨i-1,am⟩;have n:(Op.bytesLess s[j+1]!.var s[j]!.var||s[j+1]!.var==s[j]!.var)=false:=by simpa using v
     have o:(j:Int)+1-1=j:=by omega
     refine mb @b @c @n @o ?_;exact⟨j+2,⟨am,u⟩,am,co⟩
   |false =>
    have no:=aL5 h a;rw[no];unfold xz at a;cases b:eg s[i]!.var with
    |false =>
     (repeat' first|simp(disch:=first|exact ai|fail) only[go_sem,b]|(refine ao ?_ ?_<;>intro))
     all_goals rfl
    |true =>
     cases c:cD 4 s[i]!.term true with
     |false =>
      (repeat' first|simp(disch:=first|exact ai|fail) only[go_sem,b,c]|(refine ao ?_ ?_<;>intro))
      all_goals rfl
     |true =>
      rw[b,c]at a;obtain⟨j,rfl⟩:∃j,i=j+1:=⟨i-1,by rcases aL0 i with m|m;(· subst m;simp at a);omega⟩;have n:(Op.bytesLess s[j+1]!.var s[j]!.var||s[j+1]!.var==s[j]!.var)=true:=by simp only[ax6,Bool.not_eq_false',Nat.zero_lt_succ,decide_true,Nat.add_sub_cancel]at a;exact a
      have o:(j:Int)+1-1=j:=by omega
      (repeat' first|simp(disch:=first|exact ai|fail) only[go_sem,b,c,n,o]|(refine ao ?_ ?_<;>intro))
      all_goals rfl
  ·have p:=aL6 d λi al=>r i am;rw[p]
   (repeat' first|simp(disch:=first|exact ai|fail) only[go_sem]|(refine ao ?_ ?_<;>intro))
   all_goals rfl
theorem aMn[bt D e7][aT x1 s]  :b1 ν aD D 93 [x1] K tg=K (enc (q1 s)):=ec (D':=e7) (F:=λ(s:List aY)=>enc (q1 s)) (sW λ_=>rfl) (aMm s)
attribute [go_sem ↓ 2000] aMn
theorem aMo(s:List aY):aA ν aD 95 [enc s] (enc s):=by
 refine aA.h4 λa=>?_;have b:M=1099511627776:=rfl;have a:s.length<=M:=a.1;refine aA.gK (D:=e7) ayW cX (Enc.res _) (Enc.iI _) ?_;unfold abq;refine ag ?_;refine bQ (λi:Nat=>⟨N [(3,.v (.list (some 164) 3 ((s.take i).map aY.enc))),(6,.v (enc s)),(7,.v (enc s.length)),(8,.v (enc i))],[]⟩) (λi=>i<=s.length) (λi=>s.length-i) 0 (aqv _) (rm @aqI.{0}) ?_;intro i al;rcases aqt i s.length with h|h
 ·have c:(s.take i).length=i:=by rw[avX];omega
  refine ag ?_;exact⟨i+1,am,am,co⟩
 ·obtain rfl:i=s.length:=by omega
  rw[aLZ];refine ag ?_;exact⟨_,rfl,i9⟩
theorem aMp[bt D e7][aT x1 s]  :b1 ν aD D 95 [x1] K tg=K (enc (s)):=ec (D':=e7) (F:=λ(s:List aY)=>enc (s)) (sW λ_=>rfl) (aMo s)
attribute [go_sem ↓ 2000] aMp
theorem aMq:aA ν aD 182 [.aS 3] (.aS 3):=by
 refine aA.intro (D:=e7) azW rfl rfl ?_;unfold ad9
 (repeat' first|simp(disch:=first|exact ai|fail) only[go_sem]|(refine ao ?_ ?_<;>intro))
 all_goals rfl
theorem aMr(t:List aY)(a:t.length=1):aA ν aD 181 [.aS 3,.int .i64 0,enc t] (enc t):=by
 have b:M=1099511627776:=rfl;refine aA.gK (D:=e7) azV (by simp only[aqx,aqB,Enc.arg,aqE];rfl) (Enc.res _) (Enc.iI _) ?_;unfold ad7;refine bU @a ?_;exact⟨_,rfl,i9⟩
section
variable {D:bj}[bt D e7]{K:AV->Prop}{tg:aN K}
theorem aMs:b1 ν aD D 182 [.aS 3] K tg=K (.aS 3) :=
 u1 rfl (bt.h (D':=e7) _ _ _ (by rw[sW (F:=al2) (λ_=>rfl)];rfl)) aMq
theorem aMt{y:AV}{t:List aY}[a:aT y t](b:t.length=1):b1 ν aD D 181 [.aS 3,.int .i64 0,y] K tg=K (enc t) :=
 u1 (by simp only[aqx,a.arg,aqB,aqE];rfl) (bt.h (D':=e7) _ _ _ (by rw[sW (F:=al1) (λ_=>rfl)];exact Qi (F:=λt:List aY=>enc t) a)) ((aMr t b).args (.cons (bx.refl _) (.cons (bx.refl _) (.cons a.kX .nil))))
attribute [go_sem ↓ 2000] aMs aMt
end
theorem al8(v:ak):oH [] v=0:=rfl
theorem al9(v:ak):sS [] v=false:=rfl
theorem aMu(v:ak)(t:I):aA ν aD 144 [.aS 3,enc v,enc t] (enc [aY.mk v t]):=by
 have a:M=1099511627776:=rfl;refine aA.intro (D:=e7) azw (by simp only[aqx,aqB,Enc.arg,aqE];rfl) (Enc.res _) ?_;unfold ac1
 (repeat' first|simp(disch:=first|exact ai|fail) only[go_sem,al8,al9]|(refine ao ?_ ?_<;>intro))
 all_goals rfl
section
variable {D:bj}[bt D e7]{K:AV->Prop}{tg:aN K}
variable {x y:AV}
theorem aMv{v:ak}[a:aT x v][b:aT y t]:b1 ν aD D 144 [.aS 3,x,y] K tg=K (enc [aY.mk v t]) :=
 u1 (by simp only[aqx,a.arg,b.arg,aqB,aqE];rfl) (bt.h (D':=e7) _ _ _ (by rw[sW (F:=al3) (λ_=>rfl)];exact agp (F:=λ(v:ak)(t:I)=>enc [aY.mk v t]) a b)) ((aMu v t).args (.cons (bx.refl _) (.cons a.kX (.cons b.kX .nil))))
theorem ama{p g:I}[a:aT x p][b:aT y g](h:aA ν aD 94 [enc p,enc g,k3 s] (sV (oI p g s))):b1 ν aD D 94 [x,y,k3 s] K tg=K (sV (oI p g s)) :=
 u1 (by simp only[aqx,a.arg,b.arg,(aT.k3 s).arg,aqB,aqE]) (bt.h (D':=e7) _ _ _ (by rw[sW (F:=qF λ(p:I)(g:I)(s:List aY)=>sV (oI p g s)) (λ_=>rfl)];exact Qj (F:=λ(p:I)(g:I)(s:List aY)=>sV (oI p g s)) a b (aT.k3 s))) (h.args (.cons a.kX (.cons b.kX (.cons (bx.refl _) .nil))))
attribute [go_sem ↓ 2000] aMv
end
theorem aMw(s:List aY):(k3 s).a1=k3 s:=by unfold k3;split<;>rfl
theorem LH(s:List aY):(k3 s).arg=true:=(aT.k3 s).arg
theorem aMx{s:au}{d x:Nat}{K:au->Prop}{tg:aN K}(q:List aY):yD s d x K tg (k3 q)=di s d (k3 q) K ⟨⟩:=by unfold k3;split<;>rfl
attribute [go_sem 2000] aMx
attribute [go_sem] aMw LH
theorem aMy(p g:I)(s:List aY):oI p g s=if zf p then(if sS s p.name then some (s,hi s[oH s p.name]!.term g)else if s.length=0 then some ([⟨p.name,g⟩],true)else none)
  else if p.name != g.name||decide (p.args.length≠g.args.length)then some ([],false)else sT p.args g.args s:=by
 cases p;rw[oI];rfl
theorem Ug(r:Option (List aY×Bool)):(sV r).res=true:=by
 cases r with
 |none=>rfl|some q=>obtain⟨s,b⟩:=q;simp only[sV];unfold k3;split<;>rfl
theorem aMz{l m:List I}{i:Nat}(c:i<l.length)(d:i<m.length):sT (l.drop i) (m.drop i) s=match oI l[i]! m[i]! s with
  |none=>none|some (s',true)=>sT (l.drop (i+1)) (m.drop (i+1)) s'|some (_,false)=>some ([],false):=by
 rw[fi c,fi d,sT];cases oI l[i]! m[i]! s with
 |none=>rfl|some q=>obtain⟨a,b⟩:=q;cases b<;>rfl
theorem aMA:∀(p g:I)(s:List aY)(R:List aY×Bool),oI p g s=some R->s.length<=1->aA ν aD 94 [enc p,enc g,k3 s] (sV (some R)):=I.ind λp ih g s R h ax=>by
 have C:M=1099511627776:=rfl;rw[aMy]at h;cases d:zf p with
 |true =>
  rw[d,if_pos rfl]at h;cases c:sS s p.name with
  |true =>
   rw[c,if_pos rfl]at h;simp only[Option.some.injEq]at h;subst h;have cG:s≠[]:=λe=>by rw[e]at c;cases c
   have v:oH s p.name<s.length:=by
    unfold sS at c;simp only[Bool.and_eq_true,decide_eq_true_eq]at c;exact c.1
   rw[al0 cG];have e:sV (some (s,hi s[oH s p.name]!.term g))=.bg [.list none 3 (s.map aY.enc),.bool (hi s[oH s p.name]!.term g)]:=by rw[sV,al0 cG]
   rw[e];obtain⟨i,al⟩:∃i,i=oH s p.name:=⟨_,rfl⟩;rw[<-al]at v ⊢;refine aA.intro (D:=e7) FM (by simp only[aqx,aqB,Enc.arg,aqE];rfl) rfl ?_;unfold CG
   (repeat' first|simp(disch:=first|exact ai|fail) only[go_sem,d,c,<-al]|(refine ao ?_ ?_<;>intro))
   all_goals rfl
  |false =>
   rw[c,if_neg be]at h;split at h
   ·rename_i w;simp only[Option.some.injEq]at h;subst h;obtain rfl:=List.length_eq_zero_iff.1 w;rw[aL7];have e:sV (some ([⟨p.name,g⟩],true))=.bg [.list none 3 [(aY.mk p.name g).enc],.bool true]:=rfl;rw[e];refine aA.intro (D:=e7) FM (by simp only[aqx,aqB,Enc.arg,aqE];rfl) rfl ?_;unfold CG
    (repeat' first|simp(disch:=first|exact ai|fail) only[go_sem,d,al8,al9]|(refine ao ?_ ?_<;>intro))
    all_goals rfl
   ·cases h
 |false =>
  rw[d,if_neg be]at h;cases j:p.name==g.name with
  |false =>
   rw[show(p.name != g.name)=true by rw[bne,j];rfl,avY,if_pos rfl]at h;simp only[Option.some.injEq]at h;subst h;refine aA.intro (D:=e7) FM (by simp only[aqx,aqB,Enc.arg,LH,aqE]) (Ug _) ?_;unfold CG;refine gS @d @j ?_;all_goals rfl
  |true =>
   rw[show(p.name != g.name)=false by rw[bne,j];rfl,avT]at h;by_cases o:p.args.length=g.args.length
   ·rw[decide_eq_false am,if_neg be]at h;have cG:((p.args.length:Int) != (g.args.length:Int))=false:=by rw[o];simp
    refine aA.sy λz E=>?_;have G:=((I.j5 p).1 z).2.1;refine aA.intro (D:=e7) FM (by simp only[aqx,aqB,Enc.arg,LH,aqE]) (Ug _) ?_;unfold CG;refine iv @d @j @cG ?_;refine bQ (λi:Nat×List aY=>⟨N [(2,.v (k3 i.2)),(3,.v (.cL p.enc.cells)),(4,.v (.cL g.enc.cells)),(51,.v (enc p.args.length)),(52,.v (enc i.1))],[]⟩) (λi=>i.1<=p.args.length/\i.2.length<=1/\sT (p.args.drop i.1) (g.args.drop i.1) i.2=some R) (λi=>p.args.length-i.1) (0,s) ⟨aqv _,ax,h⟩ ew ?_;rintro⟨i,q⟩ ⟨B,m,a⟩;simp only at B m a;rcases aqt i p.args.length with al|al
    ·rw[aMz al am]at a;cases hm:oI p.args[i]! g.args[i]! q with
     |none=>rw[hm]at a;cases a|some r =>
      obtain⟨n,b⟩:=r;have hd:=ih p.args[i]! (ek al) g.args[i]! q (n,b) hm m;rw[<-hm]at hd;have u:=λ{K:AV->Prop}{tg:aN K}=>ama (D:=e7) (K:=K) (tg:=tg) (x:=p.args[i]!.enc) (y:=g.args[i]!.enc) hd;have k:sV (oI p.args[i]! g.args[i]! q)=.bg [k3 n,.bool b]:=by rw[hm];rfl
      rw[hm]at a;cases b with
      |true =>
       simp only at a;refine gS @u @k ?_;exact⟨(i+1,n),⟨ap,alY hm m,a⟩,ap,co⟩
      |false =>
       simp only[Option.some.injEq]at a;subst a;refine gS @u @k ?_;all_goals rfl
    ·rw[avS al,sT]at a
     ·simp only[Option.some.injEq]at a;subst a;refine ag ?_;all_goals rfl
     all_goals simp
   ·rw[decide_eq_true o,if_pos rfl]at h;simp only[Option.some.injEq]at h;subst h;have cG:((p.args.length:Int) != (g.args.length:Int))=true:=by simp;omega
    refine aA.intro (D:=e7) FM (by simp only[aqx,aqB,Enc.arg,LH,aqE]) (Ug _) ?_;unfold CG;refine iv @d @j @cG ?_;all_goals rfl
end AM
