/- What functions of the given program do, as calls of the machine. Conditions: names and lists are bounded where that is said. -/
import Derived.Test.YtmmplkgkkkjojaaGreatDoorT1
import Derived.Test.YtmmplkgkkkjojaaGreatDoorAm6
set_option linter.unusedSimpArgs false
set_option maxRecDepth 100000
set_option maxHeartbeats 400000
set_option linter.unusedVariables false
namespace AM
open Nat renaming le_refl -> aKB,zero_le -> aKD
open List renaming map_nil -> aKC,take_zero -> aKE,map_cons -> aKF,length_map -> aKG,map_append -> aKH,foldr_cons -> aKI,foldr_nil -> aKJ,nil_append -> aKN,take_of_length_le -> aKO,getElem?_cons_zero -> aKP,set_cons_zero -> aKQ
open Int renaming natCast_add -> aKK,natCast_one -> aKL,natCast_zero -> aKM
open Go Go.Proofs
open Tryz renaming prog -> ν
open Enc (enc)
noncomputable def Qo:List iZ:=[(47,eh λ(s:ak)=>enc (dM s)),
 (107,eh λ(s:ak)=>enc (eg s)),
 (150,eh λ(s:ak)=>ix s),
 (126,eh λ(s:ak)=>enc ((fw s).isSome)),
 (46,eh λ(t:I)=>enc (cD 4 t true)),
 (56,eh λ(t:I)=>enc (cD 4 t false)),
 (121,hj λ(t:I)(u:I)=>enc (b6 t u)),
 (85,hj λ(t:List I)(u:List I)=>enc (fh t u)),
 (169,hj λ(s:ak)(t:ak)=>enc (du s t)),
 (54,hj λ(t:I)(u:I)=>enc (hi t u)),
 (16,hj λ(t:List I)(u:List I)=>enc (gD t u)),
 (167,eh λ(t:I)=>enc (t)),
 (55,hj λ(t:I)(u:I)=>enc (b6 t u)),
 (131,eh λ(s:ak)=>enc (eg s)),
 (138,eh λ(s:ak)=>ix s),
 (181,eh λ(s:ak)=>enc (dM s))]
noncomputable def hS:bj:=e1 Qo
def Qp:List Nat:=[47,107,150,126,46,56,121,85,169,54,16,167,55,131,138,181]
theorem agC:fq hS Qp:=kf Qo
variable {f:Nat}{F:List AV->Option AV}
theorem pS(h:∀xs,e1 Qo f xs=F xs):∀xs,hS f xs=F xs:=h
variable {D:bj}{x1:AV}{s:ak}{K:AV->Prop}{tg:aN K}
theorem aCW[bt D hS][aT x1 s]  :b1 ν aD D 47 [x1] K tg=K (enc (dM s)):=ec (D':=hS) (F:=λ(s:ak)=>enc (dM s)) (pS λ_=>rfl) (afC s)
attribute [go_sem ↓ 2000] aCW
theorem aCX[bt D hS][aT x1 s]  :b1 ν aD D 107 [x1] K tg=K (enc (eg s)):=ec (D':=hS) (F:=λ(s:ak)=>enc (eg s)) (pS λ_=>rfl) (PT s)
attribute [go_sem ↓ 2000] aCX
theorem aCY[bt D hS][aT x1 s]  :b1 ν aD D 150 [x1] K tg=K (ix s):=ec (D':=hS) (F:=λ(s:ak)=>ix s) (pS λ_=>rfl) (PU s)
attribute [go_sem ↓ 2000] aCY
variable {t:I}
theorem aCZ[bt D hS][aT x1 t]  :b1 ν aD D 46 [x1] K tg=K (enc (cD 4 t true)):=ec (D':=hS) (F:=λ(t:I)=>enc (cD 4 t true)) (pS λ_=>rfl) (aAu t)
attribute [go_sem ↓ 2000] aCZ
theorem aC0[bt D hS][aT x1 t]  :b1 ν aD D 56 [x1] K tg=K (enc (cD 4 t false)):=ec (D':=hS) (F:=λ(t:I)=>enc (cD 4 t false)) (pS λ_=>rfl) (aAv t)
attribute [go_sem ↓ 2000] aC0
variable {x2:AV}{u:I}
theorem aC1[bt D hS][aT x1 t][aT x2 u]  :b1 ν aD D 121 [x1,x2] K tg=K (enc (b6 t u)):=ik (D':=hS) (F:=λ(t:I)(u:I)=>enc (b6 t u)) (pS λ_=>rfl) (PY t u)
attribute [go_sem ↓ 2000] aC1
variable {H:List ay}
theorem qH[aT x1 t][aT x2 u]  {K:AV->List ay->Prop}{tg:aN K}(hk:K (enc (b6 t u)) H):mZ ν aD 121 [x1,x2] H K tg:=CV (yh azc).1 (show aA ν aD 121 [enc t,enc u] (enc (b6 t u)) from PY t u) hk
theorem aqB(l m:List I):aA ν aD 85 [enc l,enc m] (enc (fh l m)):=by have:=aqw l m;rw[J0,J0]at this;exact this
theorem aqE[bt D hS]{t:List I}{u:List I}[aT x1 t][aT x2 u]  :b1 ν aD D 85 [x1,x2] K tg=K (enc (fh t u)):=ik (D':=hS) (F:=λ(t:List I)(u:List I)=>enc (fh t u)) (pS λ_=>rfl) (aqB t u)
attribute [go_sem ↓ 2000] aqE
theorem aC2[bt D hS]{t:ak}[aT x1 s][aT x2 t]  :b1 ν aD D 169 [x1,x2] K tg=K (enc (du s t)):=ik (D':=hS) (F:=λ(s:ak)(t:ak)=>enc (du s t)) (pS λ_=>rfl) (afH s t)
attribute [go_sem ↓ 2000] aC2
theorem aC3[bt D hS][aT x1 t][aT x2 u]  :b1 ν aD D 54 [x1,x2] K tg=K (enc (hi t u)):=ik (D':=hS) (F:=λ(t:I)(u:I)=>enc (hi t u)) (pS λ_=>rfl) (PZ t u)
attribute [go_sem ↓ 2000] aC3
theorem aC4(l m:List I):aA ν aD 16 [enc l,enc m] (enc (gD l m)):=by have:=aAJ l m;rw[J0,J0]at this;exact this
theorem aC5[bt D hS]{t:List I}{u:List I}[aT x1 t][aT x2 u]  :b1 ν aD D 16 [x1,x2] K tg=K (enc (gD t u)):=ik (D':=hS) (F:=λ(t:List I)(u:List I)=>enc (gD t u)) (pS λ_=>rfl) (aC4 t u)
attribute [go_sem ↓ 2000] aC5
theorem aC6[bt D hS][aT x1 t]  :b1 ν aD D 167 [x1] K tg=K (enc (t)):=ec (D':=hS) (F:=λ(t:I)=>enc (t)) (pS λ_=>rfl) (afM t)
attribute [go_sem ↓ 2000] aC6
open Enc (enc)
noncomputable def agF:List AV->Option AV
 |[_,y]=>eh (λt:I=>enc (ck t)) [y]|_=>none
noncomputable def Qu:List iZ:=[(105,eh λ(t:I)=>enc (cc t)),
 (123,hj λ(l:List ak)(s:ak)=>enc (Aw s l)),
 (86,hj λ(l:List ak)(s:ak)=>enc (l.contains s)),
 (68,eh λ(l:List I)=>enc (hE l)),
 (106,agF)]
noncomputable def fr:bj:=ij hS (e1 Qu)
instance aOp{D:bj}[h:bt D fr]:bt D hS:=h.ke
def Qv:List Nat:=[105,123,86,68,106]++Qp
theorem agG:fq fr Qv:=fq.or agC (kf Qu)
theorem sC(h:∀xs,e1 Qu f xs=F xs)(hk:Qp.contains f=false:=by rfl):∀xs,fr f xs=F xs:=λxs=>by rw[<-h];exact kg agC hk
theorem aDi[bt D fr][aT x1 t](h:aA ν aD 105 [enc t] (enc (cc t))):b1 ν aD D 105 [x1] K tg=K (enc (cc t)):=ec (D':=fr) (F:=λ(t:I)=>enc (cc t)) (sC λ_=>rfl) h
theorem aDm:∀(t:I),cc t<=1000000->aA ν aD 105 [enc t] (enc (cc t)):=I.ind λt ih hd=>by
 refine aA.h4 λae=>?_;obtain⟨_,ae,_⟩:=(I.j5 t).1 ae;have d:M=1099511627776:=rfl;have b:=u4 t;refine aA.intro (D:=fr) ayZ cX c7 ?_;unfold abH;simp(disch:=first|exact aX|fail) only[go_sem,bd,bb];refine bQ (λ(i:Nat)=>⟨N [(3,.v (enc (ja (t.args.take i)))),(7,.v (enc t.args)),(8,.v (enc t.args.length)),(9,.v (enc i))],[]⟩) (λ(i:Nat)=>i<=t.args.length) (λ(i:Nat)=>t.args.length-i) 0 d7 (by(try simp(disch:=first|exact aX|fail) only[go_sem,bd,bb])<;>(first|rfl|(simp(disch:=first|exact aX|fail) only[b7,aKI,aKJ,Env.ins,cp,cq,cr,ct,cu,cv,cw,cx,I.b0,aKG,aKK,aKL,aKM,aKE,bL,aKH,aKF,aKC,cy,cz,go_sem,ja];try rfl))) ?_;intro i al;have c:=λ{K:AV->Prop}{tg:aN K}(a:i<t.args.length)=>aDi (D:=fr) (K:=K) (tg:=tg) (x1:=t.args[i]!.enc) (ih t.args[i]! (ek a) (by have:=Av (ek a);omega));have e:=Qq t.args i
 (repeat' first|simp(disch:=first|exact aX|fail) only[go_sem,bd,bb,c]|(refine ao ?_ ?_<;>intro))
 ·exact⟨i+1,am,am,by(exact qn @J8)⟩
 ·rw[aKO am,b];rfl
theorem aDn[bt D fr][aT x1 t](h:cc t<=1000000) :b1 ν aD D 105 [x1] K tg=K (enc (cc t)):=ec (D':=fr) (F:=λ(t:I)=>enc (cc t)) (sC λ_=>rfl) (aDm t h)
attribute [go_sem ↓ 2000] aDn
theorem aDo(l:List ak)(s:ak):aA ν aD 123 [enc l,enc s] (enc (Aw s l)):=by
 refine aA.h4 λae=>?_;obtain⟨ae,_⟩:=ae;have a:M=1099511627776:=rfl;refine aA.intro (D:=fr) aze cX c7 ?_;unfold ack;simp(disch:=first|exact aX|fail) only[go_sem,bd,bb];refine bQ (λ(i:Nat)=>⟨N [(0,.v (enc l)),(1,.v (enc s)),(7,.v (enc l.length)),(8,.v (enc i))],[]⟩) (λ(i:Nat)=>i<=l.length/\Aw s l=wW s (l.drop i) i) (λ(i:Nat)=>l.length-i) 0 d7 (by(try simp(disch:=first|exact aX|fail) only[go_sem,bd,bb])<;>(first|rfl|(simp(disch:=first|exact aX|fail) only[b7,aKI,aKJ,Env.ins,cp,cq,cr,ct,cu,cv,cw,cx,I.b0,aKG,aKK,aKL,aKM,aKE,bL,aKH,aKF,aKC,cy,cz,go_sem,Aw];try rfl))) ?_;rintro i ⟨al,ar⟩
 (repeat' first|simp(disch:=first|exact aX|fail) only[go_sem,bd,bb,ar]|(refine ao ?_ ?_<;>intro))
 ·rename_i h;have:=eq_of_beq h
  rw[fi am,<-this];simp[wW]
 ·rename_i h;exact⟨i+1,⟨am,by rw[fi am];simp only[wW];rw[if_neg (λe=>by rw[e]at h;simp at h)]⟩,am,ci⟩
 ·rw[List.drop_eq_nil_of_le am];simp only[wW]
variable {l:List ak}
theorem aDp[bt D fr][aT x1 l][aT x2 s]  :b1 ν aD D 123 [x1,x2] K tg=K (enc (Aw s l)):=ik (D':=fr) (F:=λ(l:List ak)(s:ak)=>enc (Aw s l)) (sC λ_=>rfl) (aDo l s)
attribute [go_sem ↓ 2000] aDp
theorem aDq(l:List ak)(s:ak):aA ν aD 86 [enc l,enc s] (enc (l.contains s)):=by
 refine aA.intro (D:=fr) ayS cX c7 ?_;unfold aa9;simp(disch:=first|exact aX|fail) only[go_sem,bd,bb];have h:=agE s l 0
 (repeat' first|simp(disch:=first|exact aX|fail) only[go_sem,bd,bb]|(refine ao ?_ ?_<;>intro))
 simp only[Aw,ge_iff_le,decide_eq_decide.2 h,Bool.decide_eq_true]
theorem aDr[bt D fr][aT x1 l][aT x2 s]  :b1 ν aD D 86 [x1,x2] K tg=K (enc (l.contains s)):=ik (D':=fr) (F:=λ(l:List ak)(s:ak)=>enc (l.contains s)) (sC λ_=>rfl) (aDq l s)
attribute [go_sem ↓ 2000] aDr
def tR(l:List I)(i j:Nat):List ak:=o5 (bF (l.take i)++(ck l[i]!).take j)
theorem agH(l:List I)(i:Nat):tR l i 0=o5 (bF (l.take i)):=by simp[tR]
variable {i j:Nat}
theorem agI(l:List I)(h:j<(ck l[i]!).length):tR l i (j+1)=gL (tR l i j) (ck l[i]!)[j]!:=by
 rw[tR,bL h,<-List.append_assoc,aDf];rfl
theorem agJ(l:List I)(al:i<l.length)(h:(ck l[i]!).length<=j):tR l i j=o5 (bF (l.take (i+1))):=by
 rw[tR,aKO h,bL al,yF]
theorem agK(l:List I)(al:i<l.length):(tR l i j).length<=(bF l).length:=by
 have a:=aDg (bF (l.take i)++(ck l[i]!).take j);have b:=CW al;simp only[List.length_append,List.length_take]at a;unfold tR;omega
def wX(x:AV)(ys:List ak):Prop:=(x=.aS 1/\ys=[])\/x=.list (some 9) 1 (ys.map .str)
theorem aDy:∀(t:I)(x:AV)(ys:List ak)(H:List ay),t.eS->wX x ys->ys.length+(ck t).length<=1000000 ->
  bB ν aD 106 [x,t.enc] H λr H'=>r=.list (some 9) 1 ((ys++ck t).map .str)/\H'=H:=I.ind λt ih x ys H n g hd=>by
 obtain⟨_,ae,o⟩:=(I.j5 t).1 n;have q:M=1099511627776:=rfl;have a:=nJ t;refine bB.intro (D:=fr) ay0 ?_;unfold abJ;by_cases c:t.args.length=0
 ·rw[if_pos c]at a;rcases g with⟨rfl,rfl⟩|rfl
  ·(repeat' first|simp(disch:=first|exact aX|fail) only[go_sem,bd,bb]|(refine ao ?_ ?_<;>intro))
   exact⟨_,rfl,by rw[a];simp only[aKN,aKF,aKC,and_self]⟩
  ·rw[a]at hd;simp only[List.length_cons,List.length_nil]at hd
   (repeat' first|simp(disch:=first|exact aX|fail) only[go_sem,bd,bb]|(refine ao ?_ ?_<;>intro))
   exact⟨_,rfl,by rw[a];simp only[aKH,aKF,aKC,and_self]⟩
 ·rw[if_neg c]at a;rw[a]at hd ⊢
  (repeat' first|simp(disch:=first|exact aX|fail) only[go_sem,bd,bb]|(refine ao ?_ ?_<;>intro))
  refine bQ (λp:Nat×AV=>⟨N [(0,.v p.2),(17,.v (enc t.args)),(18,.v (enc t.args.length)),(19,.v (enc p.1))],H⟩)
   (λp=>p.1<=t.args.length/\wX p.2 (ys++bF (t.args.take p.1))/\(p.1=t.args.length->∃d,p.2=.list (some 9) 1 d)) (λp=>t.args.length-p.1) (0,x)
   ⟨be,by simpa[bF]using g,λh=>absurd h.symm c⟩ (by(try simp(disch:=first|exact aX|fail) only[go_sem,bd,bb])<;>(exact bl)) ?_
  rintro⟨i,y⟩ ⟨al,b,k⟩;simp only at al b k;by_cases h:i<t.args.length
  ·have v:=CW h;have m:=λH=>ih t.args[i]! (ek h) y (ys++bF (t.args.take i)) H (o _ (ek h)) b (by simp only[List.length_append];omega);rcases b with⟨rfl,w⟩|rfl
   ·(repeat' first|simp(disch:=first|exact aX|fail) only[go_sem,bd,bb]|(refine ao ?_ ?_<;>intro)|refine cA (m _) ?_)
    exact⟨(i+1,_),⟨ap,.inr (by rw[bL h,yF,<-List.append_assoc]),λ_=>⟨_,rfl⟩⟩,ap,ci⟩
   ·(repeat' first|simp(disch:=first|exact aX|fail) only[go_sem,bd,bb]|(refine ao ?_ ?_<;>intro)|refine cA (m _) ?_)
    exact⟨(i+1,_),⟨ap,.inr (by rw[bL h,yF,<-List.append_assoc]),λ_=>⟨_,rfl⟩⟩,ap,ci⟩
  ·obtain⟨d,rfl⟩:=k am;rw[aKO am]at b;obtain rfl:d=(ys++bF t.args).map .str:=by
    rcases b with⟨e,_⟩|e
    ·cases e
    ·simpa using e
   (repeat' first|simp(disch:=first|exact aX|fail) only[go_sem,bd,bb]|(refine ao ?_ ?_<;>intro))
   exact⟨_,rfl,by first|exact⟨rfl,rfl⟩|rfl|simp⟩
theorem aDz(t:I)(hd:(ck t).length<=1000000):aA ν aD 106 [.aS 1,enc t] (enc (ck t)):=by
 refine aA.assume (B:=t.eS) (λγ vs h=>by cases h with|cons _ _ _ _ _ h=>cases h with|cons _ _ _ _ h _=>exact I.lj h) λae=>?_;refine aA.aCV ((aDy t (.aS 1) [] [] ae (.inl ⟨rfl,rfl⟩) (by simpa using hd)).mono λr a h=>?_) (by simp only[List.all_cons,List.all_nil,Enc.arg];rfl) rfl (Enc.iI _);rw[h.1,aKN];exact bx.disown _ _ _
theorem aDA[bt D fr]{y:AV}[a:aT y t](h:(ck t).length<=1000000) :b1 ν aD D 106 [.aS 1,y] K tg=K (enc (ck t)) :=
 u1 (by simp only[List.all_cons,a.arg,List.all_nil,Bool.and_self];rfl) (bt.h (D':=fr) _ _ _ (by rw[sC (F:=agF) (λ_=>rfl)];exact Qi (F:=λt:I=>enc (ck t)) a)) ((aDz t h).args (.cons (bx.refl _) (.cons a.kX .nil)))
attribute [go_sem ↓ 2000] aDA
theorem aDB(l:List I)(hd:(bF l).length<=1000000):aA ν aD 68 [enc l] (enc (hE l)):=by
 refine aA.h4 λae=>?_;obtain⟨ae,c⟩:=ae;have d:M=1099511627776:=rfl;refine aA.gK (D:=fr) ayG cX c7 (by exact Enc.iI _) ?_;unfold aau;simp(disch:=first|exact aX|fail) only[go_sem,bd,bb];refine bQ (λ(i:Nat)=>⟨N [(3,.v (.list (some 9) 1 ((o5 (bF (l.take i))).map .str))),(8,.v (enc l)),(9,.v (enc l.length)),(10,.v (enc i))],[]⟩) (λ(i:Nat)=>i<=l.length) (λ(i:Nat)=>l.length-i) 0 d7 (by(try simp(disch:=first|exact aX|fail) only[go_sem,bd,bb])<;>(first|rfl|(simp(disch:=first|exact aX|fail) only[b7,aKI,aKJ,Env.ins,cp,cq,cr,ct,cu,cv,cw,cx,I.b0,aKG,aKK,aKL,aKM,aKE,bL,aKH,aKF,aKC,cy,cz,go_sem,bF,aKC,o5,List.foldl_nil];try rfl))) ?_;intro i al;by_cases h:i<l.length
 ·have e:=CW h
  (repeat' first|simp(disch:=first|exact aX|fail) only[go_sem,bd,bb]|(refine ao ?_ ?_<;>intro))
  refine bQ (λ(j:Nat)=>⟨N [(3,.v (.list (some 9) 1 ((tR l i j).map .str))),(8,.v (enc l)),(9,.v (enc l.length)),(10,.v (enc i)),(15,.v (enc (ck l[i]!))),(16,.v (enc (ck l[i]!).length)),(17,.v (enc j))],[]⟩) (λ(j:Nat)=>j<=(ck l[i]!).length) (λ(j:Nat)=>(ck l[i]!).length-j) 0 d7 (by(try simp(disch:=first|exact aX|fail) only[go_sem,bd,bb])<;>(exact qn @agH)) ?_;intro j g;by_cases b:j<(ck l[i]!).length
  ·have a:=agI l b;have k:=agK l (j:=j) h
   (repeat' first|simp(disch:=first|exact aX|fail) only[go_sem,bd,bb]|(refine ao ?_ ?_<;>intro))
   all_goals exact⟨j+1,am,am,by(exact zN @a @Qr @Qs @Qt)⟩
  ·have a:=agJ l h (j:=j) am
   (repeat' first|simp(disch:=first|exact aX|fail) only[go_sem,bd,bb]|(refine ao ?_ ?_<;>intro))
   exact⟨i+1,am,am,by(exact qn @a)⟩
 ·(repeat' first|simp(disch:=first|exact aX|fail) only[go_sem,bd,bb]|(refine ao ?_ ?_<;>intro))
  rw[aKO am];exact⟨_,rfl,bx.disown _ _ _⟩
variable {l:List I}
theorem aDC[bt D fr][aT x1 l](h:(bF l).length<=1000000) :b1 ν aD D 68 [x1] K tg=K (enc (hE l)):=ec (D':=fr) (F:=λ(l:List I)=>enc (hE l)) (sC λ_=>rfl) (aDB l h)
attribute [go_sem ↓ 2000] aDC
open Enc (enc)
variable {id L:Nat}
theorem QC(c:id<H.length)(cf:l.length=L)(a b n:Nat)(d:a+n<=b)(e:b+n<=L)(g:L<=M) :
  bB ν aD 228 [.bI id 0 L 2,.int .i64 a,.int .i64 b,.int .i64 n,.fn 121 []] (gi 25 H id l)
   λr H'=>r=.bg []/\H'=gi 25 H id (sD l a b n):=by
 have h:M=1099511627776:=rfl;refine bB.intro (D:=fr) aqs ?_;unfold ab1;simp(disch:=first|exact aX|fail) only[go_sem];refine bQ (λi:Nat=>⟨N [(0,.v (.bI id 0 L 2)),(1,.v (enc a)),(2,.v (enc b)),(3,.v (enc n)),(10,.v (enc i))],gi 25 H id (sD l a b i)⟩) (λi=>i<=n) (λi=>n-i) 0 (aKD _) ew ?_;intro i al;have k:=Ay l a b i
 (repeat' first|refine ag ?_|(refine ao ?_ ?_<;>intro))
 ·exact⟨i+1,am,am,by(first|rfl|(simp(disch:=first|exact aX|fail) only[b7,aKI,aKJ,Env.ins,cp,cq,cr,ct,cu,cv,cw,cx,I.b0,aKG,aKK,aKL,aKM,aKE,bL,aKH,aKF,aKC,cy,cz,go_sem,sD,mj];try rfl))⟩
 ·exact⟨_,rfl,rfl,by rw[show i=n by omega]⟩
theorem ag4(e:id<H.length)(cf:l.length=L)(a m b:Nat)(z:a<m)(A:m<b)(B:b<=L)(g:L<=M) :
  bB ν aD 226 [.bI id 0 L 2,.int .i64 a,.int .i64 m,.int .i64 b,.fn 121 []] (gi 25 H id l)
   λr H'=>r=.bg []/\H'=gi 25 H id (u9 l a m b):=by
 have C:M=1099511627776:=rfl;refine bB.intro (D:=fr) aqr ?_;unfold abZ;simp(disch:=first|exact aX|fail) only[go_sem];have v:(m:Int)-(a:Int)=((m-a:Nat):Int):=by omega
 have w:(b:Int)-(m:Int)=((b-m:Nat):Int):=by omega
 refine bQ (λp:Nat×Nat×List I=>⟨N [(0,.v (.bI id 0 L 2)),(2,.v (enc m)),(4,.v (.fn 121 [])),(10,.v (enc p.1)),(11,.v (enc p.2.1))],gi 25 H id p.2.2⟩)
  (λp=>1<=p.1/\1<=p.2.1/\p.1<=m-a/\m+p.2.1<=b/\p.2.2.length=L/\rG l p.2.2 a m b p.1 p.2.1) (λp=>p.1+p.2.1) (m-a,b-m,l)
  ⟨ap,ap,ap,ap,cf,rG.start am am⟩ (by(try simp(disch:=first|exact aX|fail) only[go_sem,v,w])<;>(exact bl)) ?_
 rintro⟨i,j,E⟩ ⟨k,n,o,q,c,d⟩;simp only at k n o q c d;have x:(m:Int)-(i:Int)=((m-i:Nat):Int):=by omega
 have y:(m:Int)+(j:Int)-(i:Int)=((m+j-i:Nat):Int):=by omega
 (repeat' first|simp(disch:=first|exact aX|fail) only[go_sem,x,y]|(refine ao ?_ ?_<;>intro)|refine cA (QC e c (m-i) m j am am g) ?_|refine cA (QC e c (m-i) (m+j-i) i am am g) ?_|refine cA (QC e c (m-i) m i am am g) ?_)
 ·have h:(i:Int)-(j:Int)=((i-j:Nat):Int):=by omega
  exact⟨(i-j,j,_),⟨ap,n,ap,q,by simp only[Ay];exact c,d.left am am am⟩,ap,by(exact qn @h)⟩
 ·have h:(j:Int)-(i:Int)=((j-i:Nat):Int):=by omega
  exact⟨(i,j-i,_),⟨k,ap,o,ap,by simp only[Ay];exact c,d.right am am am⟩,ap,by(exact qn @h)⟩
 ·obtain rfl:i=j:=by omega
  exact⟨_,rfl,rfl,by rw[aDU d am am am am am am]⟩
theorem ag5(z:id<H.length)(cf:l.length=L)(a b:Nat)(A:a<=b)(B:b<=L)(C:L<=M) :
  bB ν aD 219 [.bI id 0 L 2,.int .i64 a,.int .i64 b,.fn 121 []] (gi 25 H id l)
   λr H'=>r=.bg []/\∃h,H'=gi 25 H id h/\ez l h a b/\e3 b6 h a b:=by
 have E:M=1099511627776:=rfl;refine bB.intro (D:=fr) acI ?_;unfold LD;simp(disch:=first|exact aX|fail) only[go_sem];refine bQ (λp:Nat×List I=>⟨N [(0,.v (.bI id 0 L 2)),(1,.v (enc a)),(2,.v (enc b)),(3,.v (.fn 121 [])),(8,.v (enc p.1))],gi 25 H id p.2⟩)
  (λp=>a+1<=p.1/\(p.1<=b\/p.1=a+1)/\ez l p.2 a b/\e3 b6 p.2 a p.1) (λp=>b-p.1) (a+1,l) ⟨aKB _,.inr rfl,ez.refl _ _ _,λp q _ _ _=>by simp only at *;omega⟩ ew ?_
 rintro⟨i,k⟩ ⟨o,v,e,m⟩;simp only at o v e m;have G:k.length=L:=e.len.trans cf;by_cases ae:i<b
 ·refine ag ?_;refine bQ (λp:Nat×List I=>⟨N [(0,.v (.bI id 0 L 2)),(1,.v (enc a)),(2,.v (enc b)),(3,.v (.fn 121 [])),(8,.v (enc i)),(9,.v (enc p.1))],gi 25 H id p.2⟩)
   (λp=>a<=p.1/\p.1<=i/\ez l p.2 a b/\Ins b6 p.2 a i p.1) (λp=>p.1) (i,k) ⟨ap,aKB _,e,Ins.start m⟩ ew ?_
  rintro⟨j,c⟩ ⟨w,n,d,g⟩;simp only at w n d g;have J:c.length=L:=d.len.trans cf;by_cases aG:a<j
  ·by_cases x:b6 c[j]! c[j-1]! < 0
   ·(repeat' first|simp(disch:=first|exact aX|fail) only[go_sem]|(refine ao ?_ ?_<;>intro)|refine qH ?_)
    have y:(j:Int)-1=((j-1:Nat):Int):=by omega
    exact⟨(j-1,mj c j (j-1)),⟨ap,ap,d.trans (ez.mj am am am am am),g.step aG n am am⟩,ap,by(first|rfl|(simp(disch:=first|exact aX|fail) only[b7,aKI,aKJ,Env.ins,cp,cq,cr,ct,cu,cv,cw,cx,I.b0,aKG,aKK,aKL,aKM,aKE,bL,aKH,aKF,aKC,cy,cz,go_sem,y,mj];try rfl))⟩
   ·(repeat' first|simp(disch:=first|exact aX|fail) only[go_sem]|(refine ao ?_ ?_<;>intro)|refine qH ?_)
    exact⟨(i+1,c),⟨ap,.inl ap,d,g.agR pT aG x⟩,ap,ci⟩
  ·refine ag ?_;obtain rfl:j=a:=by omega
   exact⟨(i+1,c),⟨ap,.inl ap,d,g.agQ⟩,ap,ci⟩
 ·refine ag ?_;exact⟨_,rfl,rfl,k,rfl,e,m.sub (aKB _) am⟩
set_option maxHeartbeats 4000000
open Enc (enc)
def ag6(H:List ay)(id L n:Nat):Prop:=∀(l:List I)(a m b:Nat),b-a<=n->a<m->m<b->b<=L->l.length=L->e3 b6 l a m->e3 b6 l m b ->
  bB ν aD 220 [.bI id 0 L 2,.int .i64 a,.int .i64 m,.int .i64 b,.fn 121 []] (gi 25 H id l)
   λr H'=>r=.bg []/\∃cJ,H'=gi 25 H id cJ/\ez l cJ a b/\e3 b6 cJ a b
theorem ag7(Q:id<H.length)(R:L<=M){n:Nat}(ih:ag6 H id L n){a m b s mid:Nat}(aK:b-a<=n+1)(Y:a<m)(S:m<b)(an:b<=L)(cf:l.length=L)
  (ax:e3 b6 l a m)(T:e3 b6 l m b)(Z:mid=(a+b) / 2)(ei:a<=s)(dy:s<=m)(dO:s<=mid)(aI:mid+m<=s+b)(hm:a<mid)(re:mid<b)
  (cE:s=a\/mid+m=s+b\/¬b6 l[mid+m-1-(s-1)]! l[s-1]! < 0)(fN:s=m\/s=mid\/b6 l[mid+m-1-s]! l[s]! < 0)(x:AV)(y:Nat) :
  jG ν aD fr gf ⟨N [(151,.v x),(0,.v (.bI id 0 L 2)),(1,.v (.int .i64 a)),(2,.v (.int .i64 m)),(3,.v (.int .i64 b)),(4,.v (.fn 121 [])),(18,.v (.int .i64 mid)),(19,.v (.int .i64 ((mid:Int)+m))),(20,.v (.int .i64 s)),(21,.v (.int .i64 y)),(22,.v (.int .i64 ((mid+m-1:Nat):Int)))],gi 25 H id l⟩ (yg λs=>∃r,some (AV.bg [])=some r/\r=.bg []/\∃C,s.heap=gi 25 H id C/\ez l C a b/\e3 b6 C a b) ⟨⟩:=by
 have cP:M=1099511627776:=rfl;have he:((mid:Int)+(m:Int))-(s:Int)=((mid+m-s:Nat):Int):=by omega
 obtain⟨g,V,W,w⟩:∃g,(∀k:Nat,g[k]! = nK l s m (mid+m-s) k)/\ez l g a b/\(if s<m/\m<mid+m-s then g=u9 l s m (mid+m-s)else g=l):=by
  by_cases h:s<m/\m<mid+m-s
  ·exact⟨_,λk=>QB l am am am k,(aDH am am (QA _ _ _ _) λk=>QB l am am am k).mono am am,by rw[if_pos h]⟩
  ·refine⟨l,λk=>?_,ez.refl _ _ _,by rw[if_neg h]⟩;unfold nK;by_cases S:s<m
   ·rw[if_neg am];split
    ·congr 1;omega
    ·rfl
   ·rw[if_neg (c:=s+(mid+m-s-m)<=k/\k<mid+m-s) am];split
    ·congr 1;omega
    ·rfl
 have z:g.length=L:=W.len.trans cf;obtain⟨A,E,t3,t4,X⟩:=aDI pT Y S Z ax T ei dy dO aI cE fN V;have done:∀d o:List I,ez g d a mid->e3 b6 d a mid->ez d o mid b->e3 b6 o mid b->ez l o a b/\e3 b6 o a b:=λd o e p q v =>
  ⟨W.trans ((e.mono (aKB _) am).trans (q.mono am (aKB _))),aDJ e q p v X⟩
 clear V cE fN ax T X;rcases(show(s<m/\m<mid+m-s)\/s=m\/(s<m/\mid+m-s=m) by omega)with ba|ba|ba
 ·rw[if_pos ba]at w;subst w;obtain⟨ba,G⟩:=ba;by_cases dN:a<s
  ·(repeat' first|simp(disch:=first|exact aX|fail) only[go_sem,YJ,gA,gC,gf,fg,fU,he]|(refine ao ?_ ?_<;>intro)|refine cA (ag4 Q cf s m (mid+m-s) am am am R) ?_|refine tU (ih _ a s mid am am am am z A E) (tT pT _ am) ?_)
   rintro d ⟨e,p⟩;have B:d.length=L:=e.len.trans z;have v3:=t3.out e (.inr (aKB _));have v4:=t4.out e (.inr am);by_cases fu:mid+m-s<b
   ·(repeat' first|simp(disch:=first|exact aX|fail) only[go_sem,YJ,gA,gC,gf,fg,fU,he]|(refine ao ?_ ?_<;>intro)|refine tU (ih d mid (mid+m-s) b am am am am B v3 v4) (tT pT _ am) ?_)
    rintro o ⟨q,v⟩
    (repeat' first|simp(disch:=first|exact aX|fail) only[go_sem,YJ,gA,gC,gf,fg,fU]|(refine ao ?_ ?_<;>intro))
    exact⟨_,rfl,rfl,o,rfl,done d o e p q v⟩
   ·(repeat' first|simp(disch:=first|exact aX|fail) only[go_sem,YJ,gA,gC,gf,fg,fU,he]|(refine ao ?_ ?_<;>intro))
    exact⟨_,rfl,rfl,d,rfl,done d d e p (ez.refl _ _ _) ((show mid+m-s=b by omega)▸v3)⟩
  ·obtain⟨d,J⟩:∃d,d=u9 l s m (mid+m-s):=⟨_,rfl⟩;have e:ez (u9 l s m (mid+m-s)) d a mid:=by rw[J];exact ez.refl _ _ _
   have p:e3 b6 d a mid:=by rw[J];exact(show s=a by omega)▸E
   have O:=ag4 Q cf s m (mid+m-s) ba G am R;rw[<-J]at O;have B:d.length=L:=e.len.trans z;have v3:=t3.out e (.inr (aKB _));have v4:=t4.out e (.inr am);by_cases fu:mid+m-s<b
   ·(repeat' first|simp(disch:=first|exact aX|fail) only[go_sem,YJ,gA,gC,gf,fg,fU,he]|(refine ao ?_ ?_<;>intro)|refine cA O ?_|refine tU (ih d mid (mid+m-s) b am am am am B v3 v4) (tT pT _ am) ?_)
    rintro o ⟨q,v⟩
    (repeat' first|simp(disch:=first|exact aX|fail) only[go_sem,YJ,gA,gC,gf,fg,fU]|(refine ao ?_ ?_<;>intro))
    exact⟨_,rfl,rfl,o,rfl,done d o e p q v⟩
   ·(repeat' first|simp(disch:=first|exact aX|fail) only[go_sem,YJ,gA,gC,gf,fg,fU,he]|(refine ao ?_ ?_<;>intro)|refine cA O ?_)
    exact⟨_,rfl,rfl,d,rfl,done d d e p (ez.refl _ _ _) ((show mid+m-s=b by omega)▸v3)⟩
 ·rw[if_neg am]at w;subst w;by_cases dN:s<mid
  ·(repeat' first|simp(disch:=first|exact aX|fail) only[go_sem,YJ,gA,gC,gf,fg,fU,he]|(refine ao ?_ ?_<;>intro)|refine tU (ih _ a s mid am am am am z A E) (tT pT _ am) ?_)
   rintro d ⟨e,p⟩;have B:d.length=L:=e.len.trans z;have v3:=t3.out e (.inr (aKB _));have v4:=t4.out e (.inr am)
   (repeat' first|simp(disch:=first|exact aX|fail) only[go_sem,YJ,gA,gC,gf,fg,fU,he]|(refine ao ?_ ?_<;>intro))
   exact⟨_,rfl,rfl,d,rfl,done d d e p (ez.refl _ _ _) ((show mid+m-s=mid by omega)▸v4)⟩
  ·have e:ez g g a mid:=ez.refl _ _ _;have p:e3 b6 g a mid:=(show s=mid by omega)▸A;have v4:=t4.out e (.inr am)
   (repeat' first|simp(disch:=first|exact aX|fail) only[go_sem,YJ,gA,gC,gf,fg,fU,he]|(refine ao ?_ ?_<;>intro))
   exact⟨_,rfl,rfl,g,rfl,done g g e p (ez.refl _ _ _) ((show mid+m-s=mid by omega)▸v4)⟩
 ·rw[if_neg am]at w;subst w;have e:ez g g a mid:=ez.refl _ _ _;have p:e3 b6 g a mid:=(show s=mid by omega)▸A;have P:g.length=L:=e.len.trans z;have v3:=t3.out e (.inr (aKB _));have v4:=t4.out e (.inr am)
  (repeat' first|simp(disch:=first|exact aX|fail) only[go_sem,YJ,gA,gC,gf,fg,fU,he]|(refine ao ?_ ?_<;>intro)|refine tU (ih g mid (mid+m-s) b am am am am P v3 v4) (tT pT _ am) ?_)
  rintro o ⟨q,v⟩
  (repeat' first|simp(disch:=first|exact aX|fail) only[go_sem,YJ,gA,gC,gf,fg,fU]|(refine ao ?_ ?_<;>intro))
  exact⟨_,rfl,rfl,o,rfl,done g o e p q v⟩
open Enc (enc)
theorem ag8(C:id<H.length)(E:L<=M):∀n,ag6 H id L n:=by
 intro n;induction n with
 |zero=>intro l a m b h;omega|succ n ih =>
 intro l a m b G J O P cf ax x;have Z:M=1099511627776:=rfl;refine bB.intro (D:=fr) aqq ?_;unfold abX;by_cases Q:m=a+1
 ·have y:(m:Int)-(a:Int)=1:=by omega
  (repeat' first|simp(disch:=first|exact aX|fail) only[go_sem,YJ,gA,gC,gf,fg,fU,y]|(refine ao ?_ ?_<;>intro))
  refine bQ (λp:Nat×Nat=>⟨N [(0,.v (.bI id 0 L 2)),(1,.v (enc a)),(4,.v (.fn 121 [])),(10,.v (enc p.1)),(11,.v (enc p.2))],gi 25 H id l⟩)
   (λp=>m<=p.1/\p.1<=p.2/\p.2<=b/\(p.1=m\/b6 l[p.1-1]! l[a]! < 0)/\(p.2=b\/¬b6 l[p.2]! l[a]! < 0)) (λp=>p.2-p.1) (m,b)
   ⟨aKB _,ap,aKB _,.inl rfl,.inl rfl⟩ i8 ?_
  rintro⟨i,j⟩ ⟨o,v,g,d,e⟩;simp only at o v g d e;by_cases V:i<j
  ·by_cases q:b6 l[(i+j) / 2]! l[a]! < 0
   ·(repeat' first|simp(disch:=first|exact aX|fail) only[go_sem,YJ,gA,gC,gf,fg,fU]|(refine ao ?_ ?_<;>intro)|refine qH ?_)
    exact⟨((i+j) / 2+1,j),⟨ap,ap,g,.inr q,e⟩,ap,ci⟩
   ·(repeat' first|simp(disch:=first|exact aX|fail) only[go_sem,YJ,gA,gC,gf,fg,fU]|(refine ao ?_ ?_<;>intro)|refine qH ?_)
    exact⟨(i,(i+j) / 2),⟨o,ap,ap,d,.inr q⟩,ap,ci⟩
  ·obtain rfl:i=j:=by omega
   (repeat' first|simp(disch:=first|exact aX|fail) only[go_sem,YJ,gA,gC,gf,fg,fU]|(refine ao ?_ ?_<;>intro))
   refine bQ (λk:Nat=>⟨N [(0,.v (.bI id 0 L 2)),(10,.v (enc i)),(13,.v (enc (a+k)))],gi 25 H id (u6 l a k)⟩)
    (λk=>k<=i-1-a) (λk=>i-1-a-k) 0 (aKD _) (by(try simp(disch:=first|exact aX|fail) only[go_sem])<;>(first|rfl|(simp(disch:=first|exact aX|fail) only[b7,aKI,aKJ,Env.ins,cp,cq,cr,ct,cu,cv,cw,cx,I.b0,aKG,aKK,aKL,aKM,aKE,bL,aKH,aKF,aKC,cy,cz,go_sem,u6,Nat.add_zero];try rfl))) ?_
   intro k hk;have W:=F7 l a k;have z:(((a:Int)+(k:Int))+1).toNat=a+k+1:=by omega
   (repeat' first|simp(disch:=first|exact aX|fail) only[go_sem,YJ,gA,gC,gf,fg,fU,z]|(refine ao ?_ ?_<;>intro))
   ·exact⟨k+1,am,am,by(first|rfl|(simp(disch:=first|exact aX|fail) only[b7,aKI,aKJ,Env.ins,cp,cq,cr,ct,cu,cv,cw,cx,I.b0,aKG,aKK,aKL,aKM,aKE,bL,aKH,aKF,aKC,cy,cz,go_sem,u6,mj,<-Int.add_assoc];try rfl))⟩
   ·obtain rfl:k=i-1-a:=by omega
    exact⟨_,rfl,rfl,_,rfl,agU _ am am,aDL pT am g am (Q▸x) (by rw[<-Q];exact d) e am⟩
 by_cases X:b=m+1
 ·have y:(m:Int)-(a:Int)≠1:=by omega
  have R:(b:Int)-(m:Int)=1:=by omega
  (repeat' first|simp(disch:=first|exact aX|fail) only[go_sem,YJ,gA,gC,gf,fg,fU,R]|(refine ao ?_ ?_<;>intro))
  refine bQ (λp:Nat×Nat=>⟨N [(0,.v (.bI id 0 L 2)),(2,.v (enc m)),(4,.v (.fn 121 [])),(14,.v (enc p.1)),(15,.v (enc p.2))],gi 25 H id l⟩)
   (λp=>a<=p.1/\p.1<=p.2/\p.2<=m/\(p.1=a\/¬b6 l[m]! l[p.1-1]! < 0)/\(p.2=m\/b6 l[m]! l[p.2]! < 0)) (λp=>p.2-p.1) (a,m)
   ⟨aKB _,ap,aKB _,.inl rfl,.inl rfl⟩ i8 ?_
  rintro⟨i,j⟩ ⟨o,v,g,d,e⟩;simp only at o v g d e;by_cases V:i<j
  ·by_cases q:b6 l[m]! l[(i+j) / 2]! < 0
   ·(repeat' first|simp(disch:=first|exact aX|fail) only[go_sem,YJ,gA,gC,gf,fg,fU]|(refine ao ?_ ?_<;>intro)|refine qH ?_)
    exact⟨(i,(i+j) / 2),⟨o,ap,ap,d,.inr q⟩,ap,ci⟩
   ·(repeat' first|simp(disch:=first|exact aX|fail) only[go_sem,YJ,gA,gC,gf,fg,fU]|(refine ao ?_ ?_<;>intro)|refine qH ?_)
    exact⟨((i+j) / 2+1,j),⟨ap,ap,g,.inr q,e⟩,ap,ci⟩
  ·obtain rfl:i=j:=by omega
   (repeat' first|simp(disch:=first|exact aX|fail) only[go_sem,YJ,gA,gC,gf,fg,fU]|(refine ao ?_ ?_<;>intro))
   refine bQ (λk:Nat=>⟨N [(0,.v (.bI id 0 L 2)),(14,.v (enc i)),(17,.v (enc (m-k)))],gi 25 H id (u7 l m k)⟩)
    (λk=>k<=m-i) (λk=>m-i-k) 0 (aKD _) (by(try simp(disch:=first|exact aX|fail) only[go_sem])<;>(first|rfl|(simp(disch:=first|exact aX|fail) only[b7,aKI,aKJ,Env.ins,cp,cq,cr,ct,cu,cv,cw,cx,I.b0,aKG,aKK,aKL,aKM,aKE,bL,aKH,aKF,aKC,cy,cz,go_sem,u7,Nat.sub_zero];try rfl))) ?_
   intro k hk;have W:=F8 l m k
   (repeat' first|simp(disch:=first|exact aX|fail) only[go_sem,YJ,gA,gC,gf,fg,fU]|(refine ao ?_ ?_<;>intro))
   ·have z:((m-k:Nat):Int)-1=((m-(k+1):Nat):Int):=by omega
    exact⟨k+1,am,am,by(first|rfl|(simp(disch:=first|exact aX|fail) only[b7,aKI,aKJ,Env.ins,cp,cq,cr,ct,cu,cv,cw,cx,I.b0,aKG,aKK,aKL,aKM,aKE,bL,aKH,aKF,aKC,cy,cz,go_sem,z,u7,mj];try rfl))⟩
   ·obtain rfl:k=m-i:=by omega
    exact⟨_,rfl,rfl,_,rfl,agW _ am am am,X▸aDM pT am g am ax d e⟩
 have y:(m:Int)-(a:Int)≠1:=by omega
 have R:(b:Int)-(m:Int)≠1:=by omega
 obtain⟨c,A⟩:∃c,c=(a+b) / 2:=⟨_,rfl⟩;have S:(((a+b) / 2:Nat):Int)=(c:Int):=by rw[A]
 have w:((c:Int)+(m:Int))-1=((c+m-1:Nat):Int):=by omega
 by_cases By:c<m
 ·have T:((c:Int)+(m:Int))-(b:Int)=((c+m-b:Nat):Int):=by omega
  simp(disch:=first|exact aX|fail) only[go_sem,S,T,w,fg,fU];refine bQ (λp:Nat×Nat=>⟨N [(0,.v (.bI id 0 L 2)),(1,.v (enc a)),(2,.v (enc m)),(3,.v (enc b)),(4,.v (.fn 121 [])),(18,.v (enc c)),(19,.v (.int .i64 ((c:Int)+m))),(20,.v (enc p.1)),(21,.v (enc p.2)),(22,.v (enc (c+m-1)))],gi 25 H id l⟩)
   (λp=>(c+m-b)<=p.1/\p.1<=p.2/\p.2<=c/\(p.1=(c+m-b)\/¬b6 l[c+m-1-(p.1-1)]! l[p.1-1]! < 0)/\(p.2=c\/b6 l[c+m-1-p.2]! l[p.2]! < 0)) (λp=>p.2-p.1) ((c+m-b),c)
   ⟨aKB _,ap,aKB _,.inl rfl,.inl rfl⟩ (Ir @T @w) ?_
  rintro⟨s,r⟩ ⟨o,v,g,d,e⟩;simp only at o v g d e;have B:c+m<=s+b:=by omega
  by_cases Y:s<r
  ·have al:(((c+m-1:Nat):Int)-(((s+r) / 2:Nat):Int)).toNat=c+m-1-(s+r) / 2:=by omega
   by_cases q:b6 l[c+m-1-(s+r) / 2]! l[(s+r) / 2]! < 0
   ·(repeat' first|simp(disch:=first|exact aX|fail) only[go_sem,YJ,gA,gC,gf,fg,fU,al]|(refine ao ?_ ?_<;>intro)|refine qH ?_)
    exact⟨(s,(s+r) / 2),⟨o,ap,ap,d,.inr q⟩,ap,ci⟩
   ·(repeat' first|simp(disch:=first|exact aX|fail) only[go_sem,YJ,gA,gC,gf,fg,fU,al]|(refine ao ?_ ?_<;>intro)|refine qH ?_)
    exact⟨((s+r) / 2+1,r),⟨ap,ap,g,.inr q,e⟩,ap,ci⟩
  ·simp(disch:=first|exact aX|fail) only[go_sem];exact ag7 C E ih G J O P cf ax x A am am am B am am (by
    rcases d with h|h
    ·first|exact .inl am |exact .inr (.inl am)
    ·exact .inr (.inr h)) (by
    obtain rfl:s=r:=by omega
    rcases e with h|h
    ·first|exact .inl am |exact .inr (.inl am)
    ·exact .inr (.inr h)) _ _
 ·simp(disch:=first|exact aX|fail) only[go_sem,S,w,fg,fU];refine bQ (λp:Nat×Nat=>⟨N [(0,.v (.bI id 0 L 2)),(1,.v (enc a)),(2,.v (enc m)),(3,.v (enc b)),(4,.v (.fn 121 [])),(18,.v (enc c)),(19,.v (.int .i64 ((c:Int)+m))),(20,.v (enc p.1)),(21,.v (enc p.2)),(22,.v (enc (c+m-1)))],gi 25 H id l⟩)
   (λp=>a<=p.1/\p.1<=p.2/\p.2<=m/\(p.1=a\/¬b6 l[c+m-1-(p.1-1)]! l[p.1-1]! < 0)/\(p.2=m\/b6 l[c+m-1-p.2]! l[p.2]! < 0)) (λp=>p.2-p.1) (a,m)
   ⟨aKB _,ap,aKB _,.inl rfl,.inl rfl⟩ (rm @w) ?_
  rintro⟨s,r⟩ ⟨o,v,g,d,e⟩;simp only at o v g d e;have B:c+m<=s+b:=by omega
  by_cases Y:s<r
  ·have al:(((c+m-1:Nat):Int)-(((s+r) / 2:Nat):Int)).toNat=c+m-1-(s+r) / 2:=by omega
   by_cases q:b6 l[c+m-1-(s+r) / 2]! l[(s+r) / 2]! < 0
   ·(repeat' first|simp(disch:=first|exact aX|fail) only[go_sem,YJ,gA,gC,gf,fg,fU,al]|(refine ao ?_ ?_<;>intro)|refine qH ?_)
    exact⟨(s,(s+r) / 2),⟨o,ap,ap,d,.inr q⟩,ap,ci⟩
   ·(repeat' first|simp(disch:=first|exact aX|fail) only[go_sem,YJ,gA,gC,gf,fg,fU,al]|(refine ao ?_ ?_<;>intro)|refine qH ?_)
    exact⟨((s+r) / 2+1,r),⟨ap,ap,g,.inr q,e⟩,ap,ci⟩
  ·simp(disch:=first|exact aX|fail) only[go_sem];exact ag7 C E ih G J O P cf ax x A am am am B am am (by
    rcases d with h|h
    ·first|exact .inl am |exact .inr (.inl am)
    ·exact .inr (.inr h)) (by
    obtain rfl:s=r:=by omega
    rcases e with h|h
    ·first|exact .inl am |exact .inr (.inl am)
    ·exact .inr (.inr h)) _ _
open Enc (enc)
theorem aDX(z:id<H.length)(A:L<=M)(cf:l.length=L) :
  bB ν aD 204 [.bI id 0 L 2,.int .i64 L,.fn 121 []] (gi 25 H id l)
   λr H'=>r=.bg []/\∃O,H'=gi 25 H id O/\ez l O 0 L/\e3 b6 O 0 L:=by
 have cP:M=1099511627776:=rfl;refine bB.intro (D:=fr) acG ?_;unfold Lx;simp(disch:=first|exact aX|fail) only[go_sem];refine bQ (λp:Nat×Nat×Nat×List I=>⟨N [(0,.v (.bI id 0 L 2)),(1,.v (enc L)),(2,.v (.fn 121 [])),(6,.v (.int .i64 20)),(7,.v (enc p.2.1)),(8,.v (enc p.2.2.1))],gi 25 H id p.2.2.2⟩)
  (λp=>p.2.1=20*p.1/\p.2.2.1=p.2.1+20/\p.2.1<=L/\ez l p.2.2.2 0 L/\Az b6 p.2.2.2 20 p.1) (λp=>L-p.2.1) (0,0,20,l)
  ⟨rfl,rfl,aKD _,ez.refl _ _ _,λw p q h=>by simp only at h;omega⟩ i8 ?_
 rintro⟨u,a,b,cV⟩ ⟨v,B,e,d,C⟩;simp only at v B e d C;have P:cV.length=L:=d.len.trans cf;by_cases ae:b<=L
 ·(repeat' first|simp(disch:=first|exact aX|fail) only[go_sem]|(refine ao ?_ ?_<;>intro)|refine tU (ag5 z P a b am ae A) (tT pT _ am) ?_)
  rintro E ⟨c,g⟩
  (repeat' first|refine ag ?_|(refine ao ?_ ?_<;>intro))
  exact⟨(u+1,b,b+20,E),⟨ap,rfl,ae,d.trans (c.mono am am),C.step v am c g⟩,ap,ci⟩
 (repeat' first|simp(disch:=first|exact aX|fail) only[go_sem]|(refine ao ?_ ?_<;>intro)|refine tU (ag5 z P a L e (aKB _) A) (tT pT _ am) ?_)
 rintro E ⟨c,g⟩;have X:=d.trans (c.mono (aKD _) (aKB _));have Y:rH b6 E L 20 0:=C.last v am c g;clear d C c g
 (repeat' first|refine ag ?_|(refine ao ?_ ?_<;>intro))
 refine bQ (λp:Nat×List I=>⟨N [(0,.v (.bI id 0 L 2)),(1,.v (enc L)),(2,.v (.fn 121 [])),(6,.v (enc p.1))],gi 25 H id p.2⟩)
  (λp=>1<=p.1/\p.1<=2*L+40/\ez l p.2 0 L/\rH b6 p.2 L p.1 0) (λp=>L-p.1) (20,E)
  ⟨ap,ap,X,Y⟩ ew ?_
 clear X Y P v B e ae;rintro⟨s,Q⟩ ⟨v,B,e,d⟩;simp only at v B e d;have aOr:Q.length=L:=e.len.trans cf;by_cases ax:s<L
 ·obtain⟨t,aB⟩:∃t,t=2*s:=⟨_,rfl⟩;have k:(2:Int)*(s:Int)=(t:Int):=by omega
  have R:(s:Int)*2=(t:Int):=by omega
  refine bU @k ?_;refine bQ (λp:Nat×Nat×Nat×List I=>⟨N [(0,.v (.bI id 0 L 2)),(1,.v (enc L)),(2,.v (.fn 121 [])),(6,.v (enc s)),(7,.v (enc p.2.1)),(8,.v (enc p.2.2.1))],gi 25 H id p.2.2.2⟩)
   (λp=>p.2.1=t*p.1/\p.2.2.1=p.2.1+t/\p.2.1<=L/\ez l p.2.2.2 0 L/\Az b6 p.2.2.2 t p.1/\rH b6 p.2.2.2 L s (2*p.1)) (λp=>L-p.2.1) (0,0,t,Q)
   ⟨rfl,ap,aKD _,e,(λw p q h=>by simp only at h;omega),d⟩ (by(try simp(disch:=first|exact aX|fail) only[go_sem,k])<;>(exact qn @k)) ?_
  rintro⟨u,a,b,G⟩ ⟨n,S,dO,x,J,o⟩;simp only at n S dO x J o;have Z:G.length=L:=x.len.trans cf;obtain⟨m,hm⟩:∃m,m=a+s:=⟨_,rfl⟩;have T:(a:Int)+(s:Int)=(m:Int):=by omega
  have y:a=2*s*u:=by rw[n,aB]
  by_cases ae:b<=L
  ·(repeat' first|simp(disch:=first|exact aX|fail) only[go_sem,k,T]|(refine ao ?_ ?_<;>intro)|refine tU (ag8 z A (b-a) G a m b (aKB _) am am ae Z (hm▸o.agX y am) (hm▸o.agY y am ae)) (tT pT _ am) ?_)
   rintro V ⟨c,g⟩
   (repeat' first|refine bU @k ?_|(refine ao ?_ ?_<;>intro))
   exact⟨(u+1,b,b+t,V),⟨by simp only;rw[Nat.mul_succ,<-n];exact S,rfl,ae,x.trans (c.mono am am),J.step n (by rw[Nat.mul_succ,<-n];exact S) c g,o.step y am c⟩,ap,ci⟩
  ·by_cases W:m<L
   ·(repeat' first|simp(disch:=first|exact aX|fail) only[go_sem,k,R,T]|(refine ao ?_ ?_<;>intro)|refine tU (ag8 z A (L-a) G a m L (aKB _) am W (aKB _) Z (hm▸o.agX y am) (hm▸o.agY y am (aKB _))) (tT pT _ am) ?_)
    rintro V ⟨c,g⟩
    (repeat' first|refine gS @k @R ?_|(refine ao ?_ ?_<;>intro))
    exact⟨(t,V),⟨ap,ap,x.trans (c.mono (aKD _) (aKB _)),J.last n am c g⟩,ap,ci⟩
   ·refine iv @k @R @T ?_;exact⟨(t,G),⟨ap,ap,x,J.last n am (ez.refl _ _ _) λp q v1 v2 v3=>o (2*u) p q (aKB _) (by rw[<-Nat.mul_assoc,Nat.mul_comm s 2];omega) v2 (by rw[Nat.mul_add,<-Nat.mul_assoc,Nat.mul_comm s 2];omega) v3⟩,ap,ci⟩
 ·(repeat' first|refine ag ?_|(refine ao ?_ ?_<;>intro))
  exact⟨_,rfl,rfl,Q,rfl,e,d.full am⟩
theorem aDZ(b:id<H.length)(c:L<=M)(cf:l.length=L) :
  bB ν aD 166 [.bI id 0 L 2,.fn 121 []] (gi 25 H id l)
   λr H'=>r=.bg []/\∃a,H'=gi 25 H id a/\ez l a 0 L/\e3 b6 a 0 L:=by
 refine bB.intro (D:=fr) Wb ?_;unfold Cz
 (repeat' first|simp(disch:=first|exact aX|fail) only[go_sem]|(refine ao ?_ ?_<;>intro)|refine tU (aDX b c cf) (tT pT _ am) ?_)
 rintro d ⟨e,g⟩
 (repeat' first|refine ag ?_|(refine ao ?_ ?_<;>intro))
 exact⟨_,rfl,rfl,d,rfl,e,g⟩
open Enc (enc)
theorem aEe(x:AV)(l:List I)(ah:x=.hK 2/\l=[]\/x=enc l/\l≠[])(a:l.length<=M) :
  bB ν aD 165 [x] [] λr H'=>r=.bI 2 0 l.length 2/\H'=gi 25 [.dead,.dead,.dead,.dead] 2 l:=by
 have b:M=1099511627776:=rfl;refine bB.intro (D:=fr) Wa ?_;unfold Cw;rcases ah with⟨rfl,rfl⟩|⟨rfl,c⟩
 ·refine ag ?_;rw[if_pos (show(2 != 0)=true from rfl)];simp only[AV.vx,AV.ju,aKP,List.flatten_nil,List.length_nil,Nat.zero_mul,aKB,Nat.zero_add,true_and,aKD,if_true,aKE,aKC,aKN,aKQ];refine ag ?_;exact⟨_,rfl,rfl,rfl⟩
 ·refine ag ?_;rw[if_pos (show(2 != 0)=true from rfl)];simp only[AV.vx,AV.ju,aKP,List.flatten_nil,List.length_nil,Nat.zero_mul,aKB,Nat.zero_add,true_and,aKG,a,if_true,aKE,aKC,aKN,aKQ,ahe];refine ag ?_;exact⟨_,rfl,rfl,rfl⟩
theorem aEf(H:List ay):bB ν aD 219 [.aS 2,.int .i64 0,.int .i64 0,.fn 121 []] H λr H'=>r=.bg []/\H'=H:=by
 refine bB.intro (D:=fr) acI ?_;unfold LD;simp(disch:=first|exact aX|fail) only[go_sem];refine bQ (λp:Unit=>⟨N [(0,.v (.aS 2)),(1,.v (.int .i64 0)),(2,.v (.int .i64 0)),(3,.v (.fn 121 [])),(8,.v (.int .i64 1))],H⟩) (λp=>True) (λp=>0) () trivial ew ?_;intro _ _;refine ag ?_;exact⟨_,rfl,rfl⟩
theorem aEg(H:List ay):bB ν aD 204 [.aS 2,.int .i64 0,.fn 121 []] H λr H'=>r=.bg []/\H'=H:=by
 refine bB.intro (D:=fr) acG ?_;unfold Lx;simp(disch:=first|exact aX|fail) only[go_sem];refine bQ (λp:Unit=>⟨N [(0,.v (.aS 2)),(1,.v (.int .i64 0)),(2,.v (.fn 121 [])),(6,.v (.int .i64 20)),(7,.v (.int .i64 0)),(8,.v (.int .i64 20))],H⟩) (λp=>True) (λp=>0) () trivial ew ?_;intro _ _
 (repeat' first|simp(disch:=first|exact aX|fail) only[go_sem]|(refine ao ?_ ?_<;>intro)|refine cA (aEf H) ?_)
 refine bQ (λp:Unit=>⟨N [(0,.v (.aS 2)),(1,.v (.int .i64 0)),(2,.v (.fn 121 [])),(6,.v (.int .i64 20))],H⟩) (λp=>True) (λp=>0) () trivial ew ?_;intro _ _;refine ag ?_;exact⟨_,rfl,rfl⟩
theorem aEh(H:List ay):bB ν aD 166 [.aS 2,.fn 121 []] H λr H'=>r=.bg []/\H'=H:=by
 refine bB.intro (D:=fr) Wb ?_;unfold Cz
 (repeat' first|simp(disch:=first|exact aX|fail) only[go_sem]|(refine ao ?_ ?_<;>intro)|refine cA (aEg H) ?_)
 exact⟨_,rfl,rfl⟩
theorem aEi(H:List ay):bB ν aD 165 [.aS 2] H λr H'=>r=.aS 2/\H'=H:=by
 refine bB.intro (D:=fr) Wa ?_;unfold Cw;refine ag ?_;exact⟨_,rfl,rfl⟩
noncomputable def QK:List iZ:=[(120,eh λ(l:List I)=>enc (fx l))]
noncomputable def w1:bj:=ij fr (e1 QK)
instance aOt{D:bj}[h:bt D w1]:bt D fr:=h.ke
def QL:List Nat:=[120]++Qv
theorem ahg:fq w1 QL:=fq.or agG (kf QK)
theorem aEj(h:∀xs,e1 QK f xs=F xs)(hk:Qv.contains f=false:=by rfl):∀xs,w1 f xs=F xs:=λxs=>by rw[<-h];exact kg agG hk
theorem aEk:aA ν aD 120 [.aS 2] (enc ([]:List I)):=by
 refine aA.gK (D:=w1) V8 rfl rfl (Enc.iI _) ?_;unfold Cr
 (repeat' first|simp(disch:=first|exact aX|fail) only[go_sem]|(refine ao ?_ ?_<;>intro)|refine cA (aEi []) ?_|refine cA (aEh []) ?_)
 refine bQ (λp:Unit=>⟨N [(3,.v (.aS 2)),(4,.v (.list (some 25) 2 [])),(11,.v (.aS 2)),(12,.v (.int .i64 0)),(13,.v (.int .i64 0))],[]⟩) (λp=>True) (λp=>0) () trivial ew ?_;intro _ _;refine ag ?_;exact⟨_,rfl,bx.disown _ _ _⟩
theorem ahh(x:AV)(l:List I)(ah:x=.hK 2/\l=[]\/x=enc l/\l≠[])(d:l.length<=M):aA ν aD 120 [x] (enc (fx l)):=by
 have r:M=1099511627776:=rfl;refine aA.gK (D:=w1) V8 (by rcases ah with⟨rfl,_⟩|⟨rfl,_⟩<;>rfl) rfl (Enc.iI _) ?_;unfold Cr;obtain⟨n,b⟩:∃n,n=l.length:=⟨_,rfl⟩;have c:=aEe x l ah d;rw[<-b]at c;have o:x.a1=x:=by rcases ah with⟨rfl,_⟩|⟨rfl,_⟩<;>first|rfl|exact Enc.a1 _
 (repeat' first|simp(disch:=first|exact aX|fail) only[go_sem,o]|(refine ao ?_ ?_<;>intro)|refine cA c ?_|refine tU (aDZ dw (b▸d) b.symm) (tT pT _ am) ?_)
 rintro a ⟨g,p⟩;have k:a.length=n:=g.len.trans b.symm;have q:(gi 25 [.dead,.dead,.dead,.dead] 2 a)[2]?=some (.buf 25 (c3 a)):=ag1 dw;refine bU @q ?_;refine bQ (λi:Nat=>⟨N [(3,.v (.list (some 25) 2 (a.map I.enc))),(4,.v (.list (some 25) 2 ((lK a i).map I.enc))),(11,.v (enc a)),(12,.v (enc n)),(13,.v (enc i))],(gi 25 [.dead,.dead,.dead,.dead] 2 a).set 2 .dead⟩) (λi=>i<=n) (λi=>n-i) 0 (aKD _) (by(try simp(disch:=first|exact aX|fail) only[go_sem,k])<;>(first|rfl|(simp(disch:=first|exact aX|fail) only[b7,aKI,aKJ,Env.ins,cp,cq,cr,ct,cu,cv,cw,cx,I.b0,aKG,aKK,aKL,aKM,aKE,bL,aKH,aKF,aKC,cy,cz,go_sem,k,lK];try rfl))) ?_;intro i al;have v:=ahc a i;by_cases h:i<n
 ·by_cases m:i=0
  ·have hd:lK a (i+1)=lK a i++[a[i]!]:=by rw[lK,if_pos (.inl m)]
   refine ag ?_;all_goals exact⟨i+1,am,am,by(exact qn @hd)⟩
  ·by_cases c:b6 a[i-1]! a[i]! = 0
   ·have hd:lK a (i+1)=lK a i:=by rw[lK,if_neg (by rintro(e|e);exact m e;exact e c)]
    refine ag ?_;all_goals exact⟨i+1,am,am,by(exact qn @hd)⟩
   ·have hd:lK a (i+1)=lK a i++[a[i]!]:=by rw[lK,if_pos (.inr c)]
    refine ag ?_;all_goals exact⟨i+1,am,am,by(exact qn @hd)⟩
 ·refine ag ?_;obtain rfl:i=n:=by omega
  exact⟨_,rfl,by rw[aD4 b g p];exact bx.disown _ _ _⟩
theorem aEl(l:List I):aA ν aD 120 [enc l] (enc (fx l)):=by
 refine aA.h4 λae=>?_;by_cases h:l=[]
 ·subst h;exact aA.split aEk (ahh (.hK 2) [] (.inl ⟨rfl,rfl⟩) (aKD _))
 ·exact ahh (enc l) l (.inr ⟨rfl,h⟩) ae.1
theorem aEm[bt D w1][aT x1 l]  :b1 ν aD D 120 [x1] K tg=K (enc (fx l)):=ec (D':=w1) (F:=λ(l:List I)=>enc (fx l)) (aEj λ_=>rfl) (aEl l)
attribute [go_sem ↓ 2000] aEm
open Enc (enc)
noncomputable def QQ:List iZ:=[(83,eh λ(l:List I)=>enc (l))]
noncomputable def ml:bj:=ij w1 (e1 QQ)
instance aOu{D:bj}[h:bt D ml]:bt D w1:=h.ke
def Ki:List Nat:=[83]++QL
theorem QR:fq ml Ki:=fq.or ahg (kf QQ)
theorem QS(h:∀xs,e1 QQ f xs=F xs)(hk:QL.contains f=false:=by rfl):∀xs,ml f xs=F xs:=λxs=>by rw[<-h];exact kg ahg hk
theorem aEv[bt D ml][aT x1 l](h:aA ν aD 83 [enc l] (enc (l))):b1 ν aD D 83 [x1] K tg=K (enc (l)):=ec (D':=ml) (F:=λ(l:List I)=>enc (l)) (QS λ_=>rfl) h
theorem ahj(l:List I)(c:l.length<=100000)(ih:∀t∈l,aA ν aD 83 [enc t.args] (enc t.args)):aA ν aD 83 [enc l] (enc l):=by
 refine aA.gK (D:=ml) afg (by simp only[List.all_cons,List.all_nil,Enc.arg,Bool.and_self]) rfl (Enc.iI _) ?_;unfold Po;have d:M=1099511627776:=rfl;refine bU @aKN.{0} ?_;refine bQ (λi:Nat=>⟨N [(3,.v (.bI 0 0 l.length 2)),(9,.v (enc l)),(10,.v (enc l.length)),(11,.v (enc i))],[.buf 25 (lL l i),.dead]⟩) (λi=>i<=l.length) (λi=>l.length-i) 0 (aKD _) (rm @QM) ?_;intro i al;by_cases h:i<l.length
 ·have a:=λ{K:AV->Prop}{tg:aN K}(b:i<l.length)=>aEv (D:=ml) (K:=K) (tg:=tg) (x1:=.list none 2 (l[i]!.args.map I.enc)) (ih l[i]! (ek b));refine iv @a @aKP.{0} @aKQ.{0} ?_;exact⟨i+1,am,am,ci⟩
 ·obtain rfl:i=l.length:=by omega
  refine gS @aKP.{0} @aKQ.{0} ?_;exact⟨_,rfl,bx.disown _ _ _⟩
theorem aEx(l:List I)(b:l.length<=100000)(d:kh l<=100000):aA ν aD 83 [enc l] (enc l):=by
 have key:∀t:I,rJ t<=100000->aA ν aD 83 [enc t.args] (enc t.args):=I.ind λt ih h=>by
  rw[Kh]at h;exact ahj t.args am λu a=>ih u a (by have:=yI a;omega)
 exact ahj l b λt c=>key t (by have:=yI c;omega)
theorem aEy[bt D ml][aT x1 l](h:l.length<=100000/\kh l<=100000) :b1 ν aD D 83 [x1] K tg=K (enc (l)):=ec (D':=ml) (F:=λ(l:List I)=>enc (l)) (QS λ_=>rfl) (aEx l h.1 h.2)
attribute [go_sem ↓ 2000] aEy
open Enc (enc)
noncomputable def akH:List iZ:=[(27,qF λ(t:I)(m:Int)(d:Int)=>enc (j6 m d.toNat t)),
 (9,hj λ(t:I)(m:Int)=>enc (lM m t)),
 (8,hj λ(l:List I)(m:Int)=>enc (qI m l))]
noncomputable def rT:bj:=ij ml (e1 akH)
theorem Tm(h:∀xs,e1 akH f xs=F xs)(hk:Ki.contains f=false:=by rfl):∀xs,rT f xs=F xs:=λxs=>by rw[<-h];exact kg QR hk
variable {x3:AV}{m d:Int}
theorem aJQ[bt D rT][aT x1 t][aT x2 m][aT x3 d](h:aA ν aD 27 [enc t,enc m,enc d] (enc (j6 m d.toNat t))):b1 ν aD D 27 [x1,x2,x3] K tg=K (enc (j6 m d.toNat t)):=u2 (D':=rT) (F:=λ(t:I)(m:Int)(d:Int)=>enc (j6 m d.toNat t)) (Tm λ_=>rfl) h
theorem aJR(hm:0<=m/\m<=1000):∀(d:Nat)(t:I),(d:Int)<=m->aA ν aD 27 [enc t,enc m,enc (d:Int)] (enc (j6 m d t)):=by
 intro d;induction d with
 |zero =>
  intro t hd;refine aA.intro (D:=rT) aye cX c7 ?_;unfold Y0;simp(disch:=first|exact aX|fail) only[go_sem]
  (repeat' first|refine gS @Um @ze ?_|(refine ao ?_ ?_<;>intro))
  all_goals rfl
 |succ d ih =>
  intro t hd;refine aA.h4 λae=>?_;obtain⟨_,ae,_⟩:=(I.j5 t).1 ae;have r:M=1099511627776:=rfl;have e:((d:Int)+1)-1=(d:Int):=by omega
  refine aA.intro (D:=rT) aye cX c7 ?_;unfold Y0;simp(disch:=first|exact aX|fail) only[go_sem]
  (repeat' first|refine gS @Um @ze ?_|(refine ao ?_ ?_<;>intro))
  refine bQ (λp:Nat×Int=>⟨N [(1,.v (enc m)),(2,.v (.int .i64 ((d:Int)+1))),(3,.v (.cL t.enc.cells)),(7,.v (enc p.2)),(15,.v (enc t.args.length)),(16,.v (enc p.1))],[]⟩)
   (λp=>p.1<=t.args.length/\ki (j6 m d) m (t.args.drop p.1) p.2=j6 m (d+1) t/\1<=p.2/\p.2<=yJ m d+m) (λp=>t.args.length-p.1) (0,1) ⟨aKD _,rfl,Int.le_refl _,by have:=Kk hm d;simp only;omega⟩ ew ?_
  rintro⟨i,n⟩ ⟨g,a,k,o⟩;simp only at g a k o;have v:=Kk hm d;by_cases h:i<t.args.length
  ·by_cases b:n>m
   ·rw[aho h b]at a
    (repeat' first|simp(disch:=first|exact aX|fail) only[go_sem,Um,ze,a]|(refine ao ?_ ?_<;>intro))
    all_goals rfl
   ·rw[ahn h b]at a;have q:=Kl hm d t.args[i]!;have c:=λ{K:AV->Prop}{tg:aN K}(w:i<t.args.length)=>aJQ (D:=rT) (K:=K) (tg:=tg) (x1:=t.args[i]!.enc) (x2:=.int .i64 m) (x3:=.int .i64 (d:Int)) (by rw[Int.toNat_natCast];exact ih _ am);simp only[Int.toNat_natCast]at c
    (repeat' first|simp(disch:=first|exact aX|fail) only[go_sem,Um,ze,e,c]|(refine ao ?_ ?_<;>intro))
    exact⟨(i+1,_),⟨ap,a,ap,ap⟩,ap,ci⟩
  ·rw[aEE am]at a
   (repeat' first|simp(disch:=first|exact aX|fail) only[go_sem,Um,ze,a]|(refine ao ?_ ?_<;>intro))
   all_goals rfl
theorem aJS[bt D rT][aT x1 t][aT x2 m][aT x3 d](h:0<=m/\m<=1000/\0<=d/\d<=m) :b1 ν aD D 27 [x1,x2,x3] K tg=K (enc (j6 m d.toNat t)):=u2 (D':=rT) (F:=λ(t:I)(m:Int)(d:Int)=>enc (j6 m d.toNat t)) (Tm λ_=>rfl) (by have a:=aJR ⟨h.1,h.2.1⟩ d.toNat t am;rwa[Int.toNat_of_nonneg h.2.2.1]at a)
attribute [go_sem ↓ 2000] aJS
theorem akI(t:I)(hm:0<=m/\m<=1000):aA ν aD 9 [enc t,enc m] (enc (lM m t)):=by
 refine aA.intro (D:=rT) V0 cX c7 ?_;unfold rE;simp(disch:=first|exact aX|fail) only[go_sem]
 (repeat' first|refine ag ?_|(refine ao ?_ ?_<;>intro))
 all_goals first|rfl|simp_all[lM]
theorem aJT[bt D rT][aT x1 t][aT x2 m](h:0<=m/\m<=1000) :b1 ν aD D 9 [x1,x2] K tg=K (enc (lM m t)):=ik (D':=rT) (F:=λ(t:I)(m:Int)=>enc (lM m t)) (Tm λ_=>rfl) (akI t h)
attribute [go_sem ↓ 2000] aJT
theorem aJU(l:List I)(hm:0<=m/\m<=1000):aA ν aD 8 [enc l,enc m] (enc (qI m l)):=by
 refine aA.h4 λae=>?_;obtain⟨ae,_⟩:=ae;have e:M=1099511627776:=rfl;by_cases b:(l.length:Int)<=m
 ·refine aA.intro (D:=rT) acF cX c7 ?_;unfold Li;simp(disch:=first|exact aX|fail) only[go_sem]
  (repeat' first|refine gS @Yk @zc ?_|(refine ao ?_ ?_<;>intro))
  refine bQ (λi:Nat=>⟨N [(0,.v (enc l)),(1,.v (enc m)),(11,.v (enc l.length)),(12,.v (enc i))],[]⟩)
   (λi=>i<=l.length/\qI m l=(l.drop i).all (lM m)) (λi=>l.length-i) 0 ⟨aKD _,by rw[qI,decide_eq_true b,Bool.true_and];rfl⟩ ew ?_
  rintro i ⟨g,a⟩;by_cases h:i<l.length
  ·rw[fi h,List.all_cons]at a;cases ax:lM m l[i]! with
   |false =>
    rw[ax,Bool.false_and]at a
    (repeat' first|simp(disch:=first|exact aX|fail) only[go_sem,Yk,zc,ax,a]|(refine ao ?_ ?_<;>intro))
    all_goals rfl
   |true =>
    rw[ax,Bool.true_and]at a
    (repeat' first|simp(disch:=first|exact aX|fail) only[go_sem,Yk,zc,ax]|(refine ao ?_ ?_<;>intro))
    exact⟨i+1,⟨am,a⟩,am,ci⟩
  ·rw[List.drop_eq_nil_of_le am]at a
   (repeat' first|simp(disch:=first|exact aX|fail) only[go_sem,Yk,zc,a]|(refine ao ?_ ?_<;>intro))
   all_goals rfl
 ·have c:qI m l=false:=by rw[qI,decide_eq_false b,Bool.false_and]
  rw[c];refine aA.intro (D:=rT) acF cX c7 ?_;unfold Li;simp(disch:=first|exact aX|fail) only[go_sem]
  (repeat' first|refine gS @Yk @zc ?_|(refine ao ?_ ?_<;>intro))
  all_goals rfl
end AM
