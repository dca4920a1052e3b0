/- What functions of the given program do, as calls of the machine. Conditions: names and lists are bounded where that is said. -/
import Derived.Test.YtanepioeppghhaaGreatDoorT1
import Derived.Test.YtanepioeppghhaaGreatDoorAm15
set_option linter.unusedSimpArgs false
set_option maxRecDepth 100000
set_option maxHeartbeats 400000
set_option linter.unusedVariables false
namespace AM
open List renaming map_nil -> aKg,length_map -> aKh,take_zero -> aKi,map_cons -> aKj,map_append -> aKk,foldr_cons -> aKm,foldr_nil -> aKn,take_of_length_le -> aKs,nil_append -> aKt,length_nil -> aKu,append_assoc -> aKv,length_append -> aKw,getElem?_cons_zero -> aKx,set_cons_zero -> aKy
open Nat renaming le_refl -> aKl,zero_le -> aKr
open Int renaming natCast_add -> aKo,natCast_one -> aKp,natCast_zero -> aKq
open Go Go.Proofs
open Tryz renaming prog -> ν
open Enc (enc)
noncomputable def NW:List kX:=[(58,fO fun(s:aj)=>enc (fo s)),
 (98,fO fun(s:aj)=>enc (e9 s)),
 (127,fO fun(s:aj)=>l8 s),
 (97,fO fun(s:aj)=>enc ((hh s).isSome)),
 (57,fO fun(t:I)=>enc (ct 4 t true)),
 (29,fO fun(t:I)=>enc (ct 4 t false)),
 (80,jo fun(t:I)(u:I)=>enc (cf t u)),
 (111,jo fun(t:List I)(u:List I)=>enc (fy t u)),
 (113,jo fun(s:aj)(t:aj)=>enc (dk s t)),
 (34,jo fun(t:I)(u:I)=>enc (hi t u)),
 (10,jo fun(t:List I)(u:List I)=>enc (fS t u)),
 (83,fO fun(t:I)=>enc (t)),
 (33,jo fun(t:I)(u:I)=>enc (cf t u)),
 (103,fO fun(s:aj)=>enc (e9 s)),
 (104,fO fun(s:aj)=>l8 s)]
noncomputable def hj:bc:=fT NW
theorem abH:gC hj [58,98,127,97,57,29,80,111,113,34,10,83,33,103,104]:=nB NW
variable {f:Nat}{F:List AV->Option AV}
theorem tO(h:∀xs,fT NW f xs=F xs):∀xs,hj f xs=F xs:=h
variable {D:bc}{x1:AV}{s:aj}{K:AV->Prop}{tg:aM K}
theorem awn[bq D hj][aT x1 s](h:aF ν aB 58 [enc s] (enc (fo s))):bT ν aB D 58 [x1] K tg=K (enc (fo s)):=gN (D':=hj) (F:=fun(s:aj)=>enc (fo s)) (tO fun _=>rfl) h
theorem awo[bq D hj][aT x1 s](h:aF ν aB 98 [enc s] (enc (e9 s))):bT ν aB D 98 [x1] K tg=K (enc (e9 s)):=gN (D':=hj) (F:=fun(s:aj)=>enc (e9 s)) (tO fun _=>rfl) h
theorem awp[bq D hj][aT x1 s](h:aF ν aB 127 [enc s] (l8 s)):bT ν aB D 127 [x1] K tg=K (l8 s):=gN (D':=hj) (F:=fun(s:aj)=>l8 s) (tO fun _=>rfl) h
variable {t:I}
theorem awq[bq D hj][aT x1 t](h:aF ν aB 57 [enc t] (enc (ct 4 t true))):bT ν aB D 57 [x1] K tg=K (enc (ct 4 t true)):=gN (D':=hj) (F:=fun(t:I)=>enc (ct 4 t true)) (tO fun _=>rfl) h
theorem awr[bq D hj][aT x1 t](h:aF ν aB 29 [enc t] (enc (ct 4 t false))):bT ν aB D 29 [x1] K tg=K (enc (ct 4 t false)):=gN (D':=hj) (F:=fun(t:I)=>enc (ct 4 t false)) (tO fun _=>rfl) h
variable {x2:AV}{u:I}
theorem aws[bq D hj][aT x1 t][aT x2 u](h:aF ν aB 80 [enc t,enc u] (enc (cf t u))):bT ν aB D 80 [x1,x2] K tg=K (enc (cf t u)):=lI (D':=hj) (F:=fun(t:I)(u:I)=>enc (cf t u)) (tO fun _=>rfl) h
theorem awt[bq D hj]{t:aj}[aT x1 s][aT x2 t](h:aF ν aB 113 [enc s,enc t] (enc (dk s t))):bT ν aB D 113 [x1,x2] K tg=K (enc (dk s t)):=lI (D':=hj) (F:=fun(s:aj)(t:aj)=>enc (dk s t)) (tO fun _=>rfl) h
theorem awu[bq D hj][aT x1 t][aT x2 u](h:aF ν aB 34 [enc t,enc u] (enc (hi t u))):bT ν aB D 34 [x1,x2] K tg=K (enc (hi t u)):=lI (D':=hj) (F:=fun(t:I)(u:I)=>enc (hi t u)) (tO fun _=>rfl) h
theorem awv[bq D hj]{t:List I}{u:List I}[aT x1 t][aT x2 u](h:aF ν aB 10 [enc t,enc u] (enc (fS t u))):bT ν aB D 10 [x1,x2] K tg=K (enc (fS t u)):=lI (D':=hj) (F:=fun(t:List I)(u:List I)=>enc (fS t u)) (tO fun _=>rfl) h
theorem aww[bq D hj][aT x1 t](h:aF ν aB 83 [enc t] (enc (t))):bT ν aB D 83 [x1] K tg=K (enc (t)):=gN (D':=hj) (F:=fun(t:I)=>enc (t)) (tO fun _=>rfl) h
theorem aJV[bq D hj][aT x1 t][aT x2 u](h:aF ν aB 33 [enc t,enc u] (enc (cf t u))):bT ν aB D 33 [x1,x2] K tg=K (enc (cf t u)):=lI (D':=hj) (F:=fun(t:I)(u:I)=>enc (cf t u)) (tO fun _=>rfl) h
theorem awx[bq D hj][aT x1 s]  :bT ν aB D 58 [x1] K tg=K (enc (fo s)):=awn (aaP s)
attribute [go_sem ↓ 2000] awx
theorem awy[bq D hj][aT x1 s]  :bT ν aB D 98 [x1] K tg=K (enc (e9 s)):=awo (Nz s)
attribute [go_sem ↓ 2000] awy
theorem awz[bq D hj][aT x1 s]  :bT ν aB D 127 [x1] K tg=K (l8 s):=awp (NA s)
attribute [go_sem ↓ 2000] awz
theorem awA[bq D hj][aT x1 t]  :bT ν aB D 57 [x1] K tg=K (enc (ct 4 t true)):=awq (aub t)
attribute [go_sem ↓ 2000] awA
theorem awB[bq D hj][aT x1 t]  :bT ν aB D 29 [x1] K tg=K (enc (ct 4 t false)):=awr (auc t)
attribute [go_sem ↓ 2000] awB
theorem awC[bq D hj][aT x1 t][aT x2 u]  :bT ν aB D 80 [x1,x2] K tg=K (enc (cf t u)):=aws (NG t u)
attribute [go_sem ↓ 2000] awC
variable {H:List ax}
theorem pV[aT x1 t][aT x2 u]  {K:AV->List ax->Prop}{tg:aM K}(hk:K (enc (cf t u)) H):ma ν aB 80 [x1,x2] H K tg:=By (w9 as4).1 (show aF ν aB 80 [enc t,enc u] (enc (cf t u)) from NG t u) hk
theorem awD[bq D hj]{t:aj}[aT x1 s][aT x2 t]  :bT ν aB D 113 [x1,x2] K tg=K (enc (dk s t)):=awt (aaV s t)
attribute [go_sem ↓ 2000] awD
theorem awE[bq D hj][aT x1 t][aT x2 u]  :bT ν aB D 34 [x1,x2] K tg=K (enc (hi t u)):=awu (NH t u)
attribute [go_sem ↓ 2000] awE
theorem awF(l m:List I):aF ν aB 10 [enc l,enc m] (enc (fS l m)):=by have:=auq l m;rw[abe,abe]at this;exact this
theorem awG[bq D hj]{t:List I}{u:List I}[aT x1 t][aT x2 u]  :bT ν aB D 10 [x1,x2] K tg=K (enc (fS t u)):=awv (awF t u)
attribute [go_sem ↓ 2000] awG
theorem awH[bq D hj][aT x1 t]  :bT ν aB D 83 [x1] K tg=K (enc (t)):=aww (aa0 t)
attribute [go_sem ↓ 2000] awH
theorem aJW[bq D hj][aT x1 t][aT x2 u]  :bT ν aB D 33 [x1,x2] K tg=K (enc (cf t u)):=aJV (arY t u)
attribute [go_sem ↓ 2000] aJW
open Enc (enc)
noncomputable def abK:List AV->Option AV
 |[_,y]=>fO (fun t:I=>enc (dG t)) [y]|_=>none
noncomputable def NZ:List kX:=[(32,fO fun(t:I)=>enc (c0 t)),
 (141,jo fun(l:List aj)(s:aj)=>enc (vK s l)),
 (119,jo fun(l:List aj)(s:aj)=>enc (l.contains s)),
 (86,fO fun(l:List I)=>enc (nD l)),
 (118,abK)]
noncomputable def gD:bc:=jV hj (fT NZ)
instance aHc{D:bc}[h:bq D gD]:bq D hj:=h.nA
theorem abL:gC gD ([32,141,119,86,118]++[58,98,127,97,57,29,80,111,113,34,10,83,33,103,104]):=gC.or abH (nB NZ)
theorem Ec(h:∀xs,fT NZ f xs=F xs)(hk:([58,98,127,97,57,29,80,111,113,34,10,83,33,103,104]:List Nat).contains f=false:=by rfl):∀xs,gD f xs=F xs:=fun xs=>by rw[<-h];exact mS abH hk
theorem abM[bq D gD][aT x1 t](h:aF ν aB 32 [enc t] (enc (c0 t))):bT ν aB D 32 [x1] K tg=K (enc (c0 t)):=gN (D':=gD) (F:=fun(t:I)=>enc (c0 t)) (Ec fun _=>rfl) h
variable {l:List aj}
theorem awP[bq D gD][aT x1 l][aT x2 s](h:aF ν aB 141 [enc l,enc s] (enc (vK s l))):bT ν aB D 141 [x1,x2] K tg=K (enc (vK s l)):=lI (D':=gD) (F:=fun(l:List aj)(s:aj)=>enc (vK s l)) (Ec fun _=>rfl) h
theorem awQ[bq D gD][aT x1 l][aT x2 s](h:aF ν aB 119 [enc l,enc s] (enc (l.contains s))):bT ν aB D 119 [x1,x2] K tg=K (enc (l.contains s)):=lI (D':=gD) (F:=fun(l:List aj)(s:aj)=>enc (l.contains s)) (Ec fun _=>rfl) h
variable {l:List I}
theorem awR[bq D gD][aT x1 l](h:aF ν aB 86 [enc l] (enc (nD l))):bT ν aB D 86 [x1] K tg=K (enc (nD l)):=gN (D':=gD) (F:=fun(l:List I)=>enc (nD l)) (Ec fun _=>rfl) h
theorem awS:∀(t:I),c0 t<=1000000->aF ν aB 32 [enc t] (enc (c0 t)):=I.ind fun t ih hd=>by
 refine aF.l9 fun ae=>?_;obtain⟨_,ae,_⟩:=(I.o4 t).1 ae;have d:M=1099511627776:=rfl;have b:=vI t;refine aF.intro (D:=gD) asy fp fg ?_;unfold Wz;simp(disch:=first|exact a6|fail) only[go_sem,bC];refine b9 (fun(i:Nat)=>⟨N [(3,.v (enc (iX (t.args.take i)))),(7,.v (enc t.args)),(8,.v (enc t.args.length)),(9,.v (enc i))],[]⟩) (fun(i:Nat)=>i<=t.args.length) (fun(i:Nat)=>t.args.length-i) 0 (by first|omega|(refine⟨by omega,?_⟩;first|rfl|simp)|(constructor<;>first|omega|rfl|simp)|simp) (by(try simp(disch:=first|exact a6|fail) only[go_sem])<;>(first|rfl|(simp(disch:=first|exact a6|fail) only[cj,aKm,aKn,Env.ins,aKq,go_sem,iX];try rfl))) ?_;intro i ak;have c:=fun{K:AV->Prop}{tg:aM K}(a:i<t.args.length)=>abM (D:=gD) (K:=K) (tg:=tg) (x1:=t.args[i]!.enc) (ih t.args[i]! (ft a) (by have:=Bz (ft a);omega));have e:=abI t.args i
 (repeat' first|simp(disch:=first|exact a6|fail) only[go_sem,bC,bz,c]|(apply av<;>intro))
 ·exact⟨i+1,by omega,by omega,by(first|rfl|(simp(disch:=first|exact a6|fail) only[cj,aKm,aKn,Env.ins,aKo,aKp,bZ,cS,go_sem,NX];try rfl))⟩
 ·rw[aKs (by omega),b];rfl
theorem awT[bq D gD][aT x1 t](h:c0 t<=1000000) :bT ν aB D 32 [x1] K tg=K (enc (c0 t)):=abM (awS t h)
attribute [go_sem ↓ 2000] awT
theorem awU(l:List aj)(s:aj):aF ν aB 141 [enc l,enc s] (enc (vK s l)):=by
 refine aF.l9 fun ae=>?_;obtain⟨ae,_⟩:=ae;have a:M=1099511627776:=rfl;refine aF.intro (D:=gD) aJv fp fg ?_;unfold aqX;simp(disch:=first|exact a6|fail) only[go_sem];refine b9 (fun(i:Nat)=>⟨N [(0,.v (enc l)),(1,.v (enc s)),(7,.v (enc l.length)),(8,.v (enc i))],[]⟩) (fun(i:Nat)=>i<=l.length/\vK s l=vJ s (l.drop i) i) (fun(i:Nat)=>l.length-i) 0 (by first|omega|(refine⟨by omega,?_⟩;first|rfl|simp)|(constructor<;>first|omega|rfl|simp)|simp) (by(try simp(disch:=first|exact a6|fail) only[go_sem])<;>(first|rfl|(simp(disch:=first|exact a6|fail) only[cj,aKm,aKn,Env.ins,go_sem];try rfl))) ?_;rintro i ⟨ak,ao⟩
 (repeat' first|simp(disch:=first|exact a6|fail) only[go_sem,bC,ao]|(apply av<;>intro))
 ·rename_i h;have:=eq_of_beq h
  rw[fY (by omega),<-this];simp[vJ]
 ·rename_i h;exact⟨i+1,⟨by omega,by rw[fY (by omega)];simp only[vJ];rw[if_neg (fun e=>by rw[e]at h;simp at h)]⟩,by omega,by(exact bG)⟩
 ·rw[List.drop_eq_nil_of_le (by omega)];simp only[vJ]
theorem awV[bq D gD]{l:List aj}[aT x1 l][aT x2 s]  :bT ν aB D 141 [x1,x2] K tg=K (enc (vK s l)):=awP (awU l s)
attribute [go_sem ↓ 2000] awV
theorem awW(l:List aj)(s:aj):aF ν aB 119 [enc l,enc s] (enc (l.contains s)):=by
 refine aF.intro (D:=gD) atB fp fg ?_;unfold ZC;simp(disch:=first|exact a6|fail) only[go_sem];have h:=abJ s l 0
 (repeat' first|simp(disch:=first|exact a6|fail) only[go_sem,bC,bz]|(apply av<;>intro))
 simp only[vK,ge_iff_le,decide_eq_decide.2 h,Bool.decide_eq_true]
theorem awX[bq D gD]{l:List aj}[aT x1 l][aT x2 s]  :bT ν aB D 119 [x1,x2] K tg=K (enc (l.contains s)):=awQ (awW l s)
attribute [go_sem ↓ 2000] awX
def tP(l:List I)(i j:Nat):List aj:=qJ (cw (l.take i)++(dG l[i]!).take j)
theorem awY(l:List I)(i:Nat):tP l i 0=qJ (cw (l.take i)):=by simp[tP]
variable {i j:Nat}
theorem awZ(l:List I)(h:j<(dG l[i]!).length):tP l i (j+1)=mb (tP l i j) (dG l[i]!)[j]!:=by
 rw[tP,bZ h,<-aKv,awK];rfl
theorem aw0(l:List I)(ak:i<l.length)(h:(dG l[i]!).length<=j):tP l i j=qJ (cw (l.take (i+1))):=by
 rw[tP,aKs h,bZ ak,HZ]
theorem aw1(l:List I)(ak:i<l.length):(tP l i j).length<=(cw l).length:=by
 have a:=awL (cw (l.take i)++(dG l[i]!).take j);have U:=NY ak;simp only[aKw,List.length_take]at a;unfold tP;omega
def abN(x:AV)(ys:List aj):Prop:=(x=.aV 1/\ys=[])\/x=.list (some 9) 1 (ys.map .str)
theorem aw2:∀(t:I)(x:AV)(ys:List aj)(H:List ax),t.eM->abN x ys->ys.length+(dG t).length<=1000000 ->
  bn ν aB 118 [x,t.enc] H fun r H'=>r=.list (some 9) 1 ((ys++dG t).map .str)/\H'=H:=I.ind fun t ih x ys H o k hd=>by
 obtain⟨_,ae,c⟩:=(I.o4 t).1 o;have q:M=1099511627776:=rfl;have a:=qI t;refine bn.intro (D:=gD) atA ?_;unfold ZA;by_cases d:t.args.length=0
 ·rw[if_pos d]at a;rcases k with⟨rfl,rfl⟩|rfl
  ·(repeat' first|simp(disch:=first|exact a6|fail) only[go_sem,bC]|(apply av<;>intro))
   exact⟨_,rfl,by rw[a];simp only[aKj,aKg]⟩
  ·rw[a]at hd;simp only[List.length_cons,aKu]at hd
   (repeat' first|simp(disch:=first|exact a6|fail) only[go_sem,bC]|(apply av<;>intro))
   exact⟨_,rfl,by rw[a];simp only[aKk,aKj,aKg]⟩
 ·rw[if_neg d]at a;rw[a]at hd ⊢
  (repeat' first|simp(disch:=first|exact a6|fail) only[go_sem,bC]|(apply av<;>intro))
  refine b9 (fun p:Nat×AV=>⟨N [(0,.v p.2),(17,.v (enc t.args)),(18,.v (enc t.args.length)),(19,.v (enc p.1))],H⟩)
   (fun p=>p.1<=t.args.length/\abN p.2 (ys++cw (t.args.take p.1))/\(p.1=t.args.length->∃e,p.2=.list (some 9) 1 e)) (fun p=>t.args.length-p.1) (0,x)
   ⟨by simp,by simpa[cw]using k,fun h=>absurd h.symm d⟩ (by(try simp(disch:=first|exact a6|fail) only[go_sem])<;>(exact bG)) ?_
  rintro⟨i,y⟩ ⟨ak,b,m⟩;simp only at ak b m;by_cases h:i<t.args.length
  ·have v:=NY h;have n:=fun H=>ih t.args[i]! (ft h) y (ys++cw (t.args.take i)) H (c _ (ft h)) b (by simp only[aKw];omega);rcases b with⟨rfl,w⟩|rfl
   ·(repeat' first|simp(disch:=first|exact a6|fail) only[go_sem,bC,bz]|(apply av<;>intro)|refine b6 (n _) ?_)
    exact⟨(i+1,_),⟨by simp only;omega,.inr (by rw[bZ h,HZ,<-aKv]),fun _=>⟨_,rfl⟩⟩,by simp only;omega,by(exact bG)⟩
   ·(repeat' first|simp(disch:=first|exact a6|fail) only[go_sem,bC,bz]|(apply av<;>intro)|refine b6 (n _) ?_)
    exact⟨(i+1,_),⟨by simp only;omega,.inr (by rw[bZ h,HZ,<-aKv]),fun _=>⟨_,rfl⟩⟩,by simp only;omega,by(exact bG)⟩
  ·obtain⟨e,rfl⟩:=m (by omega);rw[aKs (by omega)]at b;obtain rfl:e=(ys++cw t.args).map .str:=by
    rcases b with⟨g,_⟩|g
    ·cases g
    ·simpa using g
   (repeat' first|simp(disch:=first|exact a6|fail) only[go_sem]|(apply av<;>intro))
   exact⟨_,rfl,by first|exact⟨rfl,rfl⟩|rfl|simp⟩
theorem aw3(t:I)(hd:(dG t).length<=1000000):aF ν aB 118 [.aV 1,enc t] (enc (dG t)):=by
 refine aF.assume (B:=t.eM) (fun γ vs h=>by cases h with|cons _ _ _ _ _ h=>cases h with|cons _ _ _ _ h _=>exact I.kx h) fun ae=>?_;refine aF.awm ((aw2 t (.aV 1) [] [] ae (.inl ⟨rfl,rfl⟩) (by simpa using hd)).mono fun r a h=>?_) (by simp only[List.all_cons,List.all_nil,Enc.arg];rfl) rfl (Enc.jP _);rw[h.1,aKt];exact bQ.disown _ _ _
theorem aw4[bq D gD]{y:AV}[a:aT y t](h:(dG t).length<=1000000) :bT ν aB D 118 [.aV 1,y] K tg=K (enc (dG t)) :=
 tM (by simp only[List.all_cons,a.arg,List.all_nil,Bool.and_self];rfl) (bq.h (D':=gD) _ _ _ (by rw[Ec (F:=abK) (fun _=>rfl)];exact NR (F:=fun t:I=>enc (dG t)) a)) ((aw3 t h).args (.cons (bQ.refl _) (.cons a.kB .nil)))
attribute [go_sem ↓ 2000] aw4
theorem aw5(l:List I)(hd:(cw l).length<=1000000):aF ν aB 86 [enc l] (enc (nD l)):=by
 refine aF.l9 fun ae=>?_;obtain⟨ae,b⟩:=ae;have c:M=1099511627776:=rfl;refine aF.jl (D:=gD) ata fp fg (by exact Enc.jP _) ?_;unfold YB;simp(disch:=first|exact a6|fail) only[go_sem];refine b9 (fun(i:Nat)=>⟨N [(3,.v (.list (some 9) 1 ((qJ (cw (l.take i))).map .str))),(8,.v (enc l)),(9,.v (enc l.length)),(10,.v (enc i))],[]⟩) (fun(i:Nat)=>i<=l.length) (fun(i:Nat)=>l.length-i) 0 (by first|omega|(refine⟨by omega,?_⟩;first|rfl|simp)|(constructor<;>first|omega|rfl|simp)|simp) (by(try simp(disch:=first|exact a6|fail) only[go_sem])<;>(first|rfl|(simp(disch:=first|exact a6|fail) only[cj,aKm,aKn,Env.ins,aKg,go_sem,cw,aKg,qJ,List.foldl_nil];try rfl))) ?_;intro i ak;by_cases h:i<l.length
 ·have d:=NY h
  (repeat' first|simp(disch:=first|exact a6|fail) only[go_sem,bC,bz]|(apply av<;>intro))
  refine b9 (fun(j:Nat)=>⟨N [(3,.v (.list (some 9) 1 ((tP l i j).map .str))),(8,.v (enc l)),(9,.v (enc l.length)),(10,.v (enc i)),(15,.v (enc (dG l[i]!))),(16,.v (enc (dG l[i]!).length)),(17,.v (enc j))],[]⟩) (fun(j:Nat)=>j<=(dG l[i]!).length) (fun(j:Nat)=>(dG l[i]!).length-j) 0 (by first|omega|(refine⟨by omega,?_⟩;first|rfl|simp)|(constructor<;>first|omega|rfl|simp)|simp) (by(try simp(disch:=first|exact a6|fail) only[go_sem])<;>(first|rfl|(simp(disch:=first|exact a6|fail) only[cj,aKm,aKn,Env.ins,go_sem,awY];try rfl))) ?_;intro j e;by_cases U:j<(dG l[i]!).length
  ·have a:=awZ l U;have g:=aw1 l (j:=j) h
   (repeat' first|simp(disch:=first|exact a6|fail) only[go_sem,bC]|(apply av<;>intro))
   all_goals exact⟨j+1,by omega,by omega,by(first|rfl|(simp(disch:=first|exact a6|fail) only[cj,aKm,aKn,Env.ins,aKo,aKp,aKk,aKj,aKg,go_sem,a,awM,awN,awO];try rfl))⟩
  ·have a:=aw0 l h (j:=j) (by omega)
   (repeat' first|simp(disch:=first|exact a6|fail) only[go_sem]|(apply av<;>intro))
   exact⟨i+1,by omega,by omega,by(first|rfl|(simp(disch:=first|exact a6|fail) only[cj,aKm,aKn,Env.ins,aKo,aKp,bZ,go_sem,a];try rfl))⟩
 ·(repeat' first|simp(disch:=first|exact a6|fail) only[go_sem]|(apply av<;>intro))
  rw[aKs (by omega)];exact⟨_,rfl,bQ.disown _ _ _⟩
theorem aw6[bq D gD][aT x1 l](h:(cw l).length<=1000000) :bT ν aB D 86 [x1] K tg=K (enc (nD l)):=awR (aw5 l h)
attribute [go_sem ↓ 2000] aw6
open Enc (enc)
variable {id L:Nat}
theorem N6(c:id<H.length)(cg:l.length=L)(a b n:Nat)(d:a+n<=b)(U:b+n<=L)(e:L<=M) :
  bn ν aB 163 [.bs id 0 L 2,.int .i64 a,.int .i64 b,.int .i64 n,.fn 80 []] (fF 32 H id l)
   fun r H'=>r=.a8 []/\H'=fF 32 H id (rL l a b n):=by
 have g:M=1099511627776:=rfl;refine bn.intro (D:=gD) aJC ?_;unfold arj;simp(disch:=first|exact a6|fail) only[go_sem];refine b9 (fun i:Nat=>⟨N [(0,.v (.bs id 0 L 2)),(1,.v (enc a)),(2,.v (enc b)),(3,.v (enc n)),(10,.v (enc i))],fF 32 H id (rL l a b i)⟩) (fun i=>i<=n) (fun i=>n-i) 0 (aKr _) (by(try simp(disch:=first|exact a6|fail) only[go_sem])<;>(exact bG)) ?_;intro i ak;have h:=zj l a b i
 (repeat' first|simp(disch:=first|exact a6|fail) only[go_sem]|(apply av<;>intro))
 ·exact⟨i+1,by omega,by omega,by(first|rfl|(simp(disch:=first|exact a6|fail) only[cj,aKm,aKn,Env.ins,aKo,aKp,go_sem,rL,lJ];try rfl))⟩
 ·exact⟨_,rfl,rfl,by rw[show i=n by omega]⟩
theorem ab8(e:id<H.length)(cg:l.length=L)(a m b:Nat)(z:a<m)(U:m<b)(A:b<=L)(g:L<=M) :
  bn ν aB 153 [.bs id 0 L 2,.int .i64 a,.int .i64 m,.int .i64 b,.fn 80 []] (fF 32 H id l)
   fun r H'=>r=.a8 []/\H'=fF 32 H id (tS l a m b):=by
 have B:M=1099511627776:=rfl;refine bn.intro (D:=gD) aJA ?_;unfold are;simp(disch:=first|exact a6|fail) only[go_sem];have v:(m:Int)-(a:Int)=((m-a:Nat):Int):=by omega
 have w:(b:Int)-(m:Int)=((b-m:Nat):Int):=by omega
 refine b9 (fun p:Nat×Nat×List I=>⟨N [(0,.v (.bs id 0 L 2)),(2,.v (enc m)),(4,.v (.fn 80 [])),(10,.v (enc p.1)),(11,.v (enc p.2.1))],fF 32 H id p.2.2⟩)
  (fun p=>1<=p.1/\1<=p.2.1/\p.1<=m-a/\m+p.2.1<=b/\p.2.2.length=L/\qK l p.2.2 a m b p.1 p.2.1) (fun p=>p.1+p.2.1) (m-a,b-m,l)
  ⟨by simp only;omega,by simp only;omega,by simp only;omega,by simp only;omega,cg,qK.start (by omega) (by omega)⟩ (by(try simp(disch:=first|exact a6|fail) only[go_sem,v,w])<;>(exact bG)) ?_
 rintro⟨i,j,C⟩ ⟨k,n,o,q,c,d⟩;simp only at k n o q c d;have x:(m:Int)-(i:Int)=((m-i:Nat):Int):=by omega
 have y:(m:Int)+(j:Int)-(i:Int)=((m+j-i:Nat):Int):=by omega
 (repeat' first|simp(disch:=first|exact a6|fail) only[go_sem,x,y]|(apply av<;>intro)|refine b6 (N6 e c (m-i) m j (by omega) (by omega) g) ?_|refine b6 (N6 e c (m-i) (m+j-i) i (by omega) (by omega) g) ?_|refine b6 (N6 e c (m-i) m i (by omega) (by omega) g) ?_)
 ·have h:(i:Int)-(j:Int)=((i-j:Nat):Int):=by omega
  exact⟨(i-j,j,_),⟨by simp only;omega,n,by simp only;omega,q,by simp only[zj];exact c,d.left (by omega) (by omega) (by omega)⟩,by simp only;omega,by(first|rfl|(simp(disch:=first|exact a6|fail) only[cj,aKm,aKn,Env.ins,go_sem,h];try rfl))⟩
 ·have h:(j:Int)-(i:Int)=((j-i:Nat):Int):=by omega
  exact⟨(i,j-i,_),⟨k,by simp only;omega,o,by simp only;omega,by simp only[zj];exact c,d.right (by omega) (by omega) (by omega)⟩,by simp only;omega,by(first|rfl|(simp(disch:=first|exact a6|fail) only[cj,aKm,aKn,Env.ins,go_sem,h];try rfl))⟩
 ·obtain rfl:i=j:=by omega
  exact⟨_,rfl,rfl,by rw[axo d (by omega) (by omega) (by omega) (by omega) (by omega) (by omega)]⟩
theorem ab9(z:id<H.length)(cg:l.length=L)(a b:Nat)(A:a<=b)(U:b<=L)(B:L<=M) :
  bn ν aB 137 [.bs id 0 L 2,.int .i64 a,.int .i64 b,.fn 80 []] (fF 32 H id l)
   fun r H'=>r=.a8 []/\∃h,H'=fF 32 H id h/\dW l h a b/\eC cf h a b:=by
 have C:M=1099511627776:=rfl;refine bn.intro (D:=gD) arI ?_;unfold VB;simp(disch:=first|exact a6|fail) only[go_sem];refine b9 (fun p:Nat×List I=>⟨N [(0,.v (.bs id 0 L 2)),(1,.v (enc a)),(2,.v (enc b)),(3,.v (.fn 80 [])),(8,.v (enc p.1))],fF 32 H id p.2⟩)
  (fun p=>a+1<=p.1/\(p.1<=b\/p.1=a+1)/\dW l p.2 a b/\eC cf p.2 a p.1) (fun p=>b-p.1) (a+1,l) ⟨aKl _,.inr rfl,dW.refl _ _ _,fun p q _ _ _=>by simp only at *;omega⟩ (by(try simp(disch:=first|exact a6|fail) only[go_sem])<;>(exact bG)) ?_
 rintro⟨i,k⟩ ⟨o,v,e,m⟩;simp only at o v e m;have E:k.length=L:=e.len.trans cg;by_cases ae:i<b
 ·(repeat' first|simp(disch:=first|exact a6|fail) only[go_sem]|(apply av<;>intro))
  refine b9 (fun p:Nat×List I=>⟨N [(0,.v (.bs id 0 L 2)),(1,.v (enc a)),(2,.v (enc b)),(3,.v (.fn 80 [])),(8,.v (enc i)),(9,.v (enc p.1))],fF 32 H id p.2⟩)
   (fun p=>a<=p.1/\p.1<=i/\dW l p.2 a b/\Ins cf p.2 a i p.1) (fun p=>p.1) (i,k) ⟨by simp only;omega,aKl _,e,Ins.start m⟩ (by(try simp(disch:=first|exact a6|fail) only[go_sem])<;>(exact bG)) ?_
  rintro⟨j,c⟩ ⟨w,n,d,g⟩;simp only at w n d g;have G:c.length=L:=d.len.trans cg;by_cases aE:a<j
  ·by_cases x:cf c[j]! c[j-1]! < 0
   ·(repeat' first|simp(disch:=first|exact a6|fail) only[go_sem]|(apply av<;>intro)|refine pV ?_)
    have y:(j:Int)-1=((j-1:Nat):Int):=by omega
    exact⟨(j-1,lJ c j (j-1)),⟨by simp only;omega,by simp only;omega,d.trans (dW.lJ (by omega) (by omega) (by omega) (by omega) (by omega)),g.step aE n (by omega) (by omega)⟩,by simp only;omega,by(first|rfl|(simp(disch:=first|exact a6|fail) only[cj,aKm,aKn,Env.ins,go_sem,y,lJ];try rfl))⟩
   ·(repeat' first|simp(disch:=first|exact a6|fail) only[go_sem]|(apply av<;>intro)|refine pV ?_)
    exact⟨(i+1,c),⟨by simp only;omega,.inl (by simp only;omega),d,g.abV o6 aE x⟩,by simp only;omega,by(exact bG)⟩
  ·(repeat' first|simp(disch:=first|exact a6|fail) only[go_sem]|(apply av<;>intro))
   obtain rfl:j=a:=by omega
   exact⟨(i+1,c),⟨by simp only;omega,.inl (by simp only;omega),d,g.abU⟩,by simp only;omega,by(exact bG)⟩
 ·(repeat' first|simp(disch:=first|exact a6|fail) only[go_sem]|(apply av<;>intro))
  exact⟨_,rfl,rfl,k,rfl,e,m.sub (aKl _) (by omega)⟩
set_option maxHeartbeats 4000000
open Enc (enc)
def aca(H:List ax)(id L n:Nat):Prop:=∀(l:List I)(a m b:Nat),b-a<=n->a<m->m<b->b<=L->l.length=L->eC cf l a m->eC cf l m b ->
  bn ν aB 138 [.bs id 0 L 2,.int .i64 a,.int .i64 m,.int .i64 b,.fn 80 []] (fF 32 H id l)
   fun r H'=>r=.a8 []/\∃cd,H'=fF 32 H id cd/\dW l cd a b/\eC cf cd a b
theorem acb(V:id<H.length)(W:L<=M){n:Nat}(ih:aca H id L n){a m b s mid:Nat}(aP:b-a<=n+1)(h1:a<m)(U:m<b)(ai:b<=L)(cg:l.length=L)
  (az:eC cf l a m)(X:eC cf l m b)(Em:mid=(a+b) / 2)(dM:a<=s)(di:s<=m)(dx:s<=mid)(aL:mid+m<=s+b)(hm:a<mid)(qp:mid<b)
  (cq:s=a\/mid+m=s+b\/¬cf l[mid+m-1-(s-1)]! l[s-1]! < 0)(fl:s=m\/s=mid\/cf l[mid+m-1-s]! l[s]! < 0)(x:AV)(y:Nat) :
  jx ν aB gD iS ⟨N [(151,.v x),(0,.v (.bs id 0 L 2)),(1,.v (.int .i64 a)),(2,.v (.int .i64 m)),(3,.v (.int .i64 b)),(4,.v (.fn 80 [])),(18,.v (.int .i64 mid)),(19,.v (.int .i64 ((mid:Int)+m))),(20,.v (.int .i64 s)),(21,.v (.int .i64 y)),(22,.v (.int .i64 ((mid+m-1:Nat):Int)))],fF 32 H id l⟩ (yQ fun s=>∃r,some (AV.a8 [])=some r/\r=.a8 []/\∃O,s.heap=fF 32 H id O/\dW l O a b/\eC cf O a b) ⟨⟩:=by
 have dh:M=1099511627776:=rfl;have he:((mid:Int)+(m:Int))-(s:Int)=((mid+m-s:Nat):Int):=by omega
 obtain⟨g,Y,Z,A⟩:∃g,(∀k:Nat,g[k]! = mU l s m (mid+m-s) k)/\dW l g a b/\(if s<m/\m<mid+m-s then g=tS l s m (mid+m-s)else g=l):=by
  by_cases h:s<m/\m<mid+m-s
  ·exact⟨_,fun k=>N5 l (by omega) (by omega) (by omega) k,(axb (by omega) (by omega) (N4 _ _ _ _) fun k=>N5 l (by omega) (by omega) (by omega) k).mono (by omega) (by omega),by rw[if_pos h]⟩
  ·refine⟨l,fun k=>?_,dW.refl _ _ _,by rw[if_neg h]⟩;unfold mU;by_cases U:s<m
   ·rw[if_neg (by omega)];split
    ·congr 1;omega
    ·rfl
   ·rw[if_neg (c:=s+(mid+m-s-m)<=k/\k<mid+m-s) (by omega)];split
    ·congr 1;omega
    ·rfl
 have B:g.length=L:=Z.len.trans cg;obtain⟨E,P,G,C,t5⟩:=axc o6 h1 U Em az X dM di dx aL cq fl Y;have done:∀d o:List I,dW g d a mid->eC cf d a mid->dW d o mid b->eC cf o mid b->dW l o a b/\eC cf o a b:=fun d o e p v z =>
  ⟨Z.trans ((e.mono (aKl _) (by omega)).trans (v.mono (by omega) (aKl _))),axd e v p z t5⟩
 clear Y cq fl az X t5;rcases(show(s<m/\m<mid+m-s)\/s=m\/(s<m/\mid+m-s=m) by omega)with cv|cv|cv
 ·rw[if_pos cv]at A;subst A;obtain⟨cv,Q⟩:=cv;by_cases eR:a<s
  ·(repeat' first|simp(disch:=first|exact a6|fail) only[go_sem,iS,he]|(apply av<;>intro)|refine b6 (ab8 V cg s m (mid+m-s) (by omega) (by omega) (by omega) W) ?_|refine sP (ih _ a s mid (by omega) (by omega) (by omega) (by omega) B E P) (sO o6 _ (by omega)) ?_)
   rintro d ⟨e,p⟩;have J:d.length=L:=e.len.trans B;have w:=G.out e (.inr (aKl _));have q:=C.out e (.inr (by omega));by_cases gB:mid+m-s<b
   ·(repeat' first|simp(disch:=first|exact a6|fail) only[go_sem]|(apply av<;>intro)|refine sP (ih d mid (mid+m-s) b (by omega) (by omega) (by omega) (by omega) J w q) (sO o6 _ (by omega)) ?_)
    rintro o ⟨v,z⟩
    (repeat' first|simp(disch:=first|exact a6|fail) only[go_sem,Z2,iT,iU,iS,ik,iD]|(apply av<;>intro))
    exact⟨_,rfl,rfl,o,rfl,done d o e p v z⟩
   ·(repeat' first|simp(disch:=first|exact a6|fail) only[go_sem]|(apply av<;>intro))
    exact⟨_,rfl,rfl,d,rfl,done d d e p (dW.refl _ _ _) ((show mid+m-s=b by omega)▸w)⟩
  ·obtain⟨d,R⟩:∃d,d=tS l s m (mid+m-s):=⟨_,rfl⟩;have e:dW (tS l s m (mid+m-s)) d a mid:=by rw[R];exact dW.refl _ _ _
   have p:eC cf d a mid:=by rw[R];exact(show s=a by omega)▸P
   have S:=ab8 V cg s m (mid+m-s) cv Q (by omega) W;rw[<-R]at S;have J:d.length=L:=e.len.trans B;have w:=G.out e (.inr (aKl _));have q:=C.out e (.inr (by omega));by_cases gB:mid+m-s<b
   ·(repeat' first|simp(disch:=first|exact a6|fail) only[go_sem,iS,he]|(apply av<;>intro)|refine b6 S ?_|refine sP (ih d mid (mid+m-s) b (by omega) (by omega) (by omega) (by omega) J w q) (sO o6 _ (by omega)) ?_)
    rintro o ⟨v,z⟩
    (repeat' first|simp(disch:=first|exact a6|fail) only[go_sem,Z2,iT,iU,iS,ik,iD]|(apply av<;>intro))
    exact⟨_,rfl,rfl,o,rfl,done d o e p v z⟩
   ·(repeat' first|simp(disch:=first|exact a6|fail) only[go_sem,iS,he]|(apply av<;>intro)|refine b6 S ?_)
    exact⟨_,rfl,rfl,d,rfl,done d d e p (dW.refl _ _ _) ((show mid+m-s=b by omega)▸w)⟩
 ·rw[if_neg (by omega)]at A;subst A;by_cases eR:s<mid
  ·(repeat' first|simp(disch:=first|exact a6|fail) only[go_sem,iS,he]|(apply av<;>intro)|refine sP (ih _ a s mid (by omega) (by omega) (by omega) (by omega) B E P) (sO o6 _ (by omega)) ?_)
   rintro d ⟨e,p⟩;have J:d.length=L:=e.len.trans B;have w:=G.out e (.inr (aKl _));have q:=C.out e (.inr (by omega))
   (repeat' first|simp(disch:=first|exact a6|fail) only[go_sem,Z2,iT,iU,iS,ik,iD,he]|(apply av<;>intro))
   exact⟨_,rfl,rfl,d,rfl,done d d e p (dW.refl _ _ _) ((show mid+m-s=mid by omega)▸q)⟩
  ·have e:dW g g a mid:=dW.refl _ _ _;have p:eC cf g a mid:=(show s=mid by omega)▸E;have q:=C.out e (.inr (by omega))
   (repeat' first|simp(disch:=first|exact a6|fail) only[go_sem,iS,he]|(apply av<;>intro))
   exact⟨_,rfl,rfl,g,rfl,done g g e p (dW.refl _ _ _) ((show mid+m-s=mid by omega)▸q)⟩
 ·rw[if_neg (by omega)]at A;subst A;have e:dW g g a mid:=dW.refl _ _ _;have p:eC cf g a mid:=(show s=mid by omega)▸E;have T:g.length=L:=e.len.trans B;have w:=G.out e (.inr (aKl _));have q:=C.out e (.inr (by omega))
  (repeat' first|simp(disch:=first|exact a6|fail) only[go_sem,iS,he]|(apply av<;>intro)|refine sP (ih g mid (mid+m-s) b (by omega) (by omega) (by omega) (by omega) T w q) (sO o6 _ (by omega)) ?_)
  rintro o ⟨v,z⟩
  (repeat' first|simp(disch:=first|exact a6|fail) only[go_sem,Z2,iT,iU,iS,ik,iD]|(apply av<;>intro))
  exact⟨_,rfl,rfl,o,rfl,done g o e p v z⟩
open Enc (enc)
theorem acd(C:id<H.length)(E:L<=M):∀n,aca H id L n:=by
 intro n;induction n with
 |zero=>intro l a m b h;omega|succ n ih =>
 intro l a m b G J U O cg az x;have Y:M=1099511627776:=rfl;refine bn.intro (D:=gD) atM ?_;unfold Z1;by_cases P:m=a+1
 ·have y:(m:Int)-(a:Int)=1:=by omega
  (repeat' first|simp(disch:=first|exact a6|fail) only[go_sem,Z2,iT,iU,iS,ik,iD,y]|(apply av<;>intro))
  refine b9 (fun p:Nat×Nat=>⟨N [(0,.v (.bs id 0 L 2)),(1,.v (enc a)),(4,.v (.fn 80 [])),(10,.v (enc p.1)),(11,.v (enc p.2))],fF 32 H id l⟩)
   (fun p=>m<=p.1/\p.1<=p.2/\p.2<=b/\(p.1=m\/cf l[p.1-1]! l[a]! < 0)/\(p.2=b\/¬cf l[p.2]! l[a]! < 0)) (fun p=>p.2-p.1) (m,b)
   ⟨aKl _,by simp only;omega,aKl _,.inl rfl,.inl rfl⟩ (by(try simp(disch:=first|exact a6|fail) only[go_sem])<;>(exact bG)) ?_
  rintro⟨i,j⟩ ⟨o,v,g,d,e⟩;simp only at o v g d e;by_cases T:i<j
  ·by_cases q:cf l[(i+j) / 2]! l[a]! < 0
   ·(repeat' first|simp(disch:=first|exact a6|fail) only[go_sem]|(apply av<;>intro)|refine pV ?_)
    exact⟨((i+j) / 2+1,j),⟨by simp only;omega,by simp only;omega,g,.inr q,e⟩,by simp only;omega,by(exact bG)⟩
   ·(repeat' first|simp(disch:=first|exact a6|fail) only[go_sem]|(apply av<;>intro)|refine pV ?_)
    exact⟨(i,(i+j) / 2),⟨o,by simp only;omega,by simp only;omega,d,.inr q⟩,by simp only;omega,by(exact bG)⟩
  ·obtain rfl:i=j:=by omega
   (repeat' first|simp(disch:=first|exact a6|fail) only[go_sem]|(apply av<;>intro))
   refine b9 (fun k:Nat=>⟨N [(0,.v (.bs id 0 L 2)),(10,.v (enc i)),(13,.v (enc (a+k)))],fF 32 H id (tQ l a k)⟩)
    (fun k=>k<=i-1-a) (fun k=>i-1-a-k) 0 (aKr _) (by(try simp(disch:=first|exact a6|fail) only[go_sem])<;>(first|rfl|(simp(disch:=first|exact a6|fail) only[cj,aKm,aKn,Env.ins,go_sem,tQ];try rfl))) ?_
   intro k hk;have V:=Ek l a k;have z:(((a:Int)+(k:Int))+1).toNat=a+k+1:=by omega
   (repeat' first|simp(disch:=first|exact a6|fail) only[go_sem,z]|(apply av<;>intro))
   ·exact⟨k+1,by omega,by omega,by(first|rfl|(simp(disch:=first|exact a6|fail) only[cj,aKm,aKn,Env.ins,aKo,aKp,go_sem,tQ,lJ,<-Int.add_assoc];try rfl))⟩
   ·obtain rfl:k=i-1-a:=by omega
    exact⟨_,rfl,rfl,_,rfl,abY _ (by omega) (by omega),axf o6 (by omega) g (by omega) (P▸x) (by rw[<-P];exact d) e (by omega)⟩
 by_cases W:b=m+1
 ·have y:(m:Int)-(a:Int)≠1:=by omega
  have Q:(b:Int)-(m:Int)=1:=by omega
  (repeat' first|simp(disch:=first|exact a6|fail) only[go_sem,Z2,iT,iU,iS,ik,iD,Q]|(apply av<;>intro))
  refine b9 (fun p:Nat×Nat=>⟨N [(0,.v (.bs id 0 L 2)),(2,.v (enc m)),(4,.v (.fn 80 [])),(14,.v (enc p.1)),(15,.v (enc p.2))],fF 32 H id l⟩)
   (fun p=>a<=p.1/\p.1<=p.2/\p.2<=m/\(p.1=a\/¬cf l[m]! l[p.1-1]! < 0)/\(p.2=m\/cf l[m]! l[p.2]! < 0)) (fun p=>p.2-p.1) (a,m)
   ⟨aKl _,by simp only;omega,aKl _,.inl rfl,.inl rfl⟩ (by(try simp(disch:=first|exact a6|fail) only[go_sem])<;>(exact bG)) ?_
  rintro⟨i,j⟩ ⟨o,v,g,d,e⟩;simp only at o v g d e;by_cases T:i<j
  ·by_cases q:cf l[m]! l[(i+j) / 2]! < 0
   ·(repeat' first|simp(disch:=first|exact a6|fail) only[go_sem]|(apply av<;>intro)|refine pV ?_)
    exact⟨(i,(i+j) / 2),⟨o,by simp only;omega,by simp only;omega,d,.inr q⟩,by simp only;omega,by(exact bG)⟩
   ·(repeat' first|simp(disch:=first|exact a6|fail) only[go_sem]|(apply av<;>intro)|refine pV ?_)
    exact⟨((i+j) / 2+1,j),⟨by simp only;omega,by simp only;omega,g,.inr q,e⟩,by simp only;omega,by(exact bG)⟩
  ·obtain rfl:i=j:=by omega
   (repeat' first|simp(disch:=first|exact a6|fail) only[go_sem]|(apply av<;>intro))
   refine b9 (fun k:Nat=>⟨N [(0,.v (.bs id 0 L 2)),(14,.v (enc i)),(17,.v (enc (m-k)))],fF 32 H id (tR l m k)⟩)
    (fun k=>k<=m-i) (fun k=>m-i-k) 0 (aKr _) (by(try simp(disch:=first|exact a6|fail) only[go_sem])<;>(first|rfl|(simp(disch:=first|exact a6|fail) only[cj,aKm,aKn,Env.ins,go_sem,tR,Nat.sub_zero];try rfl))) ?_
   intro k hk;have V:=El l m k
   (repeat' first|simp(disch:=first|exact a6|fail) only[go_sem]|(apply av<;>intro))
   ·have z:((m-k:Nat):Int)-1=((m-(k+1):Nat):Int):=by omega
    exact⟨k+1,by omega,by omega,by(first|rfl|(simp(disch:=first|exact a6|fail) only[cj,aKm,aKn,Env.ins,go_sem,z,tR,lJ];try rfl))⟩
   ·obtain rfl:k=m-i:=by omega
    exact⟨_,rfl,rfl,_,rfl,ab0 _ (by omega) (by omega) (by omega),W▸axg o6 (by omega) g (by omega) az d e⟩
 have y:(m:Int)-(a:Int)≠1:=by omega
 have Q:(b:Int)-(m:Int)≠1:=by omega
 obtain⟨c,A⟩:∃c,c=(a+b) / 2:=⟨_,rfl⟩;have R:(((a+b) / 2:Nat):Int)=(c:Int):=by rw[A]
 have w:((c:Int)+(m:Int))-1=((c+m-1:Nat):Int):=by omega
 by_cases Z:c<m
 ·have S:((c:Int)+(m:Int))-(b:Int)=((c+m-b:Nat):Int):=by omega
  simp(disch:=first|exact a6|fail) only[go_sem,R,S,w,ik,iD];refine b9 (fun p:Nat×Nat=>⟨N [(0,.v (.bs id 0 L 2)),(1,.v (enc a)),(2,.v (enc m)),(3,.v (enc b)),(4,.v (.fn 80 [])),(18,.v (enc c)),(19,.v (.int .i64 ((c:Int)+m))),(20,.v (enc p.1)),(21,.v (enc p.2)),(22,.v (enc (c+m-1)))],fF 32 H id l⟩)
   (fun p=>(c+m-b)<=p.1/\p.1<=p.2/\p.2<=c/\(p.1=(c+m-b)\/¬cf l[c+m-1-(p.1-1)]! l[p.1-1]! < 0)/\(p.2=c\/cf l[c+m-1-p.2]! l[p.2]! < 0)) (fun p=>p.2-p.1) ((c+m-b),c)
   ⟨aKl _,by simp only;omega,aKl _,.inl rfl,.inl rfl⟩ (by(try simp(disch:=first|exact a6|fail) only[go_sem])<;>(first|rfl|(simp(disch:=first|exact a6|fail) only[cj,aKm,aKn,Env.ins,go_sem];try rfl))) ?_
  rintro⟨s,r⟩ ⟨o,v,g,d,e⟩;simp only at o v g d e;have B:c+m<=s+b:=by omega
  by_cases X:s<r
  ·have ak:(((c+m-1:Nat):Int)-(((s+r) / 2:Nat):Int)).toNat=c+m-1-(s+r) / 2:=by omega
   by_cases q:cf l[c+m-1-(s+r) / 2]! l[(s+r) / 2]! < 0
   ·(repeat' first|simp(disch:=first|exact a6|fail) only[go_sem,Z2,iS,ak]|(apply av<;>intro)|refine pV ?_)
    exact⟨(s,(s+r) / 2),⟨o,by simp only;omega,by simp only;omega,d,.inr q⟩,by simp only;omega,by(exact bG)⟩
   ·(repeat' first|simp(disch:=first|exact a6|fail) only[go_sem,Z2,iS,ak]|(apply av<;>intro)|refine pV ?_)
    exact⟨((s+r) / 2+1,r),⟨by simp only;omega,by simp only;omega,g,.inr q,e⟩,by simp only;omega,by(exact bG)⟩
  ·simp(disch:=first|exact a6|fail) only[go_sem];exact acb C E ih G J U O cg az x A (by omega) (by omega) (by omega) B (by omega) (by omega) (by
    rcases d with h|h
    ·first|exact .inl (by omega)|exact .inr (.inl (by omega))
    ·exact .inr (.inr h)) (by
    obtain rfl:s=r:=by omega
    rcases e with h|h
    ·first|exact .inl (by omega)|exact .inr (.inl (by omega))
    ·exact .inr (.inr h)) _ _
 ·simp(disch:=first|exact a6|fail) only[go_sem,R,w,ik,iD];refine b9 (fun p:Nat×Nat=>⟨N [(0,.v (.bs id 0 L 2)),(1,.v (enc a)),(2,.v (enc m)),(3,.v (enc b)),(4,.v (.fn 80 [])),(18,.v (enc c)),(19,.v (.int .i64 ((c:Int)+m))),(20,.v (enc p.1)),(21,.v (enc p.2)),(22,.v (enc (c+m-1)))],fF 32 H id l⟩)
   (fun p=>a<=p.1/\p.1<=p.2/\p.2<=m/\(p.1=a\/¬cf l[c+m-1-(p.1-1)]! l[p.1-1]! < 0)/\(p.2=m\/cf l[c+m-1-p.2]! l[p.2]! < 0)) (fun p=>p.2-p.1) (a,m)
   ⟨aKl _,by simp only;omega,aKl _,.inl rfl,.inl rfl⟩ (by(try simp(disch:=first|exact a6|fail) only[go_sem])<;>(first|rfl|(simp(disch:=first|exact a6|fail) only[cj,aKm,aKn,Env.ins,go_sem];try rfl))) ?_
  rintro⟨s,r⟩ ⟨o,v,g,d,e⟩;simp only at o v g d e;have B:c+m<=s+b:=by omega
  by_cases X:s<r
  ·have ak:(((c+m-1:Nat):Int)-(((s+r) / 2:Nat):Int)).toNat=c+m-1-(s+r) / 2:=by omega
   by_cases q:cf l[c+m-1-(s+r) / 2]! l[(s+r) / 2]! < 0
   ·(repeat' first|simp(disch:=first|exact a6|fail) only[go_sem,Z2,iS,ak]|(apply av<;>intro)|refine pV ?_)
    exact⟨(s,(s+r) / 2),⟨o,by simp only;omega,by simp only;omega,d,.inr q⟩,by simp only;omega,by(exact bG)⟩
   ·(repeat' first|simp(disch:=first|exact a6|fail) only[go_sem,Z2,iS,ak]|(apply av<;>intro)|refine pV ?_)
    exact⟨((s+r) / 2+1,r),⟨by simp only;omega,by simp only;omega,g,.inr q,e⟩,by simp only;omega,by(exact bG)⟩
  ·simp(disch:=first|exact a6|fail) only[go_sem];exact acb C E ih G J U O cg az x A (by omega) (by omega) (by omega) B (by omega) (by omega) (by
    rcases d with h|h
    ·first|exact .inl (by omega)|exact .inr (.inl (by omega))
    ·exact .inr (.inr h)) (by
    obtain rfl:s=r:=by omega
    rcases e with h|h
    ·first|exact .inl (by omega)|exact .inr (.inl (by omega))
    ·exact .inr (.inr h)) _ _
open Enc (enc)
theorem axr(z:id<H.length)(A:L<=M)(cg:l.length=L) :
  bn ν aB 114 [.bs id 0 L 2,.int .i64 L,.fn 80 []] (fF 32 H id l)
   fun r H'=>r=.a8 []/\∃O,H'=fF 32 H id O/\dW l O 0 L/\eC cf O 0 L:=by
 have dh:M=1099511627776:=rfl;refine bn.intro (D:=gD) atx ?_;unfold Zr;simp(disch:=first|exact a6|fail) only[go_sem];refine b9 (fun p:Nat×Nat×Nat×List I=>⟨N [(0,.v (.bs id 0 L 2)),(1,.v (enc L)),(2,.v (.fn 80 [])),(6,.v (.int .i64 20)),(7,.v (enc p.2.1)),(8,.v (enc p.2.2.1))],fF 32 H id p.2.2.2⟩)
  (fun p=>p.2.1=20*p.1/\p.2.2.1=p.2.1+20/\p.2.1<=L/\dW l p.2.2.2 0 L/\zk cf p.2.2.2 20 p.1) (fun p=>L-p.2.1) (0,0,20,l)
  ⟨rfl,rfl,aKr _,dW.refl _ _ _,fun w p q h=>by simp only at h;omega⟩ (by(try simp(disch:=first|exact a6|fail) only[go_sem])<;>(exact bG)) ?_
 rintro⟨u,a,b,Z⟩ ⟨v,B,e,d,C⟩;simp only at v B e d C;have P:Z.length=L:=d.len.trans cg;by_cases ae:b<=L
 ·(repeat' first|simp(disch:=first|exact a6|fail) only[go_sem]|(apply av<;>intro)|refine sP (ab9 z P a b (by omega) ae A) (sO o6 _ (by omega)) ?_)
  rintro E ⟨c,g⟩
  (repeat' first|simp(disch:=first|exact a6|fail) only[go_sem]|(apply av<;>intro))
  exact⟨(u+1,b,b+20,E),⟨by simp only;omega,rfl,ae,d.trans (c.mono (by omega) (by omega)),C.step v (by omega) c g⟩,by simp only;omega,by(exact bG)⟩
 (repeat' first|simp(disch:=first|exact a6|fail) only[go_sem]|(apply av<;>intro)|refine sP (ab9 z P a L e (aKl _) A) (sO o6 _ (by omega)) ?_)
 rintro E ⟨c,g⟩;have W:=d.trans (c.mono (aKr _) (aKl _));have X:qL cf E L 20 0:=C.last v (by omega) c g;clear d C c g
 (repeat' first|simp(disch:=first|exact a6|fail) only[go_sem]|(apply av<;>intro))
 refine b9 (fun p:Nat×List I=>⟨N [(0,.v (.bs id 0 L 2)),(1,.v (enc L)),(2,.v (.fn 80 [])),(6,.v (enc p.1))],fF 32 H id p.2⟩)
  (fun p=>1<=p.1/\p.1<=2*L+40/\dW l p.2 0 L/\qL cf p.2 L p.1 0) (fun p=>L-p.1) (20,E)
  ⟨by simp only;omega,by simp only;omega,W,X⟩ (by(try simp(disch:=first|exact a6|fail) only[go_sem])<;>(exact bG)) ?_
 clear W X P v B e ae;rintro⟨s,Q⟩ ⟨v,B,e,d⟩;simp only at v B e d;have aHe:Q.length=L:=e.len.trans cg;by_cases az:s<L
 ·obtain⟨t,ay⟩:∃t,t=2*s:=⟨_,rfl⟩;have k:(2:Int)*(s:Int)=(t:Int):=by omega
  have R:(s:Int)*2=(t:Int):=by omega
  (repeat' first|simp(disch:=first|exact a6|fail) only[go_sem,k]|(apply av<;>intro))
  refine b9 (fun p:Nat×Nat×Nat×List I=>⟨N [(0,.v (.bs id 0 L 2)),(1,.v (enc L)),(2,.v (.fn 80 [])),(6,.v (enc s)),(7,.v (enc p.2.1)),(8,.v (enc p.2.2.1))],fF 32 H id p.2.2.2⟩)
   (fun p=>p.2.1=t*p.1/\p.2.2.1=p.2.1+t/\p.2.1<=L/\dW l p.2.2.2 0 L/\zk cf p.2.2.2 t p.1/\qL cf p.2.2.2 L s (2*p.1)) (fun p=>L-p.2.1) (0,0,t,Q)
   ⟨rfl,by simp only;omega,aKr _,e,(fun w p q h=>by simp only at h;omega),d⟩ (by(try simp(disch:=first|exact a6|fail) only[go_sem])<;>(first|rfl|(simp(disch:=first|exact a6|fail) only[cj,aKm,aKn,Env.ins,go_sem];try rfl))) ?_
  rintro⟨u,a,b,G⟩ ⟨n,S,dx,x,J,o⟩;simp only at n S dx x J o;have Y:G.length=L:=x.len.trans cg;obtain⟨m,hm⟩:∃m,m=a+s:=⟨_,rfl⟩;have T:(a:Int)+(s:Int)=(m:Int):=by omega
  have y:a=2*s*u:=by rw[n,ay]
  by_cases ae:b<=L
  ·(repeat' first|simp(disch:=first|exact a6|fail) only[go_sem,k,T]|(apply av<;>intro)|refine sP (acd z A (b-a) G a m b (aKl _) (by omega) (by omega) ae Y (hm▸o.ab1 y (by omega)) (hm▸o.ab2 y (by omega) ae)) (sO o6 _ (by omega)) ?_)
   rintro U ⟨c,g⟩
   (repeat' first|simp(disch:=first|exact a6|fail) only[go_sem,k]|(apply av<;>intro))
   exact⟨(u+1,b,b+t,U),⟨by simp only;rw[Nat.mul_succ,<-n];exact S,rfl,ae,x.trans (c.mono (by omega) (by omega)),J.step n (by rw[Nat.mul_succ,<-n];exact S) c g,o.step y (by omega) c⟩,by simp only;omega,by(exact bG)⟩
  ·by_cases V:m<L
   ·(repeat' first|simp(disch:=first|exact a6|fail) only[go_sem,R,T]|(apply av<;>intro)|refine sP (acd z A (L-a) G a m L (aKl _) (by omega) V (aKl _) Y (hm▸o.ab1 y (by omega)) (hm▸o.ab2 y (by omega) (aKl _))) (sO o6 _ (by omega)) ?_)
    rintro U ⟨c,g⟩
    (repeat' first|simp(disch:=first|exact a6|fail) only[go_sem,k,R]|(apply av<;>intro))
    exact⟨(t,U),⟨by simp only;omega,by simp only;omega,x.trans (c.mono (aKr _) (aKl _)),J.last n (by omega) c g⟩,by simp only;omega,by(exact bG)⟩
   ·(repeat' first|simp(disch:=first|exact a6|fail) only[go_sem,R,T]|(apply av<;>intro))
    exact⟨(t,G),⟨by simp only;omega,by simp only;omega,x,J.last n (by omega) (dW.refl _ _ _) fun p q v1 v2 v3=>o (2*u) p q (aKl _) (by rw[<-Nat.mul_assoc,Nat.mul_comm s 2];omega) v2 (by rw[Nat.mul_add,<-Nat.mul_assoc,Nat.mul_comm s 2];omega) v3⟩,by simp only;omega,by(exact bG)⟩
 ·(repeat' first|simp(disch:=first|exact a6|fail) only[go_sem]|(apply av<;>intro))
  exact⟨_,rfl,rfl,Q,rfl,e,d.full (by omega)⟩
theorem axt(b:id<H.length)(c:L<=M)(cg:l.length=L) :
  bn ν aB 82 [.bs id 0 L 2,.fn 80 []] (fF 32 H id l)
   fun r H'=>r=.a8 []/\∃a,H'=fF 32 H id a/\dW l a 0 L/\eC cf a 0 L:=by
 refine bn.intro (D:=gD) as6 ?_;unfold Ys
 (repeat' first|simp(disch:=first|exact a6|fail) only[go_sem]|(apply av<;>intro)|refine sP (axr b c cg) (sO o6 _ (by omega)) ?_)
 rintro d ⟨e,g⟩
 (repeat' first|simp(disch:=first|exact a6|fail) only[go_sem]|(apply av<;>intro))
 exact⟨_,rfl,rfl,d,rfl,e,g⟩
open Enc (enc)
theorem axK(x:AV)(l:List I)(ah:x=.gZ 2/\l=[]\/x=enc l/\l≠[])(a:l.length<=M) :
  bn ν aB 81 [x] [] fun r H'=>r=.bs 2 0 l.length 2/\H'=fF 32 [.dead,.dead,.dead,.dead] 2 l:=by
 have b:M=1099511627776:=rfl;refine bn.intro (D:=gD) as5 ?_;unfold Yp;rcases ah with⟨rfl,rfl⟩|⟨rfl,c⟩
 ·(repeat' first|simp(disch:=first|exact a6|fail) only[go_sem]|(apply av<;>intro))
  rw[if_pos (show(2 != 0)=true from rfl)];simp only[AV.uu,AV.iI,aKx,List.flatten_nil,aKu,Nat.zero_mul,aKl,Nat.zero_add,true_and,aKr,if_true,aKi,aKg,aKt,aKy]
  (repeat' first|simp(disch:=first|exact a6|fail) only[go_sem]|(apply av<;>intro))
  exact⟨_,rfl,rfl,rfl⟩
 ·(repeat' first|simp(disch:=first|exact a6|fail) only[go_sem]|(apply av<;>intro))
  rw[if_pos (show(2 != 0)=true from rfl)];simp only[AV.uu,AV.iI,aKx,List.flatten_nil,aKu,Nat.zero_mul,aKl,Nat.zero_add,true_and,aKh,a,if_true,aKi,aKg,aKt,aKy,ach]
  (repeat' first|simp(disch:=first|exact a6|fail) only[go_sem]|(apply av<;>intro))
  exact⟨_,rfl,rfl,rfl⟩
theorem axL(H:List ax):bn ν aB 137 [.aV 2,.int .i64 0,.int .i64 0,.fn 80 []] H fun r H'=>r=.a8 []/\H'=H:=by
 refine bn.intro (D:=gD) arI ?_;unfold VB;simp(disch:=first|exact a6|fail) only[go_sem];refine b9 (fun p:Unit=>⟨N [(0,.v (.aV 2)),(1,.v (.int .i64 0)),(2,.v (.int .i64 0)),(3,.v (.fn 80 [])),(8,.v (.int .i64 1))],H⟩) (fun p=>True) (fun p=>0) () trivial (by(try simp(disch:=first|exact a6|fail) only[go_sem])<;>(exact bG)) ?_;intro _ _
 (repeat' first|simp(disch:=first|exact a6|fail) only[go_sem]|(apply av<;>intro))
 exact⟨_,rfl,rfl⟩
theorem axM(H:List ax):bn ν aB 114 [.aV 2,.int .i64 0,.fn 80 []] H fun r H'=>r=.a8 []/\H'=H:=by
 refine bn.intro (D:=gD) atx ?_;unfold Zr;simp(disch:=first|exact a6|fail) only[go_sem];refine b9 (fun p:Unit=>⟨N [(0,.v (.aV 2)),(1,.v (.int .i64 0)),(2,.v (.fn 80 [])),(6,.v (.int .i64 20)),(7,.v (.int .i64 0)),(8,.v (.int .i64 20))],H⟩) (fun p=>True) (fun p=>0) () trivial (by(try simp(disch:=first|exact a6|fail) only[go_sem])<;>(exact bG)) ?_;intro _ _
 (repeat' first|simp(disch:=first|exact a6|fail) only[go_sem]|(apply av<;>intro)|refine b6 (axL H) ?_)
 refine b9 (fun p:Unit=>⟨N [(0,.v (.aV 2)),(1,.v (.int .i64 0)),(2,.v (.fn 80 [])),(6,.v (.int .i64 20))],H⟩) (fun p=>True) (fun p=>0) () trivial (by(try simp(disch:=first|exact a6|fail) only[go_sem])<;>(exact bG)) ?_;intro _ _
 (repeat' first|simp(disch:=first|exact a6|fail) only[go_sem]|(apply av<;>intro))
 exact⟨_,rfl,rfl⟩
theorem axN(H:List ax):bn ν aB 82 [.aV 2,.fn 80 []] H fun r H'=>r=.a8 []/\H'=H:=by
 refine bn.intro (D:=gD) as6 ?_;unfold Ys
 (repeat' first|simp(disch:=first|exact a6|fail) only[go_sem]|(apply av<;>intro)|refine b6 (axM H) ?_)
 exact⟨_,rfl,rfl⟩
theorem axO(H:List ax):bn ν aB 81 [.aV 2] H fun r H'=>r=.aV 2/\H'=H:=by
 refine bn.intro (D:=gD) as5 ?_;unfold Yp
 (repeat' first|simp(disch:=first|exact a6|fail) only[go_sem]|(apply av<;>intro))
 exact⟨_,rfl,rfl⟩
noncomputable def Of:List kX:=[(49,fO fun(l:List I)=>enc (fu l))]
noncomputable def tT:bc:=jV gD (fT Of)
instance aHg{D:bc}[h:bq D tT]:bq D gD:=h.nA
theorem acj:gC tT ([49]++([32,141,119,86,118]++[58,98,127,97,57,29,80,111,113,34,10,83,33,103,104])):=gC.or abL (nB Of)
theorem axP(h:∀xs,fT Of f xs=F xs)(hk:(([32,141,119,86,118]++[58,98,127,97,57,29,80,111,113,34,10,83,33,103,104]):List Nat).contains f=false:=by rfl):∀xs,tT f xs=F xs:=fun xs=>by rw[<-h];exact mS abL hk
theorem axQ[bq D tT][aT x1 l](h:aF ν aB 49 [enc l] (enc (fu l))):bT ν aB D 49 [x1] K tg=K (enc (fu l)):=gN (D':=tT) (F:=fun(l:List I)=>enc (fu l)) (axP fun _=>rfl) h
theorem axR:aF ν aB 49 [.aV 2] (enc ([]:List I)):=by
 refine aF.jl (D:=tT) asL rfl rfl (Enc.jP _) ?_;unfold Xd
 (repeat' first|simp(disch:=first|exact a6|fail) only[go_sem]|(apply av<;>intro)|refine b6 (axO []) ?_|refine b6 (axN []) ?_)
 refine b9 (fun p:Unit=>⟨N [(3,.v (.aV 2)),(4,.v (.list (some 32) 2 [])),(11,.v (.aV 2)),(12,.v (.int .i64 0)),(13,.v (.int .i64 0))],[]⟩) (fun p=>True) (fun p=>0) () trivial (by(try simp(disch:=first|exact a6|fail) only[go_sem])<;>(exact bG)) ?_;intro _ _
 (repeat' first|simp(disch:=first|exact a6|fail) only[go_sem]|(apply av<;>intro))
 exact⟨_,rfl,bQ.disown _ _ _⟩
theorem ack(x:AV)(l:List I)(ah:x=.gZ 2/\l=[]\/x=enc l/\l≠[])(d:l.length<=M):aF ν aB 49 [x] (enc (fu l)):=by
 have r:M=1099511627776:=rfl;refine aF.jl (D:=tT) asL (by rcases ah with⟨rfl,_⟩|⟨rfl,_⟩<;>rfl) rfl (Enc.jP _) ?_;unfold Xd;obtain⟨n,b⟩:∃n,n=l.length:=⟨_,rfl⟩;have c:=axK x l ah d;rw[<-b]at c;have o:x.aW=x:=by rcases ah with⟨rfl,_⟩|⟨rfl,_⟩<;>first|rfl|exact Enc.aW _
 (repeat' first|simp(disch:=first|exact a6|fail) only[go_sem,o]|(apply av<;>intro)|refine b6 c ?_|refine sP (axt (by decide) (b▸d) b.symm) (sO o6 _ (by omega)) ?_)
 rintro a ⟨g,p⟩;have k:a.length=n:=g.len.trans b.symm;have q:(fF 32 [.dead,.dead,.dead,.dead] 2 a)[2]?=some (.buf 32 (cM a)):=ab5 (by decide)
 (repeat' first|simp(disch:=first|exact a6|fail) only[go_sem,q]|(apply av<;>intro))
 refine b9 (fun i:Nat=>⟨N [(3,.v (.list (some 32) 2 (a.map I.enc))),(4,.v (.list (some 32) 2 ((kY a i).map I.enc))),(11,.v (enc a)),(12,.v (enc n)),(13,.v (enc i))],(fF 32 [.dead,.dead,.dead,.dead] 2 a).set 2 .dead⟩) (fun i=>i<=n) (fun i=>n-i) 0 (aKr _) (by(try simp(disch:=first|exact a6|fail) only[go_sem,k])<;>(first|rfl|(simp(disch:=first|exact a6|fail) only[cj,aKm,aKn,Env.ins,aKg,go_sem,kY];try rfl))) ?_;intro i ak;have v:=acf a i;by_cases h:i<n
 ·by_cases m:i=0
  ·have hd:kY a (i+1)=kY a i++[a[i]!]:=by rw[kY,if_pos (.inl m)]
   (repeat' first|simp(disch:=first|exact a6|fail) only[go_sem]|(apply av<;>intro))
   all_goals exact⟨i+1,by omega,by omega,by(first|rfl|(simp(disch:=first|exact a6|fail) only[cj,aKm,aKn,Env.ins,aKo,aKp,aKk,aKj,aKg,go_sem,hd];try rfl))⟩
  ·by_cases c:cf a[i-1]! a[i]! = 0
   ·have hd:kY a (i+1)=kY a i:=by rw[kY,if_neg (by rintro(e|e);exact m e;exact e c)]
    (repeat' first|simp(disch:=first|exact a6|fail) only[go_sem]|(apply av<;>intro))
    all_goals exact⟨i+1,by omega,by omega,by(first|rfl|(simp(disch:=first|exact a6|fail) only[cj,aKm,aKn,Env.ins,aKo,aKp,go_sem,hd];try rfl))⟩
   ·have hd:kY a (i+1)=kY a i++[a[i]!]:=by rw[kY,if_pos (.inr c)]
    (repeat' first|simp(disch:=first|exact a6|fail) only[go_sem]|(apply av<;>intro))
    all_goals exact⟨i+1,by omega,by omega,by(first|rfl|(simp(disch:=first|exact a6|fail) only[cj,aKm,aKn,Env.ins,aKo,aKp,aKk,aKj,aKg,go_sem,hd];try rfl))⟩
 ·(repeat' first|simp(disch:=first|exact a6|fail) only[go_sem]|(apply av<;>intro))
  obtain rfl:i=n:=by omega
  exact⟨_,rfl,by rw[axA b g p];exact bQ.disown _ _ _⟩
theorem axS(l:List I):aF ν aB 49 [enc l] (enc (fu l)):=by
 refine aF.l9 fun ae=>?_;by_cases h:l=[]
 ·subst h;exact aF.split axR (ack (.gZ 2) [] (.inl ⟨rfl,rfl⟩) (aKr _))
 ·exact ack (enc l) l (.inr ⟨rfl,h⟩) ae.1
theorem axT[bq D tT][aT x1 l]  :bT ν aB D 49 [x1] K tg=K (enc (fu l)):=axQ (axS l)
attribute [go_sem ↓ 2000] axT
open Enc (enc)
noncomputable def Ol:List kX:=[(26,fO fun(l:List I)=>enc (l)),
 (19,rI fun(s:List I)(j:List I)(r:List I)=>enc (vF s j r))]
noncomputable def mc:bc:=jV tT (fT Ol)
instance aHh{D:bc}[h:bq D mc]:bq D tT:=h.nA
theorem Om:gC mc ([26,19]++([49]++([32,141,119,86,118]++[58,98,127,97,57,29,80,111,113,34,10,83,33,103,104]))):=gC.or acj (nB Ol)
theorem acn(h:∀xs,fT Ol f xs=F xs)(hk:(([49]++([32,141,119,86,118]++[58,98,127,97,57,29,80,111,113,34,10,83,33,103,104])):List Nat).contains f=false:=by rfl):∀xs,mc f xs=F xs:=fun xs=>by rw[<-h];exact mS acj hk
theorem aco[bq D mc][aT x1 l](h:aF ν aB 26 [enc l] (enc (l))):bT ν aB D 26 [x1] K tg=K (enc (l)):=gN (D':=mc) (F:=fun(l:List I)=>enc (l)) (acn fun _=>rfl) h
variable {x3:AV}{r:List I}
theorem ax2[bq D mc]{s:List I}{j:List I}[aT x1 s][aT x2 j][aT x3 r](h:aF ν aB 19 [enc s,enc j,enc r] (enc (vF s j r))):bT ν aB D 19 [x1,x2,x3] K tg=K (enc (vF s j r)):=D6 (D':=mc) (F:=fun(s:List I)(j:List I)(r:List I)=>enc (vF s j r)) (acn fun _=>rfl) h
theorem acp(l:List I)(U:l.length<=100000)(ih:∀t∈l,aF ν aB 26 [enc t.args] (enc t.args)):aF ν aB 26 [enc l] (enc l):=by
 refine aF.jl (D:=mc) asu (by simp only[List.all_cons,List.all_nil,Enc.arg,Bool.and_self]) rfl (Enc.jP _) ?_;unfold Wf;have c:M=1099511627776:=rfl
 (repeat' first|simp(disch:=first|exact a6|fail) only[go_sem,aKt]|(apply av<;>intro))
 refine b9 (fun i:Nat=>⟨N [(3,.v (.bs 0 0 l.length 2)),(9,.v (enc l)),(10,.v (enc l.length)),(11,.v (enc i))],[.buf 32 (kZ l i),.dead]⟩) (fun i=>i<=l.length) (fun i=>l.length-i) 0 (aKr _) (by(try simp(disch:=first|exact a6|fail) only[go_sem])<;>(first|rfl|(simp(disch:=first|exact a6|fail) only[cj,aKm,aKn,Env.ins,go_sem,Og];try rfl))) ?_;intro i ak;by_cases h:i<l.length
 ·have a:=fun{K:AV->Prop}{tg:aM K}(b:i<l.length)=>aco (D:=mc) (K:=K) (tg:=tg) (x1:=.list none 2 (l[i]!.args.map I.enc)) (ih l[i]! (ft b))
  (repeat' first|simp(disch:=first|exact a6|fail) only[go_sem,a,aKx,aKy]|(apply av<;>intro))
  exact⟨i+1,by omega,by omega,by(exact bG)⟩
 ·obtain rfl:i=l.length:=by omega
  (repeat' first|simp(disch:=first|exact a6|fail) only[go_sem,aKx,aKy]|(apply av<;>intro))
  exact⟨_,rfl,bQ.disown _ _ _⟩
theorem ax3(l:List I)(U:l.length<=100000)(c:jz l<=100000):aF ν aB 26 [enc l] (enc l):=by
 have key:∀t:I,qM t<=100000->aF ν aB 26 [enc t.args] (enc t.args):=I.ind fun t ih h=>by
  rw[H9]at h;exact acp t.args (by omega) fun u a=>ih u a (by have:=xw a;omega)
 exact acp l U fun t b=>key t (by have:=xw b;omega)
theorem ax4[bq D mc][aT x1 l](h:l.length<=100000/\jz l<=100000) :bT ν aB D 26 [x1] K tg=K (enc (l)):=aco (ax3 l h.1 h.2)
attribute [go_sem ↓ 2000] ax4
theorem ax5{s j:List I}(az:s.length<=1000/\jz s<=1000)(c:j.length<=1000/\jz j<=1000)(d:r.length<=1000/\jz r<=1000):(vF s j r).length<=100000/\jz (vF s j r)<=100000:=by
 rw[acm];refine⟨?_,Es fun t a=>?_⟩
 ·have:=Od (s.map vE++List.zipWith sJ r j);rw[aKw,aKh,List.length_zipWith]at this;omega
 ·rw[oi,List.mem_append]at a;rcases a with a|a
  ·obtain⟨f,b,rfl⟩:=List.mem_map.1 a;have:=xw b;simp only[vE,qM,jz,List.length_cons,aKu];omega
  ·obtain⟨k,hk,rfl⟩:=List.getElem_of_mem a;rw[List.length_zipWith]at hk;rw[List.getElem_zipWith];have e:=xw (List.getElem_mem (l:=r) (n:=k) (by omega));have U:=xw (List.getElem_mem (l:=j) (n:=k) (by omega));simp only[sJ,qM,jz,List.length_cons,aKu];omega
theorem ax6(s j r:List I)(az:s.length<=1000/\jz s<=1000)(o:j.length<=1000/\jz j<=1000)(p:r.length<=1000/\jz r<=1000):aF ν aB 19 [enc s,enc j,enc r] (enc (vF s j r)):=by
 have v:M=1099511627776:=rfl;obtain⟨A,cq⟩:∃A,A=s.map vE:=⟨_,rfl⟩;obtain⟨Z,b⟩:∃Z,Z=List.zipWith sJ r j:=⟨_,rfl⟩;have w:A.length=s.length:=by rw[cq,aKh]
 have c:Z.length=min r.length j.length:=by rw[b,List.length_zipWith]
 have d:∀{i:Nat},i<s.length->A[i]! = vE s[i]!:=fun{i}h=>by rw[cq,xv];simp[h]
 have e:∀{i:Nat},i<Z.length->Z[i]! = sJ r[i]! j[i]!:=fun{i}h=>by rw[b];exact ax1 (by omega) (by omega)
 refine aF.jl (D:=mc) asn fp fg (by exact Enc.jP _) ?_;unfold VZ;simp(disch:=first|exact a6|fail) only[go_sem];refine b9 (fun i:Nat=>⟨N [(1,.v (enc j)),(2,.v (enc r)),(7,.v (.list (some 32) 2 ((A.take i).map I.enc))),(11,.v (enc s)),(12,.v (enc s.length)),(13,.v (enc i))],[]⟩) (fun i=>i<=s.length) (fun i=>s.length-i) 0 (aKr _) (by(try simp(disch:=first|exact a6|fail) only[go_sem])<;>(exact bG)) ?_;intro i ak;by_cases h:i<s.length
 ·have g:=d h;have m:(A.take i).length=i:=by rw[List.length_take];omega
  (repeat' first|simp(disch:=first|exact a6|fail) only[go_sem,m]|(apply av<;>intro))
  exact⟨i+1,by omega,by omega,by(first|rfl|(simp(disch:=first|exact a6|fail) only[cj,aKm,aKn,Env.ins,aKo,aKp,bZ,aKk,aKj,aKg,go_sem,g,axZ];try rfl))⟩
 have a:A.take i=A:=aKs (by omega)
 (repeat' first|simp(disch:=first|exact a6|fail) only[go_sem,a]|(apply av<;>intro))
 refine b9 (fun i:Nat=>⟨N [(1,.v (enc j)),(2,.v (enc r)),(7,.v (.list (some 32) 2 ((A++Z.take i).map I.enc))),(28,.v (enc Z.length)),(29,.v (enc i))],[]⟩) (fun i=>i<=Z.length) (fun i=>Z.length-i) 0 (aKr _) (by(try simp(disch:=first|exact a6|fail) only[go_sem])<;>(first|rfl|(simp(disch:=first|exact a6|fail) only[cj,aKm,aKn,Env.ins,cT,go_sem,c,List.append_nil,Nat.min_comm];try rfl))) ?_;clear h ak a;intro k hk;by_cases h:k<Z.length
 ·have g:=e h;have m:(A++Z.take k).length=s.length+k:=by rw[aKw,List.length_take];omega
  (repeat' first|simp(disch:=first|exact a6|fail) only[go_sem,m]|(apply av<;>intro))
  exact⟨k+1,by omega,by omega,by(first|rfl|(simp(disch:=first|exact a6|fail) only[cj,aKm,aKn,Env.ins,aKo,aKp,bZ,aKk,aKj,aKg,go_sem,g,ax0,<-aKv];try rfl))⟩
 ·have n:A++Z.take k=s.map vE++List.zipWith sJ r j:=by rw[aKs (by omega),cq,b]
  have x:=ax5 az o p;have q:=(acm s j r).symm
  (repeat' first|simp(disch:=first|exact a6|fail) only[go_sem,n,q]|(apply av<;>intro))
  exact⟨_,rfl,bQ.refl _⟩
open Enc (enc)
noncomputable def afZ:List kX:=[(71,rI fun(t:I)(m:Int)(d:Int)=>enc (jB m d.toNat t)),
 (35,jo fun(t:I)(m:Int)=>enc (jC m t)),
 (13,jo fun(l:List I)(m:Int)=>enc (oj m l))]
noncomputable def qX:bc:=jV mc (fT afZ)
theorem af0(h:∀xs,fT afZ f xs=F xs)(hk:(([26,19]++([49]++([32,141,119,86,118]++[58,98,127,97,57,29,80,111,113,34,10,83,33,103,104]))):List Nat).contains f=false:=by rfl):∀xs,qX f xs=F xs:=fun xs=>by rw[<-h];exact mS Om hk
variable {m d:Int}
theorem af1[bq D qX][aT x1 t][aT x2 m][aT x3 d](h:aF ν aB 71 [enc t,enc m,enc d] (enc (jB m d.toNat t))):bT ν aB D 71 [x1,x2,x3] K tg=K (enc (jB m d.toNat t)):=D6 (D':=qX) (F:=fun(t:I)(m:Int)(d:Int)=>enc (jB m d.toNat t)) (af0 fun _=>rfl) h
theorem aDH[bq D qX][aT x1 t][aT x2 m](h:aF ν aB 35 [enc t,enc m] (enc (jC m t))):bT ν aB D 35 [x1,x2] K tg=K (enc (jC m t)):=lI (D':=qX) (F:=fun(t:I)(m:Int)=>enc (jC m t)) (af0 fun _=>rfl) h
theorem aDI(hm:0<=m/\m<=1000):∀(d:Nat)(t:I),(d:Int)<=m->aF ν aB 71 [enc t,enc m,enc (d:Int)] (enc (jB m d t)):=by
 intro d;induction d with
 |zero =>
  intro t hd;refine aF.intro (D:=qX) aay fp fg ?_;unfold XZ;simp(disch:=first|exact a6|fail) only[go_sem]
  (repeat' first|simp(disch:=first|exact a6|fail) only[go_sem,za]|(apply av<;>intro))
  all_goals rfl
 |succ d ih =>
  intro t hd;refine aF.l9 fun ae=>?_;obtain⟨_,ae,_⟩:=(I.o4 t).1 ae;have v:M=1099511627776:=rfl;have e:((d:Int)+1)-1=(d:Int):=by omega
  refine aF.intro (D:=qX) aay fp fg ?_;unfold XZ;simp(disch:=first|exact a6|fail) only[go_sem]
  (repeat' first|simp(disch:=first|exact a6|fail) only[go_sem,za,Hw]|(apply av<;>intro))
  refine b9 (fun p:Nat×Int=>⟨N [(1,.v (enc m)),(2,.v (.int .i64 ((d:Int)+1))),(3,.v (.db t.enc.cells)),(7,.v (enc p.2)),(15,.v (enc t.args.length)),(16,.v (enc p.1))],[]⟩)
   (fun p=>p.1<=t.args.length/\jA (jB m d) m (t.args.drop p.1) p.2=jB m (d+1) t/\1<=p.2/\p.2<=xx m d+m) (fun p=>t.args.length-p.1) (0,1) ⟨aKr _,rfl,Int.le_refl _,by have:=Ib hm d;simp only;omega⟩ (by(try simp(disch:=first|exact a6|fail) only[go_sem])<;>(exact bG)) ?_
  rintro⟨i,n⟩ ⟨g,a,k,o⟩;simp only at g a k o;have w:=Ib hm d;by_cases h:i<t.args.length
  ·by_cases b:n>m
   ·rw[acu h b]at a
    (repeat' first|simp(disch:=first|exact a6|fail) only[go_sem,a]|(apply av<;>intro))
    all_goals rfl
   ·rw[acs h b]at a;have q:=Ic hm d t.args[i]!;have c:=fun{K:AV->Prop}{tg:aM K}(x:i<t.args.length)=>af1 (D:=qX) (K:=K) (tg:=tg) (x1:=t.args[i]!.enc) (x2:=.int .i64 m) (x3:=.int .i64 (d:Int)) (by rw[Int.toNat_natCast];exact ih _ (by omega));simp only[Int.toNat_natCast]at c
    (repeat' first|simp(disch:=first|exact a6|fail) only[go_sem,e,c]|(apply av<;>intro))
    exact⟨(i+1,_),⟨by simp only;omega,a,by simp only;omega,by simp only;omega⟩,by simp only;omega,by(exact bG)⟩
  ·rw[ayb (by omega)]at a
   (repeat' first|simp(disch:=first|exact a6|fail) only[go_sem,a]|(apply av<;>intro))
   all_goals rfl
theorem aDJ[bq D qX][aT x1 t][aT x2 m][aT x3 d](h:0<=m/\m<=1000/\0<=d/\d<=m) :bT ν aB D 71 [x1,x2,x3] K tg=K (enc (jB m d.toNat t)):=af1 (by have U:=aDI ⟨h.1,h.2.1⟩ d.toNat t (by omega);rwa[Int.toNat_of_nonneg h.2.2.1]at U)
attribute [go_sem ↓ 2000] aDJ
theorem af2(t:I)(hm:0<=m/\m<=1000):aF ν aB 35 [enc t,enc m] (enc (jC m t)):=by
 refine aF.intro (D:=qX) asB fp fg ?_;unfold WI;simp(disch:=first|exact a6|fail) only[go_sem]
 (repeat' first|simp(disch:=first|exact a6|fail) only[go_sem]|(apply av<;>intro))
 all_goals first|rfl|simp_all[jC]
theorem aDK[bq D qX][aT x1 t][aT x2 m](h:0<=m/\m<=1000) :bT ν aB D 35 [x1,x2] K tg=K (enc (jC m t)):=aDH (af2 t h)
attribute [go_sem ↓ 2000] aDK
theorem aDL(l:List I)(hm:0<=m/\m<=1000):aF ν aB 13 [enc l,enc m] (enc (oj m l)):=by
 refine aF.l9 fun ae=>?_;obtain⟨ae,_⟩:=ae;have e:M=1099511627776:=rfl;by_cases b:(l.length:Int)<=m
 ·refine aF.intro (D:=qX) asj fp fg ?_;unfold VJ;simp(disch:=first|exact a6|fail) only[go_sem]
  (repeat' first|simp(disch:=first|exact a6|fail) only[go_sem,VK,Ce]|(apply av<;>intro))
  refine b9 (fun i:Nat=>⟨N [(0,.v (enc l)),(1,.v (enc m)),(11,.v (enc l.length)),(12,.v (enc i))],[]⟩)
   (fun i=>i<=l.length/\oj m l=(l.drop i).all (jC m)) (fun i=>l.length-i) 0 ⟨aKr _,by rw[oj,decide_eq_true b,Bool.true_and];rfl⟩ (by(try simp(disch:=first|exact a6|fail) only[go_sem])<;>(exact bG)) ?_
  rintro i ⟨g,a⟩;by_cases h:i<l.length
  ·rw[fY h,List.all_cons]at a;cases az:jC m l[i]! with
   |false =>
    rw[az,Bool.false_and]at a
    (repeat' first|simp(disch:=first|exact a6|fail) only[go_sem,az,a]|(apply av<;>intro))
    all_goals rfl
   |true =>
    rw[az,Bool.true_and]at a
    (repeat' first|simp(disch:=first|exact a6|fail) only[go_sem,az]|(apply av<;>intro))
    exact⟨i+1,⟨by omega,a⟩,by omega,by(exact bG)⟩
  ·rw[List.drop_eq_nil_of_le (by omega)]at a
   (repeat' first|simp(disch:=first|exact a6|fail) only[go_sem,a]|(apply av<;>intro))
   all_goals rfl
 ·have c:oj m l=false:=by rw[oj,decide_eq_false b,Bool.false_and]
  rw[c];refine aF.intro (D:=qX) asj fp fg ?_;unfold VJ;simp(disch:=first|exact a6|fail) only[go_sem]
  (repeat' first|simp(disch:=first|exact a6|fail) only[go_sem,VK]|(apply av<;>intro))
  all_goals rfl
end AM
