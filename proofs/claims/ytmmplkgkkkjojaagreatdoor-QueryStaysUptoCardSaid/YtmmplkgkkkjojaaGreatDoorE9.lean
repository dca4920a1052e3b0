/- check.Rule. Conditions: terms are not deeper than a million. -/
import Derived.Test.YtmmplkgkkkjojaaGreatDoorE1
set_option linter.unusedSimpArgs false
set_option maxRecDepth 100000
set_option maxHeartbeats 4000000
set_option linter.unusedVariables false
namespace AM
open Nat renaming zero_le -> aKB
open List renaming drop_eq_nil_of_le -> aKC
open Go Go.Proofs
open Tryz renaming prog -> ν
open Enc (enc)
def rQ(s:ak):AV:=match ln s with|some k=>.bg [k.enc,.bool true]|none=>.bg [.agg [.str [],.int .i64 0,.bool false,.bool false],.bool false]
noncomputable def R7:List iZ:=[(102,eh λ(t:I)=>enc (gM t)),
 (104,eh λ(t:I)=>enc (iK t)),
 (103,eh λ(s:ak)=>rQ s),
 (67,hj λ(t:I)(hd:Bool)=>enc (kj t hd)),
 (66,eh λ(r:aU)=>enc (dx r)),
 (69,eh λ(r:aU)=>enc (nL r))]
noncomputable def h7:bj:=ij jS (e1 R7)
instance aO2{D:bj}[h:bt D h7]:bt D jS:=h.ke
def R8:List Nat:=[102,104,103,67,66,69]++R0
theorem aje:fq h7 R8:=fq.or ai6 (kf R7)
theorem Dv{f:Nat}{F:List AV->Option AV}(h:∀xs,e1 R7 f xs=F xs)(hk:R0.contains f=false:=by rfl):∀xs,h7 f xs=F xs:=λxs=>by rw[<-h];exact kg ai6 hk
variable {n:Nat}
theorem ajf(h:n≠0):((n:Int)==0)=false:=by
 have a:((n:Int)==0)≠true:=by simp only[beq_iff_eq,ne_eq];omega
 simpa using a
theorem aHs:∀t:I,aA ν aD 104 [enc t] (enc (iK t)):=I.ind λt ih=>by
 refine aA.h4 λae=>?_;obtain⟨_,ae,_⟩:=(I.j5 t).1 ae;have b:M=1099511627776:=rfl;refine aA.intro (D:=h7) afm cX c7 ?_;unfold Pt;simp(disch:=first|exact ai|fail) only[go_sem];rw[QV];by_cases h:4<t.args.length
 ·rw[decide_eq_true h,Bool.true_or]
  (repeat' first|simp(disch:=first|exact ai|fail) only[go_sem]|(refine ao ?_ ?_<;>intro))
  all_goals rfl
 ·rw[decide_eq_false h,Bool.false_or];have a:=R1 (H:=[]) iK (yh afm).1 t.args ih ae
  (repeat' first|simp(disch:=first|exact ai|fail) only[go_sem]|(refine ao ?_ ?_<;>intro)|refine cA a ?_)
  all_goals rfl
variable {D:bj}{x1:AV}{t:I}{K:AV->Prop}{tg:aN K}
theorem aHt[bt D h7][aT x1 t]  :b1 ν aD D 104 [x1] K tg=K (enc (iK t)):=ec (D':=h7) (F:=λ(t:I)=>enc (iK t)) (Dv λ_=>rfl) (aHs t)
attribute [go_sem ↓ 2000] aHt
theorem aHu:∀t:I,aA ν aD 102 [enc t] (enc (gM t)):=I.ind λt ih=>by
 refine aA.h4 λae=>?_;obtain⟨_,ae,_⟩:=(I.j5 t).1 ae;have e:M=1099511627776:=rfl;refine aA.intro (D:=h7) ayY cX c7 ?_;unfold abC;simp(disch:=first|exact ai|fail) only[go_sem];rw[Kn];by_cases h:t.args.length=0
 ·rw[if_pos h];have al:((t.args.length:Int)==0)=true:=by simp[h]
  cases b:fw t.name with
  |some n =>
   refine gS @al (CL b) ?_;all_goals rfl
  |none =>
   cases a:dM t.name<;>cases c:eg t.name;all_goals (repeat' first|simp(disch:=first|exact ai|fail) only[go_sem,al,CK b,a,c]|(refine ao ?_ ?_<;>intro))
   all_goals rfl
 ·rw[if_neg h];have al:=ajf h;have d:=R1 (H:=[]) gM (yh ayY).1 t.args ih ae;cases a:dM t.name
  ·(repeat' first|simp(disch:=first|exact ai|fail) only[go_sem,al,a]|(refine ao ?_ ?_<;>intro))
   all_goals rfl
  ·(repeat' first|simp(disch:=first|exact ai|fail) only[go_sem,al,a]|(refine ao ?_ ?_<;>intro)|refine cA d ?_)
   all_goals rfl
theorem aHv[bt D h7][aT x1 t]  :b1 ν aD D 102 [x1] K tg=K (enc (gM t)):=ec (D':=h7) (F:=λ(t:I)=>enc (gM t)) (Dv λ_=>rfl) (aHu t)
attribute [go_sem ↓ 2000] aHv
theorem aHw(k:gE)(s:ak){H:List ay}:bB ν aD 152 [k.enc,.cL [.str s]] H λr H'=>r=.bool (k.name==s)/\H'=H:=by
 refine bB.intro (D:=h7) afo ?_;unfold PA;refine ag ?_;exact⟨_,rfl,rfl⟩
theorem aHx{H:List ay}(s:ak):bB ν aD 151 [.list none 4 (kY.map gE.enc),.fn 152 [.cL [.str s]]] H λr H'=>r=.int .i64 (lN (λk=>k.name==s) kY)/\H'=H:=by
 have c:M=1099511627776:=rfl;have d:kY.length=10:=rfl;generalize kY=l at *;refine bB.intro (D:=h7) azB ?_;unfold ac9;refine ag ?_;refine bQ (λi:Nat=>⟨N [(0,.v (.list none 4 (l.map gE.enc))),(1,.v (.fn 152 [.cL [.str s]])),(7,.v (enc l.length)),(8,.v (enc i))],H⟩) (λi=>i<=l.length/\j7 (λk:gE=>k.name==s) (l.drop i) i=lN (λk=>k.name==s) l) (λi=>l.length-i) 0 ⟨aKB _,rfl⟩ ew ?_;rintro i ⟨e,a⟩;by_cases al:i<l.length
 ·rw[fi al,j7]at a;have b:=@aHw l[i]! s H;cases ar:l[i]!.name==s with
  |true =>
   rw[ar]at b a
   (repeat' first|simp(disch:=first|exact ai|fail) only[go_sem,jL]|(refine ao ?_ ?_<;>intro)|refine cA b ?_)
   exact⟨_,rfl,by rw[<-a];rfl⟩
  |false =>
   rw[ar]at b a
   (repeat' first|simp(disch:=first|exact ai|fail) only[go_sem,jL]|(refine ao ?_ ?_<;>intro)|refine cA b ?_)
   exact⟨i+1,⟨am,a⟩,am,ci⟩
 ·rw[aKC am,j7]at a;refine ag ?_;exact⟨_,rfl,by rw[<-a]⟩
def Dw:List AV:=(kY.map λk=>k.enc.cells).flatten
theorem aHy:aD 0=some (.cL Dw):=rfl
variable {s:au}{d:Nat}{K:au->Prop}{t:aN K}
theorem aHz :b4 ν aD D s K t (.q4 d (.g 0) 10 4 none none)=di s d (.list none 4 (kY.map gE.enc)) K ⟨⟩:=by
 rw[XT];rfl
def R9(s:au)(d n sz:Nat)(cs:List AV)(K:au->Prop)(_:aN K):AV->Prop
 |.int _ k=>if 0<=k/\k<n/\n*sz<=cs.length then di s d (.cL (cs.drop (k.toNat*sz))) K ⟨⟩else False|_=>False
variable {sz:Nat}
theorem aHA{cs:List AV}{q:IntKind}{k:Int}:R9 s d n sz cs K t (.int q k)=if 0<=k/\k<n/\n*sz<=cs.length then di s d (.cL (cs.drop (k.toNat*sz))) K ⟨⟩else False:=_root_.id rfl
theorem aHB{i:aL} :b4 ν aD D s K t (.oJ d (.g 0) n sz i)=bV (br aD s.env i) (λv=>R9 s d n sz Dw K ⟨⟩ v) ⟨⟩:=by
 rw[XM];simp only[aJ,eQ,aHy];cases br aD s.env i with
 |none=>rfl|some v=>cases v with
  |int q k =>
   simp only[eI,R9];by_cases h:0<=k/\k<n/\n*sz<=Dw.length
   ·rw[if_pos h,if_pos h];rfl
   ·rw[if_neg h,if_neg h];rfl
  |_=>rfl
attribute [go_sem ↓ 9000] aHz aHB
theorem aHC:∀k:Nat,k<10->(Dw.drop (k*4)).take 4=(kY[k]!).enc.cells/\4<=(Dw.drop (k*4)).length:=by
 intro k hk
 match k,hk with
 |0,_=>exact⟨rfl,dw⟩|1,_=>exact⟨rfl,dw⟩|2,_=>exact⟨rfl,dw⟩|3,_=>exact⟨rfl,dw⟩|4,_=>exact⟨rfl,dw⟩|5,_=>exact⟨rfl,dw⟩|6,_=>exact⟨rfl,dw⟩|7,_=>exact⟨rfl,dw⟩|8,_=>exact⟨rfl,dw⟩|9,_=>exact⟨rfl,dw⟩
theorem aHD(s:ak):aA ν aD 103 [enc s] (rQ s):=by
 refine aA.intro (D:=h7) afl rfl (by unfold rQ;split<;>rfl) ?_;unfold Ps;have b:=aHx (H:=[]) s;cases a:kY.any λk=>k.name==s with
 |true =>
  obtain⟨k,f,g,m,i⟩:=ahp _ kY 0 a;have c:k<10:=f;have e:rQ s=.bg [kY[k]!.enc,.bool true]:=by unfold rQ ln;rw[i]
  have al:lN (λk=>k.name==s) kY=(k:Int):=by rw[lN,g];omega
  rw[al]at b;obtain⟨j,o⟩:=aHC k c;have p:(0:Int)<=(k:Int)/\(k:Int)<((10:Nat):Int)/\10*4<=Dw.length:=⟨am,am,dw⟩;rw[e]
  (repeat' first|simp(disch:=first|exact ai|fail) only[go_sem,aHA,j]|(refine ao ?_ ?_<;>intro)|refine cA b ?_)
 |false =>
  have e:rQ s=.bg [.agg [.str [],.int .i64 0,.bool false,.bool false],.bool false]:=by
   have:ln s=none:=by rw[ln,List.find?_eq_none];intro x ah;rw[List.any_eq_false]at a;exact a x ah
   unfold rQ;rw[this]
  have q:¬0<=lN (λk=>k.name==s) kY:=λh=>by rw[lN,QU,a]at h;cases h
  have l:decide (lN (λk=>k.name==s) kY<0)=true:=decide_eq_true am;rw[e]
  (repeat' first|simp(disch:=first|exact ai|fail) only[go_sem,l]|(refine ao ?_ ?_<;>intro)|refine cA b ?_)
variable {K:AV->Prop}{tg:aN K}
theorem aHF[bt D h7]{s:ak}[aT x1 s]  :b1 ν aD D 103 [x1] K tg=K (rQ s):=ec (D':=h7) (F:=λ(s:ak)=>rQ s) (Dv λ_=>rfl) (aHD s)
attribute [go_sem ↓ 2000] aHF
theorem aHG(t:I)(hd:Bool)(l:cc t<=1000000):aA ν aD 67 [enc t,enc hd] (enc (kj t hd)):=by
 refine aA.h4 λae=>?_;obtain⟨_,ae,_⟩:=(I.j5 t).1 ae;have m:M=1099511627776:=rfl;refine aA.intro (D:=h7) afd cX c7 ?_;unfold Pl;simp(disch:=first|exact ai|fail) only[go_sem];unfold kj;cases a:dM t.name
 ·(repeat' first|simp(disch:=first|exact ai|fail) only[go_sem,a]|(refine ao ?_ ?_<;>intro))
  all_goals rfl
 ·cases b:gM t
  ·cases i:ln t.name with
   |none =>
    have c:rQ t.name=.bg [.agg [.str [],.int .i64 0,.bool false,.bool false],.bool false]:=by unfold rQ;rw[i]
    cases e:iK t
    ·by_cases f:4<cc t
     ·refine mb @a @b @c @e ?_;all_goals simp[f]
     ·refine mb @a @b @c @e ?_;all_goals simp[f]
    ·(repeat' first|simp(disch:=first|exact ai|fail) only[go_sem,a,b,c,e]|(refine ao ?_ ?_<;>intro))
     all_goals rfl
   |some k =>
    have c:rQ t.name=.bg [k.enc,.bool true]:=by unfold rQ;rw[i]
    cases e:iK t
    ·by_cases g:(t.args.length:Int)=k.args
     ·by_cases f:4<cc t
      ·refine rp @a @b @c @e @g ?_;all_goals simp[f,g]
      ·cases hd<;>cases j:k.head<;>cases h:k.body;all_goals refine EG @a @b @c @e @g @j @h ?_
       all_goals simp[f,g,j,h]
     ·refine mb @a @b @c @e ?_;all_goals simp[g]
    ·(repeat' first|simp(disch:=first|exact ai|fail) only[go_sem,a,b,c,e]|(refine ao ?_ ?_<;>intro))
     all_goals rfl
  ·(repeat' first|simp(disch:=first|exact ai|fail) only[go_sem,a,b]|(refine ao ?_ ?_<;>intro))
   all_goals rfl
theorem aHH[bt D h7]{x2:AV}{t:I}{hd:Bool}[aT x1 t][aT x2 hd](h:cc t<=1000000) :b1 ν aD D 67 [x1,x2] K tg=K (enc (kj t hd)):=ik (D':=h7) (F:=λ(t:I)(hd:Bool)=>enc (kj t hd)) (Dv λ_=>rfl) (aHG t hd h)
attribute [go_sem ↓ 2000] aHH
theorem aHI(r:aU)(b:r.body.length<=100000):aA ν aD 66 [enc r] (enc (dx r)):=by
 have c:M=1099511627776:=rfl;refine aA.gK (D:=h7) ayF rfl (by first|rfl|exact Enc.res _) (Enc.iI _) ?_;unfold aar;refine ag ?_;refine bQ (λi:Nat=>⟨N [(3,.v (.list (some 25) 2 ((r.head::(r.body.take i).map Lit.atom).map I.enc))),(10,.v (.list none 3 (r.body.map Lit.enc))),(11,.v (enc r.body.length)),(12,.v (enc i))],[]⟩) (λi=>i<=r.body.length) (λi=>r.body.length-i) 0 (aKB _) ew ?_;intro i al;by_cases h:i<r.body.length
 ·have a:(r.body.take i).length=i:=by rw[List.length_take];omega
  refine bU @a ?_;exact⟨i+1,am,am,ci⟩
 ·have a:r.body.take i=r.body:=List.take_of_length_le am;refine bU @a ?_;exact⟨_,rfl,bx.disown _ _ _⟩
variable {r:aU}
theorem aHJ[bt D h7][aT x1 r](h:r.body.length<=100000) :b1 ν aD D 66 [x1] K tg=K (enc (dx r)):=ec (D':=h7) (F:=λ(r:aU)=>enc (dx r)) (Dv λ_=>rfl) (aHI r h)
attribute [go_sem ↓ 2000] aHJ
theorem aHK(r:aU)(w:r.body.length<=100000)(x:(bF (dx r)).length<=1000000):aA ν aD 69 [enc r] (enc (nL r)):=by
 have y:M=1099511627776:=rfl;refine aA.intro (D:=h7) afe cX c7 ?_;unfold aaw;simp(disch:=first|exact ai|fail) only[go_sem];refine bQ (λi:Nat=>⟨N [(3,.v (.list (some 25) 2 ((r.head::((r.body.take i).filter λl=>!dB l).map Lit.atom).map I.enc))),(4,.v (.list (some 25) 2 ((((r.body.take i).filter dB).map Lit.atom).map I.enc))),(14,.v (.list none 3 (r.body.map Lit.enc))),(15,.v (enc r.body.length)),(16,.v (enc i))],[]⟩) (λi=>i<=r.body.length) (λi=>r.body.length-i) 0 (aKB _) ew ?_;intro i al;by_cases h:i<r.body.length
 ·have b:=yT (p:=dB) h;have c:=yT (p:=λl=>!dB l) h;have z:=GC (p:=dB) (l:=r.body) (i:=i);have A:=GC (p:=λl=>!dB l) (l:=r.body) (i:=i);have e:dB r.body[i]! = (!r.body[i]!.neg&&!(r.body[i]!.atom.name==[100,105,115,116,105,110,99,116])):=rfl;generalize (r.body.take i).filter dB=df at *;generalize (r.body.take i).filter (λl=>!dB l)=B at *;cases f:r.body[i]!.neg with
  |true =>
   rw[f]at e;simp only[e,Bool.not_true,Bool.false_and,Bool.not_false,if_true,Bool.false_eq_true,if_false]at b c;refine bU @f ?_;exact⟨i+1,am,am,by rw[b,c];(exact bl)⟩
  |false =>
   cases g:r.body[i]!.atom.name==[100,105,115,116,105,110,99,116]with
   |true =>
    rw[f,g]at e;simp only[e,Bool.not_true,Bool.and_false,Bool.not_false,if_true,Bool.false_eq_true,if_false]at b c;refine gS @f @g ?_;exact⟨i+1,am,am,by rw[b,c];(exact bl)⟩
   |false =>
    rw[f,g]at e;simp only[e,Bool.not_true,Bool.and_self,Bool.not_false,if_true,Bool.false_eq_true,if_false]at b c;refine gS @f @g ?_;exact⟨i+1,am,am,by rw[b,c];(exact bl)⟩
 ·have m:r.body.take i=r.body:=List.take_of_length_le am;rw[m];have q:(r.head::(r.body.filter λl=>!dB l).map Lit.atom)=w3 r:=rfl;have u:(r.body.filter dB).map Lit.atom=AB r:=rfl;rw[q,u];have C:(bF (w3 r)).length<=1000000:=by have:=aHc r;omega
  have en:(bF (AB r)).length<=1000000:=by have:=aHd r;omega
  refine ag ?_;have lD:=Ds (w3 r);obtain⟨V,k⟩:∃V,V=hE (w3 r):=⟨_,rfl⟩;obtain⟨W,o⟩:∃W,W=hE (AB r):=⟨_,rfl⟩;have ax:nL r=V.all λv=>W.contains v:=by rw[k,o];rfl
  rw[ax,<-k,<-o];rw[<-k]at lD;refine bQ (λi:Nat=>⟨N [(7,.v (.list none 1 (W.map AV.str))),(42,.v (.list none 1 (V.map AV.str))),(43,.v (enc V.length)),(44,.v (enc i))],[]⟩) (λi=>i<=V.length/\((V.drop i).all λv=>W.contains v)=V.all λv=>W.contains v) (λi=>V.length-i) 0 ⟨aKB _,rfl⟩ ew ?_;clear h al m;rintro i ⟨E,a⟩;by_cases h:i<V.length
  ·rw[fi h,List.all_cons]at a;cases j:W.contains V[i]! with
   |true =>
    rw[j,Bool.true_and]at a;refine bU @j ?_;exact⟨i+1,⟨am,a⟩,am,ci⟩
   |false =>
    rw[j,Bool.false_and]at a;refine bU @j ?_;show some (AV.bool _)=some (AV.bool _);rw[<-a]
  ·rw[aKC am]at a;refine ag ?_;show some (AV.bool _)=some (AV.bool _);rw[<-a];rfl
theorem aHL[bt D h7][aT x1 r](h:r.body.length<=100000/\(bF (dx r)).length<=1000000) :b1 ν aD D 69 [x1] K tg=K (enc (nL r)):=ec (D':=h7) (F:=λ(r:aU)=>enc (nL r)) (Dv λ_=>rfl) (aHK r h.1 h.2)
attribute [go_sem ↓ 2000] aHL
theorem Sb(r:aU)(p:∀a∈dx r,cc a<=1000000):aA ν aD 36 [enc r] (enc (fK r)):=by
 have H:M=1099511627776:=rfl;refine aA.intro (D:=h7) ayk cX c7 ?_;unfold Zl;simp(disch:=first|exact ai|fail) only[go_sem];by_cases f:8<r.body.length
 ·have v:fK r=2:=if_pos f;rw[v]
  (repeat' first|simp(disch:=first|exact ai|fail) only[go_sem]|(refine ao ?_ ?_<;>intro))
  all_goals rfl
 ·have g:r.body.length<=100000:=by omega
  obtain⟨L,cf⟩:∃L,L=dx r:=⟨_,rfl⟩;have w:L.length<=9:=by rw[cf];simp only[dx,List.length_cons,List.length_map];omega
  have x:kG L true≠0->fK r=kG L true:=λh=>by rw[fK,if_neg f,<-cf,if_pos h]
  refine ag ?_;rw[<-cf];refine bQ (λi:Nat=>⟨N [(1,.v (.cL r.enc.cells)),(3,.v (.list none 2 (L.map I.enc))),(14,.v (.list none 2 (L.map I.enc))),(15,.v (enc L.length)),(16,.v (enc i))],[]⟩) (λi=>i<=L.length/\kG (L.drop i) ((i:Int)==0)=kG L true) (λi=>L.length-i) 0 ⟨aKB _,rfl⟩ ew ?_;rintro i ⟨J,c⟩;by_cases h:i<L.length
  ·have O:=p _ (by rw[<-cf];exact ek h);rw[fi h,kG]at c;have y:(((i:Int)+1)==0)=false:=by have:=ajf (n:=i+1) am;rwa[show((i+1:Nat):Int)=(i:Int)+1 by omega]at this
   by_cases he:kj L[i]! ((i:Int)==0)=0
   ·rw[if_pos he]at c;have j:((kj L[i]! ((i:Int)==0):Nat):Int)=0:=by omega
    refine bU @j ?_;exact⟨i+1,⟨am,by rw[show((i+1:Nat):Int)=(i:Int)+1 by omega,y];exact c⟩,am,ci⟩
   ·rw[if_neg he]at c;have j:((kj L[i]! ((i:Int)==0):Nat):Int)≠0:=by omega
    refine ag ?_;show some (AV.int _ _)=some (AV.int _ _);rw[x (by rw[<-c];exact he),c]
  ·rw[aKC am,kG]at c;have z:=λa(aG:a∈L)=>(KU c.symm a aG);have A:(bF L).length<=1000000:=by
    have P:=GF (b:=256) L λu B=>by obtain⟨_,q⟩:=z u B;exact GG (n:=4) (RK q).1
    have Q:L.length*256<=9*256:=Nat.mul_le_mul_right _ w;omega
   have C:r.body.length<=100000/\(bF (dx r)).length<=1000000:=⟨g,by rw[<-cf];exact A⟩;have E:fK r=if 5<(hE L).length then 11 else if !nL r then 7 else if r.head.name==w2&&(decide (0<r.body.length)||decide (0<r.head.args[0]!.args.length)||!dM r.head.args[0]!.name)then 8 else 0:=by
    rw[fK,if_neg f,<-cf,if_neg (by rw[<-c];simp)]
   rw[E];by_cases k:5<(hE L).length
   ·rw[if_pos k]
    (repeat' first|simp(disch:=first|exact ai|fail) only[go_sem]|(refine ao ?_ ?_<;>intro))
    all_goals rfl
   ·rw[if_neg k];cases ax:nL r with
    |false =>
     (repeat' first|simp(disch:=first|exact ai|fail) only[go_sem,ax]|(refine ao ?_ ?_<;>intro))
     all_goals rfl
    |true =>
     cases e:r.head.name==[114,111,108,101]with
     |false =>
      refine gS @ax @e ?_;all_goals simp[w2,e]
     |true =>
      have R:r.head.args.length=1:=by
       have F:kj r.head true=0:=by
        have:L=r.head::r.body.map Lit.atom:=cf;rw[this,kG]at c;by_cases ah:kj r.head true=0
        ·exact ah
        ·rw[if_neg ah]at c;exact c.symm
       exact ai5 F (beq_iff_eq.1 e)
      have S:0<r.head.args.length:=by omega
      have G:(r.head.name==w2)=true:=e;rw[G];by_cases l:0<r.body.length
      ·rw[decide_eq_true l]
       (repeat' first|simp(disch:=first|exact ai|fail) only[go_sem,ax,e]|(refine ao ?_ ?_<;>intro))
       all_goals rfl
      ·rw[decide_eq_false l];by_cases m:0<r.head.args[0]!.args.length
       ·rw[decide_eq_true m]
        (repeat' first|simp(disch:=first|exact ai|fail) only[go_sem,ax,e]|(refine ao ?_ ?_<;>intro))
        all_goals rfl
       ·rw[decide_eq_false m];cases o:dM r.head.args[0]!.name
        ·(repeat' first|simp(disch:=first|exact ai|fail) only[go_sem,ax,e,o]|(refine ao ?_ ?_<;>intro))
         all_goals rfl
        ·(repeat' first|simp(disch:=first|exact ai|fail) only[go_sem,ax,e,o]|(refine ao ?_ ?_<;>intro))
         all_goals rfl
end AM
