/- What functions of the given program do, as calls of the machine. Conditions: names and lists are bounded where that is said. -/
import Derived.Test.YtljpaghckmbmlaaGreatDoorE42
import Derived.Test.YtljpaghckmbmlaaGreatDoorAm9
set_option linter.unusedSimpArgs false
set_option maxRecDepth 100000
set_option maxHeartbeats 4000000
set_option linter.unusedVariables false
namespace AM
open Nat renaming lt_or_ge -> aqt,zero_le -> aqw,le_trans -> ax6
open List renaming length_map -> aqv,map_append -> aqx,take_of_length_le -> aqB,map_cons -> aqH,map_nil -> aqI,length_append -> aqT,take_zero -> aqU,drop_eq_nil_of_le -> aqV,take -> avO,map -> avP,foldr_cons -> avQ,foldr_nil -> avR,length_take -> avY,take_length -> aKc,mem_cons -> aLY,mem_map -> aLZ,length_nil -> aL0,length_cons -> aL1,foldl_nil -> aPP,append_assoc -> aPQ,length_eq_zero_iff -> aPS,not_mem_nil -> aPT,append_nil -> aPU,length_filter_le -> aPV,all_append -> aPW
open Bool renaming not -> aqE,eq_iff_iff -> aLO,false_or -> aPw,false_and -> aPR
open Int renaming natCast_add -> avS,natCast_one -> avT,natCast_zero -> avX
open Go Go.Proofs
open Tryz renaming prog -> ν
open Enc (enc)
def nm(s:ak):AV:=match ln s with
 |some k=>.bg [.int .i64 k.args,.bool true]|none=>.bg [.int .i64 0,.bool false]
def vp(t:I):Nat :=
 if !dM t.name||t.args.any gM then 4
 else if iK t||(match ln t.name with|some k=>decide ((t.args.length:Int)≠k.args)|none=>false)then 5
 else if 4<cc t then 3 else 0
def zc(s:ak):Bool:=match ln s with|some k=>k.body|none=>true
noncomputable def TX:List iZ:=[(199,eh λ(s:ak)=>nm s),
 (173,eh λ(s:ak)=>enc (decide (s≠[116,114,117,101]/\s≠[100,111,101,115]/\s≠eG))),
 (126,eh λ(l:Lit)=>enc (dB l)),
 (177,hj λ(l:List ak)(s:ak)=>enc (l.contains s)),
 (174,eh λ(s:ak)=>enc (zc s)),
 (172,eh λ(t:I)=>enc (vp t)),
 (201,eh λ(t:I)=>enc (aqE (iK t))),
 (200,eh λ(t:I)=>enc (aqE (t.args.any gM)))]
noncomputable def gr:bj:=ij fR (e1 TX)
instance aPo{D:bj}[h:bt D gr]:bt D fR:=h.ke
def TY:List Nat:=[199,173,126,177,174,172,201,200]++TU
theorem alA:fq gr TY:=fq.or aly (kf TX)
variable {f:Nat}{F:List AV->Option AV}
theorem vq(h:∀xs,e1 TX f xs=F xs)(hk:TU.contains f=false:=by rfl):∀xs,gr f xs=F xs:=λxs=>by rw[<-h];exact kg aly hk
variable {D:bj}{x1:AV}{t:I}{K:AV->Prop}{tg:aN K}
theorem aKS[bt D gr][aT x1 t](h:aA ν aD 201 [enc t] (enc (aqE (iK t)))):b1 ν aD D 201 [x1] K tg=K (enc (aqE (iK t))):=ec (D':=gr) (F:=λ(t:I)=>enc (aqE (iK t))) (vq λ_=>rfl) h
theorem aKT[bt D gr][aT x1 t](h:aA ν aD 200 [enc t] (enc (aqE (t.args.any gM)))):b1 ν aD D 200 [x1] K tg=K (enc (aqE (t.args.any gM))):=ec (D':=gr) (F:=λ(t:I)=>enc (aqE (t.args.any gM))) (vq λ_=>rfl) h
def Hh:List I->AV
 |[]=>.aS 2|x::r=>.list (some 31) 2 ((x::r).map I.enc)
theorem Lw(x:I)(r:List I):Hh (x::r)=.list (some 31) 2 ((x::r).map I.enc):=rfl
theorem aKU:∀(t:I)(s:List aY),aA ν aD 76 [enc s,enc t] (enc (eD (dn s) t)):=I.ind λt ih s=>by
 refine aA.sy λm d=>?_;have o:=((I.j5 t).1 d).2.1;have p:M=1099511627776:=rfl;rw[C7,<-DG];cases a:eJ t with
 |true =>
  rw[if_pos rfl];cases de:jr s t.name with
  |some u =>
   refine aA.intro (D:=gr) PK cX c7 ?_;unfold JJ;simp(disch:=first|exact ai|fail) only[go_sem]
   (repeat' first|simp(disch:=first|exact ai|fail) only[go_sem,a,de,za]|(refine ao ?_ ?_<;>intro))
   all_goals rfl
  |none =>
   refine aA.intro (D:=gr) PK cX c7 ?_;unfold JJ;simp(disch:=first|exact ai|fail) only[go_sem]
   (repeat' first|simp(disch:=first|exact ai|fail) only[go_sem,a,de,za]|(refine ao ?_ ?_<;>intro))
   all_goals rfl
 |false =>
  rw[if_neg be];refine aA.gK (D:=gr) PK cX c7 i8 ?_;unfold JJ;refine bU @a ?_;refine bQ (λi:Nat=>⟨N [(0,.v (enc s)),(3,.v (.cL t.enc.cells)),(4,.b [.str [],.aS 2]),(7,.b [.str t.name,Hh ((t.args.take i).map (eD (dn s)))]),(8,.v (enc i))],[]⟩)
   (λi=>i<=t.args.length) (λi=>t.args.length-i) 0 (aqw _) (NW @aqU.{0} @aqI.{0,0} (show Hh []=.aS 2 from rfl)) ?_
  intro i al;rcases aqt i t.args.length with h|h
  ·have hd:=ih t.args[i]! (ek h) s;have c:=λ{K:AV->Prop}{tg:aN K}=>aKw (D:=gr) (K:=K) (tg:=tg) (x1:=enc s) (x2:=t.args[i]!.enc) hd;rw[show(enc s:AV)=.list none 3 (s.map aY.enc) from rfl]at c;obtain⟨L,cf⟩:∃L,L=(t.args.take i).map (eD (dn s)):=⟨_,rfl⟩;have g:L.length=i:=by rw[cf];simp;omega
   have ax:(t.args.take i++[t.args[i]!]).map (eD (dn s))=L++[eD (dn s) t.args[i]!]:=by rw[aqx,<-cf];rfl
   rw[<-cf];cases L with
   |nil =>
    rw[show Hh []=.aS 2 from rfl];refine gS @a @c ?_;exact⟨i+1,am,am,by(exact og @ax @Lw)⟩
   |cons x r =>
    rw[Lw x r];have j:r.length+1+1<=M:=by simp only[aL1]at g;omega
    refine mb @a @c @aqv.{0,0} @j ?_;exact⟨i+1,am,am,by(exact og @ax @Lw)⟩
  ·obtain rfl:i=t.args.length:=by omega
   rw[aKc];obtain⟨L,cf⟩:∃L,L=t.args.map (eD (dn s)):=⟨_,rfl⟩;rw[<-cf];cases L with
   |nil =>
    have b:t.args=[]:=List.map_eq_nil_iff.1 cf.symm;rw[show Hh []=.aS 2 from rfl,if_pos (by rw[b];rfl)];refine bU @a ?_;have k:t.enc=.agg [.str t.name,.list none 2 []]:=by obtain⟨n,l⟩:=t;simp only[I.args]at b;subst b;rfl
    exact⟨_,rfl,by rw[k];exact bx.agg (.cons (bx.refl _) (.cons (bx.aS _) .nil))⟩
   |cons x r =>
    have b:t.args.length≠0:=λe=>by rw[aPS.1 e]at cf;cases cf
    rw[Lw,if_neg b];refine bU @a ?_;exact⟨_,rfl,bx.agg (.cons (bx.refl _) (.cons (by rw[oj];exact bx.refl _) .nil))⟩
variable {x2:AV}
theorem aKV[bt D fR]{s:List aY}[aT x1 s][aT x2 t]  :b1 ν aD D 76 [x1,x2] K tg=K (enc (eD (dn s) t)):=ik (D':=fR) (F:=λ(s:List aY)(t:I)=>enc (eD (dn s) t)) (rX λ_=>rfl) (aKU t s)
attribute [go_sem ↓ 2000] aKV
theorem aKW(l:Lit):aA ν aD 126 [enc l] (enc (dB l)):=by
 refine aA.intro (D:=gr) azh cX c7 ?_;unfold aco;simp(disch:=first|exact ai|fail) only[go_sem];cases a:l.neg
 ·refine bU @a ?_;all_goals simp_all[dB,eG]
 ·(repeat' first|refine bU @a ?_|(refine ao ?_ ?_<;>intro))
  all_goals simp_all[dB,eG]
theorem aKX[bt D gr]{l:Lit}[aT x1 l]  :b1 ν aD D 126 [x1] K tg=K (enc (dB l)):=ec (D':=gr) (F:=λ(l:Lit)=>enc (dB l)) (vq λ_=>rfl) (aKW l)
attribute [go_sem ↓ 2000] aKX
theorem aKY(s:ak):aA ν aD 173 [enc s] (enc (decide (s≠[116,114,117,101]/\s≠[100,111,101,115]/\s≠eG))):=by
 refine aA.intro (D:=gr) azP cX c7 ?_;unfold adK;simp(disch:=first|exact ai|fail) only[go_sem]
 (repeat' first|refine ag ?_|(refine ao ?_ ?_<;>intro))
 all_goals simp_all[eG]
 rw[aLO];simp
variable {s:ak}
theorem aKZ[bt D gr][aT x1 s]  :b1 ν aD D 173 [x1] K tg=K (enc (decide (s≠[116,114,117,101]/\s≠[100,111,101,115]/\s≠eG))):=ec (D':=gr) (F:=λ(s:ak)=>enc (decide (s≠[116,114,117,101]/\s≠[100,111,101,115]/\s≠eG))) (vq λ_=>rfl) (aKY s)
attribute [go_sem ↓ 2000] aKZ
theorem aK0(l:List ak)(s:ak):aA ν aD 177 [enc l,enc s] (enc (l.contains s)):=by
 refine aA.h4 λae=>?_;obtain⟨ae,_⟩:=ae;have a:M=1099511627776:=rfl;refine aA.intro (D:=gr) azS cX c7 ?_;unfold adX;simp(disch:=first|exact ai|fail) only[go_sem];refine bQ (λ(i:Nat)=>⟨N [(0,.v (enc l)),(1,.v (enc s)),(5,.v (enc i))],[]⟩) (λ(i:Nat)=>i<=l.length/\l.contains s=(l.drop i).contains s) (λ(i:Nat)=>l.length-i) 0 cM ew ?_;rintro i ⟨al,ar⟩
 (repeat' first|simp(disch:=first|exact ai|fail) only[go_sem]|(refine ao ?_ ?_<;>intro))
 ·rename_i h;have:=eq_of_beq h
  rw[ar,fi am,this];simp
 ·rename_i h;exact⟨i+1,⟨am,by rw[ar,fi am,List.contains_cons];simp only[beq_eq_false_iff_ne]at h;rw[show(s==l[i]!)=false by simp only[beq_eq_false_iff_ne];exact λe=>h e.symm,aPw]⟩,am,co⟩
 ·rw[ar,aqV am];rfl
theorem aK1[bt D gr]{l:List ak}[aT x1 l][aT x2 s]  :b1 ν aD D 177 [x1,x2] K tg=K (enc (l.contains s)):=ik (D':=gr) (F:=λ(l:List ak)(s:ak)=>enc (l.contains s)) (vq λ_=>rfl) (aK0 l s)
attribute [go_sem ↓ 2000] aK1
theorem aK2(s:ak):aA ν aD 199 [enc s] (nm s):=by
 have a:(∀k∈kY,¬s=k.name)->ln s=none:=λh=>List.find?_eq_none.2 λk hk=>by simpa using λe=>h k hk e.symm
 refine aA.intro (D:=gr) az7 cX (by unfold nm;split<;>rfl) ?_;unfold aew
 (repeat' first|simp(disch:=first|exact ai|fail) only[go_sem]|(refine ao ?_ ?_<;>intro))
 all_goals first
  |(simp_all[nm,ln,kY];done)|rw[nm,a (by simp_all[kY])]
theorem aK3[bt D gr][aT x1 s]  :b1 ν aD D 199 [x1] K tg=K (nm s):=ec (D':=gr) (F:=λ(s:ak)=>nm s) (vq λ_=>rfl) (aK2 s)
attribute [go_sem ↓ 2000] aK3
theorem aK4:∀t:I,aA ν aD 201 [enc t] (enc (aqE (iK t))):=I.ind λt ih=>by
 refine aA.h4 λae=>?_;obtain⟨_,ae,_⟩:=(I.j5 t).1 ae;have e:M=1099511627776:=rfl;rw[QV];refine aA.intro (D:=gr) az9 cX c7 ?_;unfold aeC;simp(disch:=first|exact ai|fail) only[go_sem];refine bQ (λ(i:Nat)=>⟨N [(1,.v (.cL t.enc.cells)),(3,.v (enc i))],[]⟩) (λ(i:Nat)=>i<=t.args.length/\(t.args.drop i).any iK=t.args.any iK) (λ(i:Nat)=>t.args.length-i) 0 cM ci ?_;rintro i ⟨g,a⟩;rcases aqt i t.args.length with h|h
 ·have c:=λ{K:AV->Prop}{tg:aN K}(d:i<t.args.length)=>aKS (D:=gr) (K:=K) (tg:=tg) (x1:=t.args[i]!.enc) (ih t.args[i]! (ek d));rw[fi h,List.any_cons]at a;cases b:iK t.args[i]! with
  |true =>
   rw[b,Bool.true_or]at a;rw[<-a,Bool.or_true]
   (repeat' first|simp(disch:=first|exact ai|fail) only[go_sem,c,b]|(refine ao ?_ ?_<;>intro))
   all_goals rfl
  |false =>
   rw[b,aPw]at a
   (repeat' first|simp(disch:=first|exact ai|fail) only[go_sem,c,b]|(refine ao ?_ ?_<;>intro))
   exact⟨i+1,⟨am,a⟩,am,co⟩
 ·rw[aqV h]at a;rw[<-a,List.any_nil,Bool.or_false]
  (repeat' first|simp(disch:=first|exact ai|fail) only[go_sem]|(refine ao ?_ ?_<;>intro))
  rw[show(!decide (4<t.args.length))=decide ((t.args.length:Int)<=4) by rw[aLO];simp;omega]
theorem aK5[bt D gr][aT x1 t]  :b1 ν aD D 201 [x1] K tg=K (enc (aqE (iK t))):=ec (D':=gr) (F:=λ(t:I)=>enc (aqE (iK t))) (vq λ_=>rfl) (aK4 t)
attribute [go_sem ↓ 2000] aK5
theorem aK6:∀t:I,aA ν aD 200 [enc t] (enc (aqE (t.args.any gM))):=I.ind λt ih=>by
 refine aA.h4 λae=>?_;obtain⟨_,ae,_⟩:=(I.j5 t).1 ae;have q:M=1099511627776:=rfl;refine aA.intro (D:=gr) az8 cX c7 ?_;unfold aez;simp(disch:=first|exact ai|fail) only[go_sem];refine bQ (λ(i:Nat)=>⟨N [(1,.v (.cL t.enc.cells)),(3,.v (enc i))],[]⟩) (λ(i:Nat)=>i<=t.args.length/\(t.args.drop i).any gM=t.args.any gM) (λ(i:Nat)=>t.args.length-i) 0 cM ci ?_;rintro i ⟨r,d⟩;rcases aqt i t.args.length with h|h
 ·have c:=λ{K:AV->Prop}{tg:aN K}(p:i<t.args.length)=>aKT (D:=gr) (K:=K) (tg:=tg) (x1:=t.args[i]!.enc) (ih t.args[i]! (ek p));rw[fi h,List.any_cons]at d;have o:=DO t.args[i]!.args.length;have hm:=Kn t.args[i]!;have ok:gM t.args[i]! = true->(false=aqE (t.args.any gM)):=λe=>by rw[<-d,e];rfl
  have m:gM t.args[i]! = false->(t.args.drop (i+1)).any gM=t.args.any gM:=λe=>by rw[<-d,e];rfl
  by_cases g:t.args[i]!.args.length=0
  ·have b:((t.args[i]!.args.length:Int)==0)=true:=by rw[o];exact decide_eq_true g
   have aG:t.args[i]!.args.any gM=false:=by rw[aPS.1 g];rfl
   rw[if_pos g]at hm;cases a:dM t.args[i]!.name<;>cases j:fw t.args[i]!.name<;>cases k:eg t.args[i]!.name;all_goals
    rw[a,j,k]at hm;first
    |(have e:=ok hm
      rw[<-e]
      (repeat' first|simp(disch:=first|exact ai|fail) only[go_sem,c,b,aG,a,CL j,k]|(refine ao ?_ ?_<;>intro))
      all_goals rfl)
    |(have e:=ok hm
      rw[<-e]
      (repeat' first|simp(disch:=first|exact ai|fail) only[go_sem,c,b,aG,a,CK j,k]|(refine ao ?_ ?_<;>intro))
      all_goals rfl)
    |(have e:=m hm
      (repeat' first|simp(disch:=first|exact ai|fail) only[go_sem,c,b,aG,a,CL j,k]|(refine ao ?_ ?_<;>intro))
      exact⟨i+1,⟨am,e⟩,am,co⟩)
    |(have e:=m hm
      (repeat' first|simp(disch:=first|exact ai|fail) only[go_sem,c,b,aG,a,CK j,k]|(refine ao ?_ ?_<;>intro))
      exact⟨i+1,⟨am,e⟩,am,co⟩)
  ·have b:((t.args[i]!.args.length:Int)==0)=false:=by rw[o];exact decide_eq_false g
   rw[if_neg g]at hm;have l:ix t.args[i]!.name=.bg [.int .i64 ((fw t.args[i]!.name).getD 0:Nat),.bool (fw t.args[i]!.name).isSome]:=rfl;cases a:dM t.args[i]!.name<;>cases n:t.args[i]!.args.any gM;all_goals
    rw[a,n]at hm;first
    |(have e:=ok hm
      rw[<-e]
      (repeat' first|simp(disch:=first|exact ai|fail) only[go_sem,c,b,a,n,l]|(refine ao ?_ ?_<;>intro))
      all_goals rfl)
    |(have e:=m hm
      (repeat' first|simp(disch:=first|exact ai|fail) only[go_sem,c,b,a,n,l]|(refine ao ?_ ?_<;>intro))
      exact⟨i+1,⟨am,e⟩,am,co⟩)
 ·rw[aqV h]at d;rw[<-d,List.any_nil]
  (repeat' first|simp(disch:=first|exact ai|fail) only[go_sem]|(refine ao ?_ ?_<;>intro))
  all_goals rfl
theorem aK7[bt D gr][aT x1 t]  :b1 ν aD D 200 [x1] K tg=K (enc (aqE (t.args.any gM))):=ec (D':=gr) (F:=λ(t:I)=>enc (aqE (t.args.any gM))) (vq λ_=>rfl) (aK6 t)
attribute [go_sem ↓ 2000] aK7
theorem aK8(s:ak):aA ν aD 174 [enc s] (enc (zc s)):=by
 unfold zc;cases hk:ln s with
 |none =>
  have a:nm s=.bg [.int .i64 0,.bool false]:=by rw[nm,hk]
  refine aA.intro (D:=gr) afr cX c7 ?_;unfold PF;simp(disch:=first|exact ai|fail) only[go_sem]
  (repeat' first|simp(disch:=first|exact ai|fail) only[go_sem,a]|(refine ao ?_ ?_<;>intro))
  all_goals rfl
 |some k =>
  have a:nm s=.bg [.int .i64 k.args,.bool true]:=by rw[nm,hk]
  have hm:=List.mem_of_find?_eq_some hk;have ax:=List.find?_some hk;simp only[beq_iff_eq]at ax;simp only[kY,aLY,aPT,or_false]at hm;subst ax;refine aA.intro (D:=gr) afr cX c7 ?_;unfold PF;simp(disch:=first|exact ai|fail) only[go_sem]
  (repeat' first|simp(disch:=first|exact ai|fail) only[go_sem,a]|(refine ao ?_ ?_<;>intro))
  all_goals (rcases hm with rfl|rfl|rfl|rfl|rfl|rfl|rfl|rfl|rfl|rfl<;>simp_all)
theorem aK9[bt D gr][aT x1 s]  :b1 ν aD D 174 [x1] K tg=K (enc (zc s)):=ec (D':=gr) (F:=λ(s:ak)=>enc (zc s)) (vq λ_=>rfl) (aK8 s)
attribute [go_sem ↓ 2000] aK9
theorem aLa(t:I)(hd:cc t<=1000000):aA ν aD 172 [enc t] (enc (vp t)):=by
 have c:decide ((cc t:Int)>4)=decide (4<cc t):=by rw[aLO];simp;omega
 unfold vp;cases b:dM t.name with
 |false =>
  cases hk:ln t.name with
  |none =>
   have a:nm t.name=.bg [.int .i64 0,.bool false]:=by rw[nm,hk]
   refine aA.intro (D:=gr) JR cX c7 ?_;unfold FJ;simp(disch:=first|exact ai|fail) only[go_sem]
   (repeat' first|simp(disch:=first|exact ai|fail) only[go_sem,a,b]|(refine ao ?_ ?_<;>intro))
   all_goals rfl
  |some k =>
   have a:nm t.name=.bg [.int .i64 k.args,.bool true]:=by rw[nm,hk]
   refine aA.intro (D:=gr) JR cX c7 ?_;unfold FJ;simp(disch:=first|exact ai|fail) only[go_sem]
   (repeat' first|simp(disch:=first|exact ai|fail) only[go_sem,a,b]|(refine ao ?_ ?_<;>intro))
   all_goals rfl
 |true =>
  cases d:t.args.any gM<;>cases e:iK t<;>cases g:decide (4<cc t);all_goals
   cases hk:ln t.name with
   |none =>
    have a:nm t.name=.bg [.int .i64 0,.bool false]:=by rw[nm,hk]
    refine aA.intro (D:=gr) JR cX c7 ?_;unfold FJ;simp(disch:=first|exact ai|fail) only[go_sem];refine oX @a @b @d @e @c @g ?_;all_goals first|(simp_all;done)|(simp_all;rw[if_neg am];rfl)
   |some k =>
    have a:nm t.name=.bg [.int .i64 k.args,.bool true]:=by rw[nm,hk]
    refine aA.intro (D:=gr) JR cX c7 ?_;unfold FJ;simp(disch:=first|exact ai|fail) only[go_sem]
    (repeat' first|refine oX @a @b @d @e @c @g ?_|(refine ao ?_ ?_<;>intro))
    all_goals first|(simp_all;done)|(simp_all;rw[if_neg am];rfl)
theorem aLb[bt D gr][aT x1 t](h:cc t<=1000000) :b1 ν aD D 172 [x1] K tg=K (enc (vp t)):=ec (D':=gr) (F:=λ(t:I)=>enc (vp t)) (vq λ_=>rfl) (aLa t h)
attribute [go_sem ↓ 2000] aLb
open Enc (enc)
noncomputable def TZ:List iZ:=[(136,eh λ(r:aU)=>enc (kG (dx r) true)),
 (138,eh λ(r:aU)=>enc (nL r)),
 (137,eh λ(r:aU)=>enc (hE (dx r))),
 (88,eh λ(r:aU)=>enc (fK r))]
noncomputable def lS:bj:=ij gr (e1 TZ)
instance aPp{D:bj}[h:bt D lS]:bt D gr:=h.ke
def T0:List Nat:=[136,138,137,88]++TY
theorem alC:fq lS T0:=fq.or alA (kf TZ)
theorem Lx(h:∀xs,e1 TZ f xs=F xs)(hk:TY.contains f=false:=by rfl):∀xs,lS f xs=F xs:=λxs=>by rw[<-h];exact kg alA hk
variable {r:aU}
theorem aLc[bt D lS][aT x1 r](h:aA ν aD 88 [enc r] (enc (fK r))):b1 ν aD D 88 [x1] K tg=K (enc (fK r)):=ec (D':=lS) (F:=λ(r:aU)=>enc (fK r)) (Lx λ_=>rfl) h
def Hi(s:ak):Bool:=match ln s with|some k=>k.head|none=>true
theorem aLd(s:ak):decide (s≠[116,114,117,101]/\s≠[100,111,101,115]/\s≠eG)=Hi s:=by
 unfold Hi;cases hk:ln s with
 |none =>
  have h:=List.find?_eq_none.1 hk;have f:∀k∈kY,s≠k.name:=λk hm e=>h k hm (by simp[e]);simp only[decide_eq_true_eq];exact⟨f ⟨[116,114,117,101],1,false,true⟩ (by simp[kY]),f ⟨[100,111,101,115],2,false,true⟩ (by simp[kY]),f ⟨[100,105,115,116,105,110,99,116],2,false,true⟩ (by simp[kY])⟩
 |some k =>
  have hm:=List.mem_of_find?_eq_some hk;have ax:=List.find?_some hk;simp only[beq_iff_eq]at ax;simp only[kY,aLY,aPT,or_false]at hm;subst ax;rcases hm with rfl|rfl|rfl|rfl|rfl|rfl|rfl|rfl|rfl|rfl<;>decide
theorem alD(t:I)(h:Bool):kj t h=if vp t≠0 then vp t else if(if h then Hi t.name else zc t.name)then 0 else 6:=by
 have hm:(!dM t.name||gM t)=(!dM t.name||t.args.any gM):=by
  rw[Kn];cases j:dM t.name with
  |false=>rfl|true =>
   by_cases c:t.args.length=0
   ·rw[if_pos c,aPS.1 c];simp
   ·rw[if_neg c];simp
 unfold kj vp Hi zc;rw[hm];generalize (!dM t.name||t.args.any gM)=a;generalize l:iK t=en;by_cases b:4<cc t
 ·cases ln t.name with
  |none=>cases a<;>cases en<;>cases h<;>simp[b]|some k =>
   obtain⟨o8,d,e,g⟩:=k;by_cases i:(t.args.length:Int)=d;all_goals cases a<;>cases en<;>cases h<;>cases e<;>cases g<;>simp[b,i]
 ·cases ln t.name with
  |none=>cases a<;>cases en<;>cases h<;>simp[b]|some k =>
   obtain⟨o8,d,e,g⟩:=k;by_cases i:(t.args.length:Int)=d;all_goals cases a<;>cases en<;>cases h<;>cases e<;>cases g<;>simp[b,i]
theorem aLe(r:aU)(m:∀a∈dx r,cc a<=1000000):aA ν aD 136 [enc r] (enc (kG (dx r) true)):=by
 refine aA.h4 λae=>?_;have p:r.body.length<=M:=ae.2.2.1;have q:M=1099511627776:=rfl;have u:=m r.head (by simp[dx]);have c:=aLd r.head.name;rw[dx,kG,alD];simp only[if_true];obtain⟨e,he⟩:∃e,e=vp r.head:=⟨_,rfl⟩;rw[<-he];by_cases d:e=0
 ·subst d;cases hk:Hi r.head.name with
  |false =>
   rw[hk]at c;refine aA.intro (D:=lS) PN cX c7 ?_;unfold JP;simp(disch:=first|exact ai|fail) only[go_sem]
   (repeat' first|refine gS (Eq.symm @he) @c ?_|(refine ao ?_ ?_<;>intro))
   all_goals rfl
  |true =>
   rw[hk]at c;simp only[ne_eq,not_true_eq_false,if_false,if_true];obtain⟨R,de⟩:∃R,R=kG (r.body.map Lit.atom) false:=⟨_,rfl⟩;rw[<-de];refine aA.intro (D:=lS) PN cX c7 ?_;unfold JP;simp(disch:=first|exact ai|fail) only[go_sem];refine gS (Eq.symm @he) @c ?_;refine bQ (λi:Nat=>⟨N [(1,.v (.cL r.enc.cells)),(4,.v (enc i))],[]⟩)
    (λi=>i<=r.body.length/\kG ((r.body.drop i).map Lit.atom) false=R) (λi=>r.body.length-i) 0 ⟨aqw _,de.symm⟩ ew ?_
   rintro i ⟨v,b⟩;rcases aqt i r.body.length with h|h
   ·have hd:=m r.body[i]!.atom (by simp only[dx,aLY,aLZ];exact .inr ⟨_,ek h,rfl⟩);rw[fi h,aqH,kG,alD]at b;simp only[Bool.false_eq_true,if_false]at b;obtain⟨g,j⟩:∃g,g=vp r.body[i]!.atom:=⟨_,rfl⟩;rw[<-j]at b;by_cases k:g=0
    ·subst k;cases l:zc r.body[i]!.atom.name with
     |true =>
      rw[l]at b;simp only[ne_eq,not_true_eq_false,if_false,if_true]at b;refine gS (Eq.symm @j) @l ?_;exact⟨i+1,⟨am,b⟩,am,co⟩
     |false =>
      rw[l]at b;rw[<-b]
      (repeat' first|simp(disch:=first|exact ai|fail) only[go_sem,<-j,l]|(refine ao ?_ ?_<;>intro))
      all_goals rfl
    ·have n:((g:Int) != 0)=true:=by simp[k]
     rw[if_pos k,if_neg k]at b;rw[<-b]
     (repeat' first|simp(disch:=first|exact ai|fail) only[go_sem,<-j,n]|(refine ao ?_ ?_<;>intro))
     all_goals rfl
   ·rw[aqV h]at b;rw[<-b]
    (repeat' first|simp(disch:=first|exact ai|fail) only[go_sem]|(refine ao ?_ ?_<;>intro))
    all_goals rfl
 ·have o:((e:Int) != 0)=true:=by simp[d]
  rw[if_pos d,if_neg mQ];refine aA.intro (D:=lS) PN cX c7 ?_;unfold JP;simp(disch:=first|exact ai|fail) only[go_sem]
  (repeat' first|simp(disch:=first|exact ai|fail) only[go_sem,<-he,o]|(refine ao ?_ ?_<;>intro))
  all_goals rfl
open Enc (enc)
def Bc:List aU->Nat->Nat×Nat
 |[],_=>(0,0)|r::rs,i=>if fK r=0 then Bc rs (i+1)else(i,fK r)
def rY(l:List aU):Nat×Nat:=if 128<l.length then(128,2)else Bc l 0
theorem alE:∀(l:List aU)(i:Nat),(Bc l i).2=((l.find? λr=>!(fK r==0)).map fK).getD 0
 |[],_=>rfl|r::rs,i=>by
  rw[Bc,List.find?_cons];by_cases h:fK r=0
  ·rw[if_pos h,alE rs];simp[h]
  ·rw[if_neg h,show(fK r==0)=false by simpa using h];rfl
theorem aLf(l:List aU):(rY l).2=hG l:=by
 unfold rY hG;split
 ·rfl
 ·exact alE l 0
noncomputable def T2:List iZ:=[(44,eh λ(l:List aU)=>.bg [.int .i64 ((rY l).1:Nat),.int .i64 ((rY l).2:Nat)])]
noncomputable def Bd:bj:=ij lS (e1 T2)
instance aPq{D:bj}[h:bt D Bd]:bt D lS:=h.ke
def alF:List Nat:=[44]++T0
theorem aLg:fq Bd alF:=fq.or alC (kf T2)
theorem aLh(h:∀xs,e1 T2 f xs=F xs)(hk:T0.contains f=false:=by rfl):∀xs,Bd f xs=F xs:=λxs=>by rw[<-h];exact kg alC hk
theorem aLi(l:List aU)(g:∀r∈l,aA ν aD 88 [enc r] (enc (fK r))):aA ν aD 44 [enc l] (.bg [.int .i64 ((rY l).1:Nat),.int .i64 ((rY l).2:Nat)]):=by
 refine aA.h4 λae=>?_;obtain⟨ae,_⟩:=ae;have m:M=1099511627776:=rfl;unfold rY;by_cases d:128<l.length
 ·rw[if_pos d];have hd:decide ((l.length:Int)>128)=true:=decide_eq_true am;refine aA.intro (D:=lS) ae6 cX c7 ?_;unfold Pd;simp(disch:=first|exact ai|fail) only[go_sem]
  (repeat' first|refine bU @hd ?_|(refine ao ?_ ?_<;>intro))
  all_goals rfl
 ·rw[if_neg d];have hd:decide ((l.length:Int)>128)=false:=decide_eq_false am;obtain⟨R,de⟩:∃R,R=Bc l 0:=⟨_,rfl⟩;rw[<-de];refine aA.intro (D:=lS) ae6 cX c7 ?_;unfold Pd;simp(disch:=first|exact ai|fail) only[go_sem];refine bU @hd ?_;refine bQ (λi:Nat=>⟨N [(0,.v (enc l)),(4,.v (enc i))],[]⟩)
   (λi=>i<=l.length/\Bc (l.drop i) i=R) (λi=>l.length-i) 0 ⟨aqw _,de.symm⟩ ew ?_
  rintro i ⟨n,a⟩;rcases aqt i l.length with h|h
  ·have b:=λ{K:AV->Prop}{tg:aN K}(j:i<l.length)=>aLc (D:=lS) (K:=K) (tg:=tg) (x1:=l[i]!.enc) (g l[i]! (ek j));rw[fi h,Bc]at a;obtain⟨e,he⟩:∃e,e=fK l[i]!:=⟨_,rfl⟩;rw[<-he]at a;simp only[<-he]at b;by_cases c:e=0
   ·subst c;rw[if_pos rfl]at a;refine bU @b ?_;exact⟨i+1,⟨am,a⟩,am,co⟩
   ·have k:((e:Int) != 0)=true:=by simp[c]
    rw[if_neg c]at a;rw[<-a]
    (repeat' first|simp(disch:=first|exact ai|fail) only[go_sem,b,k]|(refine ao ?_ ?_<;>intro))
    all_goals rfl
  ·rw[aqV h]at a;rw[<-a]
   (repeat' first|simp(disch:=first|exact ai|fail) only[go_sem]|(refine ao ?_ ?_<;>intro))
   all_goals rfl
open Enc (enc)
noncomputable def aLj:List AV->Option AV
 |[.aS 1,y]=>eh (λt:I=>enc ((ck t).foldl gL [])) [y]|_=>none
noncomputable def alG:List iZ:=[(175,aLj)]
noncomputable def rZ:bj:=ij Bd (e1 alG)
instance aPr{D:bj}[h:bt D rZ]:bt D Bd:=h.ke
def T3:List Nat:=[175]++alF
theorem alH:fq rZ T3:=fq.or aLg (kf alG)
theorem aLk(h:eJ t=true):ck t=[t.name]/\eg t.name=true:=by
 rw[zb,Bool.and_eq_true]at h;exact⟨by rw[nJ,if_pos (of_decide_eq_true h.1)],h.2⟩
theorem aLl(h:eJ t=false)(a:t.args.length=0)(ys:List ak):(ck t).foldl gL ys=ys:=by
 rw[zb,decide_eq_true a,Bool.true_and]at h;rw[nJ,if_pos a];simp only[List.foldl_cons,aPP];exact Qs h
theorem alI:∀(t:I)(x:AV)(ys:List ak)(H:List ay),t.eS->wX x ys->ys.length+(ck t).length<=1000000 ->
  bB ν aD 175 [x,t.enc] H λr H'=>wX r ((ck t).foldl gL ys)/\H'=H:=I.ind λt ih x ys H z o hd=>by
 obtain⟨_,ae,A⟩:=(I.j5 t).1 z;have E:M=1099511627776:=rfl;refine bB.intro (D:=lS) azQ ?_;unfold adQ;cases c:eJ t with
 |true =>
  obtain⟨q,u⟩:=aLk c;rw[q]at hd ⊢;simp only[aL1,aL0,List.foldl_cons,aPP]at hd ⊢;rcases o with⟨rfl,rfl⟩|rfl
  ·refine bU @c ?_;refine bQ (λi:Nat=>⟨N [(0,.v (.aS 1)),(3,.v (.cL t.enc.cells)),(5,.v (enc i))],H⟩) (λi=>i=0) (λi=>0) 0 rfl ew ?_;rintro i rfl;refine ag ?_;exact⟨_,rfl,.inr (by simp[gL,u])⟩
  ·refine bU @c ?_;refine bQ (λi:Nat=>⟨N [(0,.v (.list (some 9) 1 (ys.map .str))),(3,.v (.cL t.enc.cells)),(5,.v (enc i))],H⟩) (λi=>i<=ys.length/\ys.contains t.name=(ys.drop i).contains t.name) (λi=>ys.length-i) 0 ⟨aqw _,rfl⟩ ew ?_;rintro i ⟨v,a⟩;rcases aqt i ys.length with h|h
   ·cases d:ys[i]! ==t.name with
    |true =>
     have he:=eq_of_beq d;have b:ys.contains t.name=true:=by rw[a,fi h,he];simp
     refine bU @d ?_;exact⟨_,rfl,.inr (by rw[Qt b])⟩
    |false =>
     refine bU @d ?_;exact⟨i+1,⟨am,by rw[a,fi h,List.contains_cons,show(t.name==ys[i]!)=false by simp only[beq_eq_false_iff_ne]at d ⊢;exact λe=>d e.symm,aPw]⟩,am,co⟩
   ·have b:ys.contains t.name=false:=by rw[a,aqV h];rfl
    refine ag ?_;exact⟨_,rfl,.inr (by rw[Qr u b];simp)⟩
 |false =>
  have k:=nJ t;refine bU @c ?_;refine bQ (λp:Nat×AV=>⟨N [(0,.v p.2),(3,.v (.cL t.enc.cells)),(6,.v (enc p.1))],H⟩)
   (λp=>p.1<=t.args.length/\wX p.2 ((bF (t.args.take p.1)).foldl gL ys)) (λp=>t.args.length-p.1) (0,x) ⟨be,by simpa[bF]using o⟩ ew ?_
  rintro⟨i,y⟩ ⟨v,a⟩;simp only at v a;rcases aqt i t.args.length with h|h
  ·have g:¬t.args.length=0:=by omega
   rw[if_neg g]at k;rw[k]at hd;have q:=CW h;have G:=GL (bF (t.args.take i)) ys;have b:=λH=>ih t.args[i]! (ek h) y _ H (A _ (ek h)) a am;have B:bF (t.args.take (i+1))=bF (t.args.take i)++ck t.args[i]!:=by rw[bL h,yF]
   have l:(bF (t.args.take (i+1))).foldl gL ys=(ck t.args[i]!).foldl gL ((bF (t.args.take i)).foldl gL ys):=by rw[B,List.foldl_append]
   obtain⟨j,m⟩:∃j,j=(bF (t.args.take i)).foldl gL ys:=⟨_,rfl⟩;rw[<-m]at a b l;rcases a with⟨rfl,J⟩|rfl
   all_goals
    (repeat' first|simp(disch:=first|exact ai|fail) only[go_sem]|(refine ao ?_ ?_<;>intro)|(refine iJ ⟨b _,_,_,.inr rfl,rfl⟩ ?_;(rintro r H' ⟨C,rfl⟩);(rcases C with⟨rfl,n⟩|rfl)))
    ·exact⟨(i+1,.aS 1),⟨ap,.inl ⟨rfl,by rw[l];exact n⟩⟩,ap,co⟩
    ·exact⟨(i+1,_),⟨ap,.inr (by rw[l])⟩,ap,co⟩
  ·have w:wX y ((ck t).foldl gL ys):=by
    by_cases g:t.args.length=0
    ·rw[aLl c g];rw[aPS.1 g]at a;simpa[bF]using a
    ·rw[if_neg g]at k;rw[k,<-aqB h];exact a
   obtain⟨j,m⟩:∃j,j=(ck t).foldl gL ys:=⟨_,rfl⟩;rw[<-m]at w ⊢;rcases w with⟨rfl,n⟩|rfl
   ·refine ag ?_;exact⟨_,rfl,.inl ⟨rfl,n⟩⟩
   ·refine ag ?_;exact⟨_,rfl,.inr rfl⟩
theorem aLm(r:aU)(h:(bF (dx r)).length<=1000000):aA ν aD 137 [enc r] (enc (hE (dx r))):=by
 refine aA.h4 λae=>?_;have J:r.body.length<=M:=ae.2.2.1;have v:r.head.eS:=(I.j5 _).2 ⟨ae.1,ae.2.1⟩;have m:=ae.2.2.2;have L:M=1099511627776:=rfl;have cf:bF (dx r)=ck r.head++bF (r.body.map Lit.atom):=rfl;have w:hE (dx r)=(bF (r.body.map Lit.atom)).foldl gL ((ck r.head).foldl gL []):=by rw[hE,o5,cf,List.foldl_append]
 rw[cf,aqT]at h;have x:(ck r.head).length<=1000000:=by omega
 obtain⟨Z,g⟩:∃Z,Z=(ck r.head).foldl gL []:=⟨_,rfl⟩;have z:Z.length<=(ck r.head).length:=by have:=GL (ck r.head) [];rw[<-g]at this;simpa using this
 have n:=λH=>alI r.head (.aS 1) [] H v (.inl ⟨rfl,rfl⟩) (by simpa using x);rw[w,<-g];simp only[<-g]at n;refine aA.gK (D:=lS) azq cX c7 i8 ?_;unfold acL
 (repeat' first|simp(disch:=first|exact ai|fail) only[go_sem]|(refine ao ?_ ?_<;>intro)|(refine iJ ⟨n _,_,_,.inr rfl,rfl⟩ ?_;(rintro y A ⟨d,rfl⟩);(rcases d with⟨rfl,B⟩|rfl)))
 case' inl=>(obtain⟨a,o,e⟩:∃a,wX a Z/\AV.aS 1=a:=⟨_,.inl ⟨rfl,B⟩,rfl⟩;rw[e])
 case' inr=>(obtain⟨a,o,e⟩:∃a,wX a Z/\AV.list (some 9) 1 (Z.map .str)=a:=⟨_,.inr rfl,rfl⟩;rw[e])
 all_goals
  refine bQ (λp:Nat×AV=>⟨N [(1,.v (.cL r.enc.cells)),(3,.v p.2),(4,.v (enc p.1))],[]⟩)
   (λp=>p.1<=r.body.length/\wX p.2 ((bF ((r.body.take p.1).map Lit.atom)).foldl gL Z)) (λp=>r.body.length-p.1) (0,a) ⟨be,by simpa[bF]using o⟩ ew ?_
  rintro⟨i,y⟩ ⟨C,b⟩;simp only at C b;rcases aqt i r.body.length with h|h
  ·have q:bF ((r.body.take (i+1)).map Lit.atom)=bF ((r.body.take i).map Lit.atom)++ck r.body[i]!.atom:=by rw[bL h,aqx];exact yF _ _
   have j:(bF ((r.body.take (i+1)).map Lit.atom)).foldl gL Z=(ck r.body[i]!.atom).foldl gL ((bF ((r.body.take i).map Lit.atom)).foldl gL Z):=by rw[q,List.foldl_append]
   have k:(bF ((r.body.take (i+1)).map Lit.atom)).length<=(bF (r.body.map Lit.atom)).length:=Dr ((List.take_sublist _ _).map _);rw[q,aqT]at k;have O:=GL (bF ((r.body.take i).map Lit.atom)) Z;have u:=λH=>alI r.body[i]!.atom y _ H ((I.j5 _).2 ⟨(m _ (ek h)).1,(m _ (ek h)).2⟩) b am;obtain⟨c,l⟩:∃c,c=(bF ((r.body.take i).map Lit.atom)).foldl gL Z:=⟨_,rfl⟩;rw[<-l]at b u j;rcases b with⟨rfl,d⟩|rfl
   all_goals
    (repeat' first|simp(disch:=first|exact ai|fail) only[go_sem]|(refine ao ?_ ?_<;>intro)|(refine iJ ⟨u _,_,_,.inr rfl,rfl⟩ ?_;(rintro P A ⟨E,rfl⟩);(rcases E with⟨rfl,G⟩|rfl)))
    ·exact⟨(i+1,.aS 1),⟨ap,.inl ⟨rfl,by rw[j];exact G⟩⟩,ap,co⟩
    ·exact⟨(i+1,_),⟨ap,.inr (by rw[j])⟩,ap,co⟩
  ·rw[aqB h]at b;obtain⟨c,l⟩:∃c,c=(bF (r.body.map Lit.atom)).foldl gL Z:=⟨_,rfl⟩;rw[<-l]at b ⊢;rcases b with⟨rfl,d⟩|rfl
   ·refine ag ?_;exact⟨_,rfl,by rw[d];exact bx.aS _⟩
   ·refine ag ?_;exact⟨_,rfl,bx.disown _ _ _⟩
theorem aLn[bt D lS][aT x1 r](h:(bF (dx r)).length<=1000000) :b1 ν aD D 137 [x1] K tg=K (enc (hE (dx r))):=ec (D':=lS) (F:=λ(r:aU)=>enc (hE (dx r))) (Lx λ_=>rfl) (aLm r h)
attribute [go_sem ↓ 2000] aLn
open Enc (enc)
theorem aLo[bt D lS][aT x1 r](h:∀a∈dx r,cc a<=1000000) :b1 ν aD D 136 [x1] K tg=K (enc (kG (dx r) true)):=ec (D':=lS) (F:=λ(r:aU)=>enc (kG (dx r) true)) (Lx λ_=>rfl) (aLe r h)
attribute [go_sem ↓ 2000] aLo
def p7(r:aU)(n:Nat):List ak:=((r.body.take n).filter dB).flatMap λl=>hE [l.atom]
def nT(r:aU)(n:Nat):List ak:=hE [r.head]++((r.body.take n).filter λl=>!dB l).flatMap λl=>hE [l.atom]
theorem aLp(r:aU):((nT r r.body.length).all λv=>(p7 r r.body.length).contains v)=nL r:=by
 have a:∀v,v∈nT r r.body.length↔v∈hE (w3 r):=λv=>by
  simp only[nT,aKc,List.mem_append,List.mem_flatMap,KV,AT,w3,aLY,aLZ,List.mem_filter,aPT,or_false];grind
 have b:∀v,v∈p7 r r.body.length↔v∈hE (AB r):=λv=>by
  simp only[p7,aKc,List.mem_flatMap,KV,AT,AB,aLY,aLZ,List.mem_filter,aPT,or_false];grind
 rw[nL,aLO,List.all_eq_true,List.all_eq_true];simp only[List.contains_iff_mem,a,b]
theorem T4(c:∀a∈dx r,(bF [a]).length<=1000000){p:Lit->Bool}{n:Nat}:(((r.body.take n).filter p).flatMap λl=>hE [l.atom]).length<=r.body.length*1000000:=by
 refine ax6 (GK (b:=1000000) _ λl d=>ax6 (Ds _) (c _ ?_)) (Nat.mul_le_mul_right _ (GC (p:=p) (l:=r.body) (i:=n)));simp only[dx,aLY,aLZ];exact .inr ⟨l,List.mem_of_mem_take (List.mem_filter.1 d).1,rfl⟩
theorem aLq(r:aU)(u:r.body.length<=100000)(c:∀a∈dx r,(bF [a]).length<=1000000):aA ν aD 138 [enc r] (enc (nL r)):=by
 have w:M=1099511627776:=rfl;have x:=c r.head (by simp[dx]);rw[<-aLp];refine aA.intro (D:=rZ) azr cX c7 ?_;unfold acP;simp(disch:=first|exact ai|fail) only[go_sem]
 (repeat' first|refine ag ?_|(refine ao ?_ ?_<;>intro))
 refine bQ (λi:Nat=>⟨N [(1,.v (.cL r.enc.cells)),(3,.v (.list (some 9) 1 ((p7 r i).map .str))),(4,.v (.list (some 9) 1 ((nT r i).map .str))),(5,.v (enc i))],[]⟩) (λi=>i<=r.body.length) (λi=>r.body.length-i) 0 (aqw _) (by(try simp(disch:=first|exact ai|fail) only[go_sem])<;>(first|rfl|(simp(disch:=first|exact aX|fail) only[b7,avQ,avR,Env.ins,cp,cq,cr,ct,cu,cv,cw,cx,I.b0,aqv,avS,avT,avX,aqU,bL,aqx,aqH,aqI,cy,cz,go_sem,p7,nT,List.filter_nil,List.flatMap_nil,aPU];try rfl))) ?_;intro i al;rcases aqt i r.body.length with h|h
 ·have aG:=c r.body[i]!.atom (by simp only[dx,aLY,aLZ];exact .inr ⟨_,ek h,rfl⟩);have j:=yT (p:=dB) h;have k:=yT (p:=λl=>!dB l) h;have y:(p7 r i).length<=r.body.length*1000000:=T4 c;have m:(nT r i).length<=1000000+r.body.length*1000000:=by
   have:=T4 c (p:=λl=>!dB l) (n:=i);have:=Ds [r.head];rw[nT,aqT];omega
  have z:=Ds [r.body[i]!.atom];cases ae:dB r.body[i]! with
  |true =>
   have e:p7 r (i+1)=p7 r i++hE [r.body[i]!.atom]:=by rw[p7,j,if_pos ae,List.flatMap_append];simp[p7]
   have g:nT r (i+1)=nT r i:=by rw[nT,k,if_neg (by rw[ae];simp),nT]
   refine bU @ae ?_;exact⟨i+1,am,am,by rw[e,g];(exact bl)⟩
  |false =>
   have e:p7 r (i+1)=p7 r i:=by rw[p7,j,if_neg (by rw[ae];simp),p7]
   have g:nT r (i+1)=nT r i++hE [r.body[i]!.atom]:=by rw[nT,k,if_pos (by rw[ae];simp),List.flatMap_append,nT,aPQ];simp
   refine bU @ae ?_;exact⟨i+1,am,am,by rw[e,g];(exact bl)⟩
 ·obtain rfl:i=r.body.length:=by omega
  have m:(nT r r.body.length).length<=1000000+r.body.length*1000000:=by
   have:=T4 c (p:=λl=>!dB l) (n:=r.body.length);have:=Ds [r.head];rw[nT,aqT];omega
  obtain⟨V,o⟩:∃V,V=nT r r.body.length:=⟨_,rfl⟩;obtain⟨W,q⟩:∃W,W=p7 r r.body.length:=⟨_,rfl⟩;rw[<-o]at m ⊢;rw[<-q];refine ag ?_;refine bQ (λi:Nat=>⟨N [(3,.v (.list (some 9) 1 (W.map .str))),(4,.v (.list (some 9) 1 (V.map .str))),(7,.v (enc i))],[]⟩) (λi=>i<=V.length/\((V.drop i).all λv=>W.contains v)=V.all λv=>W.contains v) (λi=>V.length-i) 0 ⟨aqw _,rfl⟩ ew ?_;clear al h;rintro i ⟨A,b⟩;rcases aqt i V.length with h|h
  ·rw[fi h,List.all_cons]at b;cases d:W.contains V[i]! with
   |true =>
    rw[d,Bool.true_and]at b;refine bU @d ?_;exact⟨i+1,⟨am,b⟩,am,co⟩
   |false =>
    rw[d,aPR]at b;rw[<-b]
    (repeat' first|simp(disch:=first|exact ai|fail) only[go_sem,d]|(refine ao ?_ ?_<;>intro))
    all_goals rfl
  ·rw[aqV h]at b;rw[<-b]
   (repeat' first|simp(disch:=first|exact ai|fail) only[go_sem]|(refine ao ?_ ?_<;>intro))
   all_goals rfl
theorem aLr[bt D lS][aT x1 r](h:r.body.length<=100000/\∀a∈dx r,(bF [a]).length<=1000000) :b1 ν aD D 138 [x1] K tg=K (enc (nL r)):=ec (D':=lS) (F:=λ(r:aU)=>enc (nL r)) (Lx λ_=>rfl) (aLq r h.1 h.2)
attribute [go_sem ↓ 2000] aLr
theorem aLs(r:aU)(A:∀a∈dx r,cc a<=1000000):aA ν aD 88 [enc r] (enc (fK r)):=by
 have B:M=1099511627776:=rfl;rcases aqt 8 r.body.length with h|h
 ·have g:fK r=2:=if_pos h;rw[g];refine aA.intro (D:=rZ) yy cX c7 ?_;unfold wP;simp(disch:=first|exact ai|fail) only[go_sem]
  (repeat' first|refine ag ?_|(refine ao ?_ ?_<;>intro))
  all_goals rfl
 ·obtain⟨e,he⟩:∃e,e=kG (dx r) true:=⟨_,rfl⟩;rcases Nat.eq_zero_or_pos e with i|i
  ·subst i;have m:=λa(aG:a∈dx r)=>KU he.symm a aG;have d:∀a∈dx r,(ck a).length<=256:=λa aG=>by obtain⟨_,q⟩:=m a aG;exact GG (n:=4) (RK q).1
   have C:(bF (dx r)).length<=1000000:=by
    have E:=GF (b:=256) (dx r) d;have o:(dx r).length<=9:=by simp only[dx,aL1,aqv];omega
    have G:(dx r).length*256<=9*256:=Nat.mul_le_mul_right _ o;omega
   have p:r.body.length<=100000/\∀a∈dx r,(bF [a]).length<=1000000:=⟨am,λa aG=>by have:=d a aG;simp[bF];omega⟩;have u:fK r=if 5<(hE (dx r)).length then 11 else if !nL r then 7 else if r.head.name==w2&&(decide (0<r.body.length)||decide (0<r.head.args[0]!.args.length)||!dM r.head.args[0]!.name)then 8 else 0:=by
    rw[fK,if_neg am,if_neg (by rw[<-he];simp)]
   have H:=Ds (dx r);rw[u];rcases aqt 5 (hE (dx r)).length with j|j
   ·rw[if_pos j];refine aA.intro (D:=rZ) yy cX c7 ?_;unfold wP;simp(disch:=first|exact ai|fail) only[go_sem]
    (repeat' first|refine bU (Eq.symm @he) ?_|(refine ao ?_ ?_<;>intro))
    all_goals rfl
   ·rw[if_neg am];cases ax:nL r with
    |false =>
     refine aA.intro (D:=rZ) yy cX c7 ?_;unfold wP;simp(disch:=first|exact ai|fail) only[go_sem]
     (repeat' first|refine gS (Eq.symm @he) @ax ?_|(refine ao ?_ ?_<;>intro))
     all_goals rfl
    |true =>
     cases c:r.head.name==[114,111,108,101]with
     |false =>
      refine aA.intro (D:=rZ) yy cX c7 ?_;unfold wP;simp(disch:=first|exact ai|fail) only[go_sem]
      (repeat' first|refine iv (Eq.symm @he) @ax @c ?_|(refine ao ?_ ?_<;>intro))
      all_goals simp[w2,c]
     |true =>
      have J:r.head.args.length=1:=by
       have v:kj r.head true=0:=by
        rw[dx,kG]at he;by_cases ah:kj r.head true=0
        ·exact ah
        ·rw[if_neg ah]at he;exact he.symm
       exact ai5 v (beq_iff_eq.1 c)
      have w:0<r.head.args.length:=by omega
      have x:(r.head.name==w2)=true:=c;rw[x];rcases aqt 0 r.body.length with k|k
      ·rw[decide_eq_true k];refine aA.intro (D:=rZ) yy cX c7 ?_;unfold wP;simp(disch:=first|exact ai|fail) only[go_sem]
       (repeat' first|refine iv (Eq.symm @he) @ax @c ?_|(refine ao ?_ ?_<;>intro))
       all_goals rfl
      ·rw[decide_eq_false am];rcases aqt 0 r.head.args[0]!.args.length with l|l
       ·rw[decide_eq_true l];refine aA.intro (D:=rZ) yy cX c7 ?_;unfold wP;simp(disch:=first|exact ai|fail) only[go_sem]
        (repeat' first|refine iv (Eq.symm @he) @ax @c ?_|(refine ao ?_ ?_<;>intro))
        all_goals rfl
       ·rw[decide_eq_false am];cases y:dM r.head.args[0]!.name;all_goals
         refine aA.intro (D:=rZ) yy cX c7 ?_;unfold wP;simp(disch:=first|exact ai|fail) only[go_sem]
         (repeat' first|refine mb (Eq.symm @he) @ax @c @y ?_|(refine ao ?_ ?_<;>intro))
         all_goals rfl
  ·have z:((e:Int) != 0)=true:=by simp;omega
   have g:fK r=e:=by rw[fK,if_neg am,if_pos am,he]
   rw[g];refine aA.intro (D:=rZ) yy cX c7 ?_;unfold wP;simp(disch:=first|exact ai|fail) only[go_sem]
   (repeat' first|simp(disch:=first|exact ai|fail) only[go_sem,<-he,z]|(refine ao ?_ ?_<;>intro))
   all_goals rfl
theorem aLt(l:List aU)(hd:∀r∈l,∀a∈dx r,cc a<=1000000):aA ν aD 44 [enc l] (.bg [.int .i64 ((rY l).1:Nat),.int .i64 ((rY l).2:Nat)]):=aLi l λr b=>aLs r (hd r b)
theorem aLu[bt D Bd]{l:List aU}[aT x1 l](h:∀r∈l,∀a∈dx r,cc a<=1000000) :b1 ν aD D 44 [x1] K tg=K (.bg [.int .i64 ((rY l).1:Nat),.int .i64 ((rY l).2:Nat)]):=ec (D':=Bd) (F:=λ(l:List aU)=>.bg [.int .i64 ((rY l).1:Nat),.int .i64 ((rY l).2:Nat)]) (aLh λ_=>rfl) (aLt l h)
attribute [go_sem ↓ 2000] aLu
open Enc (enc)
theorem aLC[bt D fR]{x3:AV}{p:I}{s:List aY}[aT x1 p][aT x2 t][aT x3 s](h:s.length+(ck p).length<=1000000) :b1 ν aD D 127 [x1,x2,x3] K tg=K (mz (hx p t s)):=u2 (D':=fR) (F:=λ(p:I)(t:I)(s:List aY)=>mz (hx p t s)) (rX λ_=>rfl) (aKR p t s h)
attribute [go_sem ↓ 2000] aLC
def lT:Bool->List aY->AV
 |true,[]=>.aS 3|_,s=>.list none 3 (s.map aY.enc)
theorem alN:lT true []=.aS 3:=rfl
theorem LB(s:List aY):lT false s=.list none 3 (s.map aY.enc):=by cases s<;>rfl
theorem alO{P:AV->Prop}(c:P (.aS 3))(a:∀xs,P (.list none 3 xs))(b:Bool)(s:List aY):P (lT b s):=by
 cases b
 ·rw[LB];exact a _
 ·cases s
  ·exact c
  ·exact a _
theorem aLD(b:Bool)(s:List aY):(lT b s).cells=[lT b s]:=alO (P:=λx=>x.cells=[x]) rfl (λ_=>rfl) b s
theorem aLE(b:Bool)(s:List aY):(lT b s).a1=lT b s:=alO (P:=λx=>x.a1=x) rfl (λ_=>rfl) b s
theorem aLF(b:Bool)(s:List aY):(lT b s).pure=true:=(show(lT b s).pure=true by
 cases b
 ·rw[LB];exact Enc.arg (α:=List aY) s
 ·cases s
  ·rfl
  ·rename_i x l;exact Enc.arg (α:=List aY) (x::l))
instance aT.row(b:Bool)(s:List aY):aT (lT b s) s:=by
 cases b
 ·rw[LB];exact aT.enc s
 ·cases s
  ·exact aT.Qm
  ·exact aT.enc (_::_)
instance aT.rows(b:Bool)(l:List (List aY)):aT (.list none 1 (l.map (lT b))) l:=aT.list (α:=List aY) ⟨by rw[List.map_map];exact List.map_congr_left λs _=>(aT.row b s).can⟩
theorem aLG(l:List (List aY)):(enc l:AV)=.list none 1 (l.map (lT false)):=by
 show AV.list none 1 (l.map enc)=_;congr 1
attribute [go_sem 2000] aLD aLE aLF alN aLG
noncomputable def T5:List iZ:=[(75,hj λ(b:List Lit)(l:List I)=>enc (vo b l))]
noncomputable def ze:bj:=ij rZ (e1 T5)
instance aPt{D:bj}[h:bt D ze]:bt D rZ:=h.ke
def alP:List Nat:=[75]++T3
theorem aLH:fq ze alP:=fq.or alH (kf T5)
theorem aLI(h:∀xs,e1 T5 f xs=F xs)(hk:T3.contains f=false:=by rfl):∀xs,ze f xs=F xs:=λxs=>by rw[<-h];exact kg alH hk
theorem alQ(A:List I):∀(body:List Lit)(out:List (List aY))(n:Nat),(∀s∈out,s.length<=n)->∀s∈jU A body out,s.length<=n+(bF (body.map Lit.atom)).length
 |[],out,n,h,s,ax=>by have:=h s ax;omega|l::r,out,n,h,s,ax=>by
  rw[jU]at ax;have b:=alQ A r _ (n+(ck l.atom).length) (λs ax=>by
   cases ae:dB l with
   |true =>
    rw[ae,if_pos rfl,List.mem_flatMap]at ax;obtain⟨u,a,ax⟩:=ax;obtain⟨t,_,rfl⟩:=aLZ.1 ax;have:=TW l.atom t u;have:=h u a;omega
   |false =>
    rw[ae,if_neg be]at ax;have:=h s ax;omega) s ax
  rw[aqH,bF,aqT];omega
theorem aLJ{s:Sub}(h:t.args.length=2):(eD s t).args.length=2:=by
 have a:¬eJ t=true:=by rw[zb];simp[h]
 rw[C7,if_neg a,if_neg am];simp[I.args,h];exact h
theorem aLK(body:List Lit)(A:List I)(y:∀i,(jU A (body.take i) [[]]).length<=1000000)(ax:(bF (body.map Lit.atom)).length<=500000)
  (hd:∀l∈body,l.atom.name=eG->l.atom.args.length=2):aA ν aD 75 [enc body,enc A] (enc (vo body A)):=by
 refine aA.sy λH J=>?_;obtain⟨H,_⟩:=H;obtain⟨J,_⟩:=J;have cP:M=1099511627776:=rfl;refine aA.gK (D:=ze) ayK cX c7 i8 ?_;unfold aaM;refine ag ?_;refine bQ (λp:Nat×Bool×Option Nat=>⟨N [(0,.v (enc body)),(1,.v (enc A)),(5,.v (.list p.2.2 1 ((jU A (body.take p.1) [[]]).map (lT p.2.1)))),(6,.v (enc p.1))],[]⟩)
  (λp=>p.1<=body.length) (λp=>body.length-p.1) (0,true,some 73) (aqw _) (by(try simp(disch:=first|exact ai|fail) only[go_sem])<;>(first|rfl|(simp(disch:=first|exact aX|fail) only[b7,avQ,avR,Env.ins,cp,cq,cr,ct,cu,cv,cw,cx,I.b0,aqv,avS,avT,avX,aqU,bL,aqx,aqH,aqI,cy,cz,go_sem,jU,alN];try rfl))) ?_
 rintro⟨i,b,o⟩ T;simp only at T;rcases aqt i body.length with h|h
 ·have c:=alK A (body.take i) body[i]! [[]];rw[<-bL h]at c;have z:=y (i+1);have B:=y i;have mo:(bF ((body.take i).map Lit.atom)).length+(ck body[i]!.atom).length<=(bF (body.map Lit.atom)).length:=by
   have V:bF ((body.take (i+1)).map Lit.atom)=bF ((body.take i).map Lit.atom)++ck body[i]!.atom:=by rw[bL h,aqx];exact yF _ _
   have L:(bF ((body.take (i+1)).map Lit.atom)).length<=(bF (body.map Lit.atom)).length:=Dr ((List.take_sublist _ _).map _);rw[V,aqT]at L;exact L
  have O:=alQ A (body.take i) [[]] 0 be;cases ae:dB body[i]! with
  |false =>
   rw[ae,if_neg be]at c;refine bU @ae ?_;exact⟨(i+1,b,o),ap,ap,by rw[c];(exact bl)⟩
  |true =>
   rw[ae,if_pos rfl]at c;obtain⟨R,de⟩:∃R,R=jU A (body.take i) [[]]:=⟨_,rfl⟩;rw[<-de]at c B O ⊢;rw[c]at z;refine bU @ae ?_;refine bQ (λk:Nat=>⟨N [(0,.v (enc body)),(1,.v (enc A)),(5,.v (.list o 1 (R.map (lT b)))),(6,.v (enc i)),(7,.v (.list (some 73) 1 ((oG body[i]!.atom A R k 0).map (lT false)))),(8,.v (enc k))],[]⟩)
    (λk=>k<=R.length) (λk=>R.length-k) 0 (aqw _) (rm @aLw) ?_
   intro k W;rcases aqt k R.length with hk|hk
   ·refine ag ?_;refine bQ (λj:Nat=>⟨N [(0,.v (enc body)),(1,.v (enc A)),(5,.v (.list o 1 (R.map (lT b)))),(6,.v (enc i)),(7,.v (.list (some 73) 1 ((oG body[i]!.atom A R k j).map (lT false)))),(8,.v (enc k)),(9,.v (enc j))],[]⟩)
     (λj=>j<=A.length) (λj=>A.length-j) 0 (aqw _) ew ?_
    intro j ei;rcases aqt j A.length with C|C
    ·have n9:(R[k]!).length+(ck body[i]!.atom).length<=1000000:=by have:=O R[k]! (ek hk);omega
     have g:=aLx (a:=body[i]!.atom) (rows:=R) (k:=k) C;have Ei:=aLA (a:=body[i]!.atom) (A:=A) (j:=j) hk;obtain⟨X,bA⟩:∃X,X=hx body[i]!.atom A[j]! R[k]!:=⟨_,rfl⟩;rw[<-bA]at g;obtain⟨Y,E⟩:∃Y,Y=oG body[i]!.atom A R k j:=⟨_,rfl⟩;rw[<-E]at g Ei ⊢;cases v:X.2 with
     |true =>
      rw[v,if_pos rfl]at g
      (repeat' first|simp(disch:=first|exact ai|fail) only[go_sem,<-bA,mz,v]|(refine ao ?_ ?_<;>intro))
      exact⟨j+1,am,am,by rw[g];(first|rfl|(simp(disch:=first|exact aX|fail) only[b7,avQ,avR,Env.ins,cp,cq,cr,ct,cu,cv,cw,cx,I.b0,aqv,avS,avT,avX,aqU,bL,aqx,aqH,aqI,cy,cz,go_sem,LB];try rfl))⟩
     |false =>
      rw[v,if_neg be,aPU]at g
      (repeat' first|simp(disch:=first|exact ai|fail) only[go_sem,<-bA,mz,v]|(refine ao ?_ ?_<;>intro))
      exact⟨j+1,am,am,by rw[g];(exact bl)⟩
    ·have he:=aLy (a:=body[i]!.atom) (A:=A) hk C
     (repeat' first|refine ag ?_|(refine ao ?_ ?_<;>intro))
     exact⟨k+1,am,am,by rw[he];(exact bl)⟩
   ·rw[aLz hk,<-c];refine ag ?_;exact⟨(i+1,false,none),ap,ap,co⟩
 ·rw[aqB h];have P:=y body.length;rw[aKc]at P;have Q:vo body A=(jU A body [[]]).filter (rW body):=rfl;obtain⟨R,de⟩:∃R,R=jU A body [[]]:=⟨_,rfl⟩;rw[<-de]at P Q ⊢;rw[Q];refine ag ?_;refine bQ (λk:Nat=>⟨N [(0,.v (enc body)),(5,.v (.list o 1 (R.map (lT b)))),(12,.v (.list (some 73) 1 (((R.take k).filter (rW body)).map (lT b)))),(13,.v (enc k))],[]⟩)
   (λk=>k<=R.length) (λk=>R.length-k) 0 (aqw _) (rm @List.filter_nil.{0}) ?_
  intro k W;rcases aqt k R.length with hk|hk
  ·have d:=yT (p:=rW body) hk;have j1:((R.take k).filter (rW body)).length<=k:=ax6 (aPV _ _) (by rw[avY];omega);obtain⟨Y,E⟩:∃Y,Y=(R.take k).filter (rW body):=⟨_,rfl⟩;rw[<-E]at d j1 ⊢;refine ag ?_;refine bQ (λp:Nat×Bool=>⟨N [(0,.v (enc body)),(5,.v (.list o 1 (R.map (lT b)))),(12,.v (.list (some 73) 1 (Y.map (lT b)))),(13,.v (enc k)),(14,.v (.bool p.2)),(15,.v (enc p.1))],[]⟩)
    (λp=>p.1<=body.length/\(body.take p.1).all (zd R[k]!)=p.2) (λp=>body.length-p.1) (0,true) ⟨aqw _,rfl⟩ ew ?_
   rintro⟨m,ok⟩ ⟨m1,w⟩;simp only at m1 w;have fin:rW body R[k]! = ok->∃Z,Z=rW body R[k]!/\ok=Z:=λe=>⟨_,rfl,e.symm⟩;rcases aqt m body.length with hm|hm
   ·cases ok with
    |false =>
     have x:rW body R[k]! = false:=by
      rw[alM,<-List.take_append_drop m body,aPW,w,aPR]
     rw[x,if_neg be]at d;refine ag ?_;exact⟨k+1,am,am,by rw[d];(exact bl)⟩
    |true =>
     have n:(body.take (m+1)).all (zd R[k]!)=zd R[k]! body[m]!:=by rw[bL hm,aPW,w];simp
     cases q:body[m]!.atom.name==[100,105,115,116,105,110,99,116]with
     |false =>
      have G:zd R[k]! body[m]! = true:=by rw[zd];rw[show(body[m]!.atom.name==eG)=false from q];rfl
      rw[G]at n;refine bU @q ?_;exact⟨(m+1,true),⟨ap,n⟩,ap,co⟩
     |true =>
      have G:zd R[k]! body[m]! = (hi (eD (dn R[k]!) body[m]!.atom).args[0]! (eD (dn R[k]!) body[m]!.atom).args[1]! ==body[m]!.neg):=by rw[zd];rw[show(body[m]!.atom.name==eG)=true from q];rfl
      have kT:=aLJ (s:=dn R[k]!) (hd body[m]! (ek hm) (eq_of_beq q));rw[G]at n;obtain⟨u,S⟩:∃u,u=eD (dn R[k]!) body[m]!.atom:=⟨_,rfl⟩;rw[<-S]at n kT;refine gS @q (Eq.symm @S) ?_;exact⟨(m+1,_),⟨ap,n⟩,ap,co⟩
   ·have x:rW body R[k]! = ok:=by rw[alM,<-w,aqB hm]
    cases ok with
    |true =>
     rw[x,if_pos rfl]at d;refine ag ?_;exact⟨k+1,am,am,by rw[d];(exact bl)⟩
    |false =>
     rw[x,if_neg be]at d;refine ag ?_;exact⟨k+1,am,am,by rw[d];(exact bl)⟩
  ·rw[aqB hk];refine ag ?_;exact⟨_,rfl,(bx.disown _ _ _).trans (aT.rows b _).kX⟩
variable {l:List I}
theorem aLN[bt D ze]{b:List Lit}[aT x1 b][aT x2 l](h:(∀i,(jU l (b.take i) [[]]).length<=1000000)/\(bF (b.map Lit.atom)).length<=500000/\∀x∈b,x.atom.name=eG->x.atom.args.length=2) :b1 ν aD D 75 [x1,x2] K tg=K (enc (vo b l)):=ik (D':=ze) (F:=λ(b:List Lit)(l:List I)=>enc (vo b l)) (aLI λ_=>rfl) (aLK b l h.1 h.2.1 h.2.2)
attribute [go_sem ↓ 2000] aLN
open Enc (enc)
def xy(l more:List I):List I×Nat:=if jR more then([],3)else if 512<(lI l more).length then([],11)else(lI l more,0)
noncomputable def alR:List iZ:=[(36,hj λ(r:aU)(l:List I)=>enc (mA r l)),
 (37,hj λ(l:List I)(m:List I)=>j8 (some (xy l m))),
 (12,hj λ(l:List aU)(a:List I)=>j8 (some (pf l a)))]
noncomputable def po:bj:=ij ze (e1 alR)
instance aPu{D:bj}[h:bt D po]:bt D ze:=h.ke
def lE:List Nat:=[36,37,12]++alP
theorem Fy:fq po lE:=fq.or aLH (kf alR)
theorem T6(h:∀xs,e1 alR f xs=F xs)(hk:alP.contains f=false:=by rfl):∀xs,po f xs=F xs:=λxs=>by rw[<-h];exact kg aLH hk
theorem aLP(h:jo l)(t:I):nQ l t=DN l t:=by
 obtain⟨j,c,d⟩:=Ke h t;rw[aLO,alx,nQ,Bool.and_eq_true,decide_eq_true_eq,beq_iff_eq];constructor
 ·rintro⟨g,i⟩;rw[<-u5 _ _ i];exact ek g
 ·intro hm;obtain⟨k,hk,rfl⟩:=List.getElem_of_mem hm;have a:l[k]! = l[k]:=by simp[hk]
  have m:¬k<gh l l[k]:=λb=>by
   have:=c k b;rw[a,CZ]at this;omega
  have n:¬gh l l[k]<k:=λb=>by
   have:=Gb h b hk;rw[a]at this;exact d _ (Nat.le_refl _) am this
  have e:gh l l[k]=k:=by omega
  exact⟨am,by rw[e,a];exact CZ _⟩
def r0(A:List I)(s:List aY)(l:Lit):Bool:=!(l.neg&&!(l.atom.name==eG))||!nQ A (eD (dn s) l.atom)
variable {A:List I}
theorem aLQ(h:jo A)(body:List Lit)(s:List aY):Hg body A s=body.all (r0 A s):=by
 unfold Hg r0;congr 1;funext l
 rw[aLP h]
structure DP(r:aU)(A:List I):Prop where
 w:∀i,(jU A (r.body.take i) [[]]).length<=5000
 s:(bF (r.body.map Lit.atom)).length<=500000
 d:∀l∈r.body,l.atom.name=eG->l.atom.args.length=2
theorem alS{body:List Lit}(a:∀i,(jU A (body.take i) [[]]).length<=5000):(vo body A).length<=5000:=by
 have:=a body.length;rw[aKc]at this;exact ax6 (aPV _ _) this
theorem alT(h:DP r A):(mA r A).length<=5000:=by
 rw[mA,aqv];exact ax6 (aPV _ _) (alS h.w)
theorem aLR(r:aU)(A:List I)(cE:jo A)(hk:DP r A):aA ν aD 36 [enc r,enc A] (enc (mA r A)):=by
 refine aA.sy λn w=>?_;have y:r.body.length<=M:=n.2.2.1;have z:M=1099511627776:=rfl;have B:=(⟨λi=>ax6 (hk.w i) dw,hk.s,hk.d⟩:(∀i,(jU A (r.body.take i) [[]]).length<=1000000)/\(bF (r.body.map Lit.atom)).length<=500000/\∀x∈r.body,x.atom.name=eG->x.atom.args.length=2);have o:=alS hk.w;have e:mA r A=((vo r.body A).filter λs=>r.body.all (r0 A s)).map λs=>eD (dn s) r.head:=by
  rw[mA];congr 2;funext s;exact aLQ cE _ _
 rw[e];obtain⟨R,de⟩:∃R,R=vo r.body A:=⟨_,rfl⟩;rw[<-de]at o ⊢;refine aA.gK (D:=po) ayk cX c7 i8 ?_;unfold Zl;refine bU (Eq.symm @de) ?_;refine bQ (λi:Nat=>⟨N [(1,.v (enc A)),(2,.v (.cL r.enc.cells)),(5,.v (.list (some 31) 2 ((((R.take i).filter λs=>r.body.all (r0 A s)).map λs=>eD (dn s) r.head).map I.enc))),(6,.v (enc R)),(7,.v (enc i))],[]⟩)
  (λi=>i<=R.length) (λi=>R.length-i) 0 (aqw _) (rm @List.filter_nil.{0}) ?_
 intro i C;rcases aqt i R.length with h|h
 ·have a:=yT (p:=λs=>r.body.all (r0 A s)) h;have q:((R.take i).filter λs=>r.body.all (r0 A s)).length<=i:=ax6 (aPV _ _) (by rw[avY];omega);obtain⟨Y,u⟩:∃Y,Y=(R.take i).filter λs=>r.body.all (r0 A s):=⟨_,rfl⟩;rw[<-u]at a q ⊢;refine ag ?_;refine bQ (λp:Nat×Bool=>⟨N [(1,.v (enc A)),(2,.v (.cL r.enc.cells)),(5,.v (.list (some 31) 2 ((Y.map λs=>eD (dn s) r.head).map I.enc))),(6,.v (enc R)),(7,.v (enc i)),(8,.v (.bool p.2)),(9,.v (enc p.1))],[]⟩)
   (λp=>p.1<=r.body.length/\(r.body.take p.1).all (r0 A R[i]!)=p.2) (λp=>r.body.length-p.1) (0,true) ⟨aqw _,rfl⟩ ew ?_
  rintro⟨m,ok⟩ ⟨v,b⟩;simp only at v b;rcases aqt m r.body.length with hm|hm
  ·cases ok with
   |false =>
    have c:(r.body.all (r0 A R[i]!))=false:=by
     rw[<-List.take_append_drop m r.body,aPW,b,aPR]
    rw[c,if_neg be]at a;refine ag ?_;exact⟨i+1,am,am,by rw[a];(exact bl)⟩
   |true =>
    have d:(r.body.take (m+1)).all (r0 A R[i]!)=r0 A R[i]! r.body[m]!:=by rw[bL hm,aPW,b];simp
    have g:r0 A R[i]! r.body[m]! = (!(r.body[m]!.neg&&!(r.body[m]!.atom.name==[100,105,115,116,105,110,99,116]))||!nQ A (eD (dn R[i]!) r.body[m]!.atom)):=rfl;rw[g]at d;cases j:r.body[m]!.neg<;>cases k:r.body[m]!.atom.name==[100,105,115,116,105,110,99,116];all_goals
     rw[j,k]at d;simp only[Bool.not_true,Bool.not_false,aPR,Bool.true_and,Bool.and_true,Bool.and_false,Bool.true_or,aPw]at d;refine gS @j @k ?_;exact⟨(m+1,_),⟨ap,d⟩,ap,co⟩
  ·have c:(r.body.all (r0 A R[i]!))=ok:=by rw[<-b,aqB hm]
   cases ok with
   |true =>
    rw[c,if_pos rfl]at a;refine ag ?_;exact⟨i+1,am,am,by rw[a];(exact bl)⟩
   |false =>
    rw[c,if_neg be]at a;refine ag ?_;exact⟨i+1,am,am,by rw[a];(exact bl)⟩
 ·rw[aqB h];refine ag ?_;exact⟨_,rfl,bx.disown _ _ _⟩
theorem aLU[bt D po][aT x1 r][aT x2 l](h:jo l/\DP r l) :b1 ν aD D 36 [x1,x2] K tg=K (enc (mA r l)):=ik (D':=po) (F:=λ(r:aU)(l:List I)=>enc (mA r l)) (T6 λ_=>rfl) (aLR r l h.1 h.2)
attribute [go_sem ↓ 2000] aLU
theorem aLV(l more:List I)(o:l.length+more.length<=900000)(hd:∀a∈more,cc a<=1000000):aA ν aD 37 [enc l,enc more] (j8 (some (xy l more))):=by
 have p:M=1099511627776:=rfl;obtain⟨g,b⟩:∃g,g=xy l more:=⟨_,rfl⟩;rw[<-b];unfold xy at b;refine aA.gK (D:=po) ayl g8 (by rfl) (λ_ _ _ h=>d7) ?_;unfold Zo;refine ag ?_;refine bQ (λi:Nat=>⟨N [(0,.v (enc (lI l (more.take i)))),(1,.v (enc more)),(6,.v (.bool (jR (more.take i)))),(7,.v (enc i))],[]⟩)
  (λi=>i<=more.length) (λi=>more.length-i) 0 (aqw _) (by(try simp(disch:=first|exact ai|fail) only[go_sem])<;>(first|rfl|(simp(disch:=first|exact aX|fail) only[b7,avQ,avR,Env.ins,cp,cq,cr,ct,cu,cv,cw,cx,I.b0,aqv,avS,avT,avX,aqU,bL,aqx,aqH,aqI,cy,cz,go_sem,lI,jR,aPP,List.any_nil];try rfl))) ?_
 intro i q;have j:=P7 (more.take i) l;rw[avY]at j;rcases aqt i more.length with h|h
 ·have m:=hd more[i]! (ek h);have ax:lI l (more.take (i+1))=j4 (lI l (more.take i)) more[i]!:=by rw[bL h,afZ]
  have d:jR (more.take (i+1))=(jR (more.take i)||decide (4<cc more[i]!)):=by rw[bL h,jR,List.any_append];simp[jR]
  have n:decide ((cc more[i]! : Int)>4)=decide (4<cc more[i]!):=by rw[aLO];simp;omega
  obtain⟨Y,e⟩:∃Y,Y=lI l (more.take i):=⟨_,rfl⟩;rw[<-e]at ax j ⊢;cases c:jR (more.take i)with
  |true =>
   rw[c,Bool.true_or]at d;refine ag ?_;exact⟨i+1,am,am,by rw[ax,d];(exact bl)⟩
  |false =>
   rw[c,aPw]at d;refine bU @n ?_;exact⟨i+1,am,am,by rw[ax,d];(exact bl)⟩
 ·rw[aqB h];obtain⟨Y,e⟩:∃Y,Y=lI l more:=⟨_,rfl⟩;rw[<-e]at b ⊢;cases c:jR more with
  |true =>
   rw[c,if_pos rfl]at b;rw[b];refine ag ?_;exact⟨_,rfl,pd 3⟩
  |false =>
   rw[c,if_neg be]at b;rcases aqt 512 Y.length with k|k
   ·rw[if_pos k]at b;rw[b];refine ag ?_;exact⟨_,rfl,pd 11⟩
   ·rw[if_neg am]at b;rw[b];refine ag ?_;exact⟨_,rfl,bx.refl _⟩
theorem aLW[bt D po]{m:List I}[aT x1 l][aT x2 m](h:l.length+m.length<=900000/\∀a∈m,cc a<=1000000) :b1 ν aD D 37 [x1,x2] K tg=K (j8 (some (xy l m))):=ik (D':=po) (F:=λ(l:List I)(m:List I)=>j8 (some (xy l m))) (T6 λ_=>rfl) (aLV l m h.1 h.2)
attribute [go_sem ↓ 2000] aLW
open Enc (enc)
theorem aLX[bt D y9][aT x1 l]  :b1 ν aD D 34 [x1] K tg=K (enc (fx l)):=ec (D':=y9) (F:=λ(l:List I)=>enc (fx l)) (aKm λ_=>rfl) (aKo l)
attribute [go_sem ↓ 2000] aLX
open Enc (enc)
theorem Jk:dg (α:=ak) true []=.aS 1:=rfl
theorem Wv(l:List ak):dg false l=.list none 1 (l.map .str):=hr l
theorem Ww:dg (α:=bR) true []=.aS 3:=rfl
attribute [go_sem 2000] Wl Jk Ww
noncomputable def oo:List iZ:=[(166,hj λ(l:List ak)(s:ak)=>enc (xf s l)),
 (165,eh λ(l:List aU)=>enc (bz l)),
 (120,eh λ(l:List aU)=>enc (il l)),
 (164,hj λ(a:bR)(b:bR)=>enc (p3 a b)),
 (119,eh λ(l:List aU)=>enc (mv l))]
noncomputable def bZ:bj:=ij po (e1 oo)
instance aqp{D:bj}[h:bt D bZ]:bt D po:=h.ke
def Jl:List Nat:=[166,165,120,164,119]++lE
theorem Wx:fq bZ Jl:=fq.or Fy (kf oo)
theorem gC(h:∀xs,e1 oo f xs=F xs)(hk:lE.contains f=false:=by rfl):∀xs,bZ f xs=F xs:=λxs=>by rw[<-h];exact kg Fy hk
variable {i:Nat}
theorem Jm{l:List ak}(s:ak)(a:l.length<=1000000):(avO i (avP AV.str l)).length<=M/\(avO i (avP AV.str l)).length+1<=M /\
  (avO i (avP AV.str l)++[AV.str s]).length+(List.drop i (avO l.length (avP AV.str l))).length<=M:=by
 have b:M=1099511627776:=rfl;simp only[aqT,avY,List.length_drop,aqv,aL1,aL0];omega
theorem WD(l:List ak)(s:ak)(g:l.length<=1000000):aA ν aD 166 [enc l,enc s] (enc (xf s l)):=by
 have m:M=1099511627776:=rfl;refine aA.gK (D:=bZ) Wb cX c7 i8 ?_;unfold Cz
 (repeat' first|simp(disch:=first|exact ai|fail) only[go_sem]|(refine ao ?_ ?_<;>intro))
 refine bQ (λi:Nat=>⟨N [(0,.v (enc l)),(1,.v (enc s)),(5,.v (enc i))],[]⟩)
  (λi=>i<=l.length/\xf s l=l.take i++xf s (l.drop i)) (λi=>l.length-i) 0 ⟨aqw _,rfl⟩ ci ?_
 rintro i ⟨n,b⟩;rcases aqt i l.length with h|h
 ·obtain⟨j,k⟩:=Wm h b;cases a:Op.bytesLess l[i]! s with
  |true =>
   (repeat' first|simp(disch:=first|exact ai|fail) only[go_sem,a]|(refine ao ?_ ?_<;>intro))
   exact⟨i+1,⟨am,j a⟩,am,co⟩
  |false =>
   have a3:=k a;cases he:l[i]! ==s with
   |true =>
    rw[he,if_pos rfl]at a3
    (repeat' first|simp(disch:=first|exact ai|fail) only[go_sem,a,he]|(refine ao ?_ ?_<;>intro))
    exact⟨_,rfl,by rw[a3];exact bx.refl _⟩
   |false =>
    rw[he,if_neg be]at a3;obtain⟨c,d,e⟩:=Jm s (i:=i) g
    (repeat' first|simp(disch:=first|exact ai|fail) only[go_sem,a,he,c,d,e]|(refine ao ?_ ?_<;>intro))
    refine⟨_,rfl,?_⟩;rw[a3];simp only[aqx,List.map_take,List.map_drop,aqB (Nat.le_of_eq (aqv AV.str)),<-aPQ];exact bx.disown _ _ _
 ·rw[aqV h,aqB h,xf]at b;have al:i=l.length:=by omega
  subst al;obtain⟨c,d,e⟩:=Jm s (i:=l.length) g
  (repeat' first|simp(disch:=first|exact ai|fail) only[go_sem,c,d,e]|(refine ao ?_ ?_<;>intro))
  refine⟨_,rfl,?_⟩;rw[b];simp only[aqB (Nat.le_of_eq (aqv AV.str)),aqV (Nat.le_of_eq (aqv AV.str)),aPU,aqx,aqH,aqI];exact bx.disown _ _ _
theorem Yd[bt D bZ]{l:List ak}[aT x1 l][aT x2 s](h:l.length<=1000000) :b1 ν aD D 166 [x1,x2] K tg=K (enc (xf s l)):=ik (D':=bZ) (F:=λ(l:List ak)(s:ak)=>enc (xf s l)) (gC λ_=>rfl) (WD l s h)
attribute [go_sem ↓ 2000] Yd
theorem Ye(l:List aU)(h:i<l.length):bz (l.take (i+1))=if dR l[i]!.head.name then xf l[i]!.head.name (bz (l.take i))else bz (l.take i):=by
 rw[bz,bL h,aqx,aqH,aqI,Fz];rfl
theorem Yf(l:List aU)(j:l.length<=1000000):aA ν aD 165 [enc l] (enc (bz l)):=by
 have k:M=1099511627776:=rfl;refine aA.gK (D:=bZ) Wa cX c7 i8 ?_;unfold Cw
 (repeat' first|simp(disch:=first|exact ai|fail) only[go_sem]|(refine ao ?_ ?_<;>intro))
 refine bQ (λp:Nat×Bool=>⟨N [(0,.v (enc l)),(3,.v (dg p.2 (bz (l.take p.1)))),(4,.v (enc p.1))],[]⟩)
  (λp=>p.1<=l.length) (λp=>l.length-p.1) (0,true) (aqw _) (by(try simp(disch:=first|exact ai|fail) only[go_sem])<;>(first|rfl|(simp(disch:=first|exact aX|fail) only[b7,avQ,avR,Env.ins,cp,cq,cr,ct,cu,cv,cw,cx,I.b0,aqv,avS,avT,avX,aqU,bL,aqx,aqH,aqI,cy,cz,go_sem,bz,b2,aPP,Jk];try rfl))) ?_
 rintro⟨i,b⟩ d;simp only at d;rcases aqt i l.length with h|h
 ·have ax:=Ye l h;have c:=h0 ((l.take i).map λr=>r.head.name) [];rw[aqv,avY,show b2 ((l.take i).map λr=>r.head.name) []=bz (l.take i) from rfl]at c;simp only[aL0]at c;obtain⟨X,bA⟩:∃X,X=bz (l.take i):=⟨_,rfl⟩;rw[<-bA]at ax c ⊢;rw[show dR l[i]!.head.name = !(l[i]!.head.name==[100,105,115,116,105,110,99,116]) from rfl]at ax;cases a:l[i]!.head.name==[100,105,115,116,105,110,99,116]with
  |true =>
   rw[a]at ax
   (repeat' first|simp(disch:=first|exact ai|fail) only[go_sem,a]|(refine ao ?_ ?_<;>intro))
   exact⟨(i+1,b),ap,ap,by rw[ax];(exact bl)⟩
  |false =>
   rw[a]at ax
   (repeat' first|simp(disch:=first|exact ai|fail) only[go_sem,a]|(refine ao ?_ ?_<;>intro))
   exact⟨(i+1,false),ap,ap,by rw[ax];(first|rfl|(simp(disch:=first|exact aX|fail) only[b7,avQ,avR,Env.ins,cp,cq,cr,ct,cu,cv,cw,cx,I.b0,aqv,avS,avT,avX,aqU,bL,aqx,aqH,aqI,cy,cz,go_sem,Wv];try rfl))⟩
 ·rw[aqB h];rcases Wk b (bz l)with⟨e,g⟩|e
  all_goals
   rw[e]
   (repeat' first|simp(disch:=first|exact ai|fail) only[go_sem,Enc.sz]|(refine ao ?_ ?_<;>intro))
   refine⟨_,rfl,?_⟩;first|exact bx.refl _|(rw[g];exact bx.aS _)
theorem Yg[bt D bZ]{l:List aU}[aT x1 l](h:l.length<=1000000) :b1 ν aD D 165 [x1] K tg=K (enc (bz l)):=ec (D':=bZ) (F:=λ(l:List aU)=>enc (bz l)) (gC λ_=>rfl) (Yf l h)
attribute [go_sem ↓ 2000] Yg
theorem Yh(l:List aU)(q:l.length<=128)(d:∀r∈l,r.body.length<=8):aA ν aD 120 [enc l] (enc (il l)):=by
 have u:M=1099511627776:=rfl;rw[<-FA];have j:(bz l).length<=128:=by
  have:=h0 (l.map λr=>r.head.name) [];simp only[aqv,aL0]at this;exact ax6 this am
 refine aA.gK (D:=bZ) V8 cX c7 i8 ?_;unfold Cr
 (repeat' first|simp(disch:=first|exact ai|fail) only[go_sem]|(refine ao ?_ ?_<;>intro))
 refine bQ (λi:Nat=>⟨N [(0,.v (enc l)),(3,.v (enc (b2 ((l.take i).flatMap dh) (bz l)))),(4,.v (enc i))],[]⟩)
  (λi=>i<=l.length) (λi=>l.length-i) 0 (aqw _) (by(try simp(disch:=first|exact ai|fail) only[go_sem])<;>(first|rfl|(simp(disch:=first|exact aX|fail) only[b7,avQ,avR,Env.ins,cp,cq,cr,ct,cu,cv,cw,cx,I.b0,aqv,avS,avT,avX,aqU,bL,aqx,aqH,aqI,cy,cz,go_sem,List.flatMap_nil,b2,aPP];try rfl))) ?_
 intro i v;rcases aqt i l.length with h|h
 ·have ax:(l.take (i+1)).flatMap dh=(l.take i).flatMap dh++l[i]!.body.map λx=>x.atom.name:=by rw[bL h,List.flatMap_append];simp[dh]
  have m:l[i]!.body.length<=8:=d _ (ek h);have n:=h0 ((l.take i).flatMap dh) (bz l);have e:=GK (f:=dh) (b:=8) (l.take i) (λr o=>by unfold dh;rw[aqv];exact d r (List.mem_of_mem_take o));rw[avY]at e;obtain⟨B,fN⟩:∃B,B=l[i]!.body:=⟨_,rfl⟩;rw[<-fN]at ax m;obtain⟨X,bA⟩:∃X,X=(l.take i).flatMap dh:=⟨_,rfl⟩;rw[<-bA]at ax n e ⊢
  (repeat' first|simp(disch:=first|exact ai|fail) only[go_sem,<-fN]|(refine ao ?_ ?_<;>intro))
  refine bQ (λk:Nat=>⟨N [(0,.v (enc l)),(3,.v (enc (b2 (X++(B.take k).map λx=>x.atom.name) (bz l)))),(4,.v (enc i)),(5,.v (enc k))],[]⟩)
   (λk=>k<=B.length) (λk=>B.length-k) 0 (aqw _) (by(try simp(disch:=first|exact ai|fail) only[go_sem])<;>(first|rfl|(simp(disch:=first|exact aX|fail) only[b7,avQ,avR,Env.ins,cp,cq,cr,ct,cu,cv,cw,cx,I.b0,aqv,avS,avT,avX,aqU,bL,aqx,aqH,aqI,cy,cz,go_sem,aPU];try rfl))) ?_
  intro k w;rcases aqt k B.length with hk|hk
  ·have a:=Fz (X++(B.take k).map λx=>x.atom.name) (bz l) B[k]!.atom.name;rw[aPQ,show((B.take k).map λx=>x.atom.name)++[B[k]!.atom.name]=(B.take (k+1)).map λx=>x.atom.name by rw[bL hk,aqx];rfl]at a;have g:=h0 (X++(B.take k).map λx=>x.atom.name) (bz l);rw[aqT,aqv,avY]at g;obtain⟨Y,p⟩:∃Y,Y=b2 (X++(B.take k).map λx=>x.atom.name) (bz l):=⟨_,rfl⟩;rw[<-p]at a g ⊢;rw[show dR B[k]!.atom.name = !(B[k]!.atom.name==[100,105,115,116,105,110,99,116]) from rfl]at a;cases c:B[k]!.atom.name==[100,105,115,116,105,110,99,116]with
   |true =>
    rw[c]at a
    (repeat' first|simp(disch:=first|exact ai|fail) only[go_sem,<-fN,c]|(refine ao ?_ ?_<;>intro))
    exact⟨k+1,am,am,by rw[a];(exact bl)⟩
   |false =>
    rw[c]at a
    (repeat' first|simp(disch:=first|exact ai|fail) only[go_sem,<-fN,c]|(refine ao ?_ ?_<;>intro))
    exact⟨k+1,am,am,by rw[a];(exact bl)⟩
  ·rw[aqB hk,<-ax]
   (repeat' first|simp(disch:=first|exact ai|fail) only[go_sem,<-fN]|(refine ao ?_ ?_<;>intro))
   exact⟨i+1,am,am,co⟩
 ·rw[aqB h]
  (repeat' first|simp(disch:=first|exact ai|fail) only[go_sem]|(refine ao ?_ ?_<;>intro))
  exact⟨_,rfl,bx.refl _⟩
theorem Yr[bt D bZ]{l:List aU}[aT x1 l](a:l.length<=128)(b:∀r∈l,r.body.length<=8) :b1 ν aD D 120 [x1] K tg=K (enc (il l)):=ec (D':=bZ) (F:=λ(l:List aU)=>enc (il l)) (gC λ_=>rfl) (Yh l a b)
attribute [go_sem ↓ 2000] Yr
open Enc (enc)
theorem Ys(a b:bR):aA ν aD 164 [enc a,enc b] (enc (p3 a b)):=by
 have hd:=Wo a b;refine aA.intro (D:=bZ) V9 cX c7 ?_;unfold Ct;simp(disch:=first|exact ai|fail) only[go_sem];cases c:a.src==b.src<;>cases d:a.dst==b.dst<;>cases e:a.neg<;>rw[c,d,e]at hd;all_goals
  simp only[Bool.not_true,Bool.not_false,Bool.false_eq_true,if_true,if_false,aPR,Bool.true_and]at hd
  (repeat' first|simp(disch:=first|exact ai|fail) only[go_sem,c,d,e,hd]|(refine ao ?_ ?_<;>intro))
  all_goals rfl
theorem Yt[bt D bZ]{a:bR}{b:bR}[aT x1 a][aT x2 b]  :b1 ν aD D 164 [x1,x2] K tg=K (enc (p3 a b)):=ik (D':=bZ) (F:=λ(a:bR)(b:bR)=>enc (p3 a b)) (gC λ_=>rfl) (Ys a b)
attribute [go_sem ↓ 2000] Yt
def Jn(v:AV)(L:List bR):Prop:=(v=.aS 3/\L=[])\/v=.list (some 141) 3 (L.map bR.enc)
theorem Yu(a:bR)(s d:ak)(n:Bool):gU false [1,1,2] a.enc (.agg [.str s,.str d,.bool n])=some (.bool (decide (a=⟨s,d,n⟩))):=by
 obtain⟨b,c,e⟩:=a;rw[bR.enc,Ft];simp only[vA,nW,q7,if_true,Option.map_some];congr 2
 rw[aLO];simp
theorem Jo{l:List bR}(x:AV)(a:l.length<=100000):(avO i (avP bR.enc l)).length<=M/\(avO i (avP bR.enc l)).length+1<=M /\
  (avO i (avP bR.enc l)++[x]).length+(List.drop i (avO l.length (avP bR.enc l))).length<=M:=by
 have b:M=1099511627776:=rfl;simp only[aqT,avY,List.length_drop,aqv,aL1,aL0];omega
theorem Jp{l L:List bR}{d:ak}{n:Bool}(h:l=L.take i++([⟨s,d,n⟩]++L.drop i)):l.map bR.enc=avO i (avP bR.enc L)++[.agg [.str s,.str d,.bool n]]++List.drop i (avO L.length (avP bR.enc L)):=by
 rw[h];simp only[aqx,List.map_take,List.map_drop,aqB (Nat.le_of_eq (aqv bR.enc)),<-aPQ];rfl
theorem ae1(l:List aU)(h1:l.length<=128)(R:∀r∈l,r.body.length<=8):aA ν aD 119 [enc l] (enc (mv l)):=by
 have cP:M=1099511627776:=rfl;rw[show mv l=dt (lp l) from rfl];refine aA.gK (D:=bZ) V7 cX c7 i8 ?_;unfold Ah
 (repeat' first|simp(disch:=first|exact ai|fail) only[go_sem]|(refine ao ?_ ?_<;>intro))
 refine bQ (λp:Nat×AV=>⟨N [(0,.v (enc l)),(3,.v p.2),(4,.v (enc p.1))],[]⟩)
  (λp=>p.1<=l.length/\Jn p.2 (dt (lp (l.take p.1)))/\(lp (l.take p.1)).length<=p.1*8) (λp=>l.length-p.1) (0,.aS 3) ⟨aqw _,.inl ⟨rfl,rfl⟩,by simp[lp]⟩ ci ?_
 rintro⟨i,v⟩ ⟨T,g,P⟩;simp only at T g P;rcases aqt i l.length with h|h
 ·have ax:=Ws h;have V:l[i]!.body.length<=8:=R _ (ek h);obtain⟨B,fN⟩:∃B,B=l[i]!.body:=⟨_,rfl⟩;obtain⟨S,ds⟩:∃S,S=l[i]!.head.name:=⟨_,rfl⟩;obtain⟨X,bA⟩:∃X,X=lp (l.take i):=⟨_,rfl⟩;rw[<-fN,<-ds,<-bA]at ax;rw[<-fN]at V;rw[<-bA]at g P
  (repeat' first|simp(disch:=first|exact ai|fail) only[go_sem]|(refine ao ?_ ?_<;>intro))
  refine bQ (λp:Nat×AV=>⟨N [(0,.v (enc l)),(3,.v p.2),(4,.v (enc i)),(5,.v (enc p.1))],[]⟩)
   (λp=>p.1<=B.length/\Jn p.2 (dt (X++b3 S (B.take p.1)))/\((S==eG)=true->p.1=0)) (λp=>B.length-p.1) (0,v) ⟨aqw _,by simpa[b3]using g,λ_=>rfl⟩ ci ?_
  rintro⟨k,w⟩ ⟨W,c,z⟩;simp only at W c z;have C:(dt (X++b3 S (B.take k))).length<=100000:=by
   have Y:=Wq (X++b3 S (B.take k));have Z:=Jf S (B.take k);rw[aqT]at Y;rw[avY]at Z;omega
  have Q:(k=B.length\/(S==eG)=true)->X++b3 S (B.take k)=lp (l.take (i+1)):=by
   rintro(rfl|hd)
   ·cases hd:S==eG with
    |true =>
     rw[ax,hd,if_pos rfl,z hd];simp[b3]
    |false=>rw[ax,hd,if_neg be,aKc]
   ·rw[ax,hd,if_pos rfl,z hd];simp[b3]
  have j:(lp (l.take (i+1))).length<=(i+1)*8:=by
   rw[ax,aqT];have:=Jf S B;split
   ·simp only[aL0];omega
   ·omega
  obtain⟨L,cf⟩:∃L,L=dt (X++b3 S (B.take k)):=⟨_,rfl⟩;rw[<-cf]at c C;rcases aqt k B.length with hk|hk
  ·cases hd:S==[100,105,115,116,105,110,99,116]with
   |true =>
    have e:=Q (.inr hd)
    (repeat' first|simp(disch:=first|exact ai|fail) only[go_sem,<-fN,<-ds,hd]|(refine ao ?_ ?_<;>intro))
    exact⟨(i+1,w),⟨ap,by rw[<-e,<-cf];exact c,j⟩,ap,co⟩
   |false =>
    have m:=Wr S hk;obtain⟨x,ah⟩:∃x:bR,x=⟨S,B[k]!.atom.name,B[k]!.neg⟩:=⟨_,rfl⟩;have x1:B[k]!.atom.name=x.dst:=by rw[ah]
    have x2:B[k]!.neg=x.neg:=by rw[ah]
    have x3:S=x.src:=by rw[ah]
    rw[<-ah]at m;have o:(S==eG)=false:=hd;cases q:B[k]!.atom.name==[100,105,115,116,105,110,99,116]with
    |true =>
     rw[show eG=[100,105,115,116,105,110,99,116] from rfl,q,if_pos rfl]at m
     (repeat' first|simp(disch:=first|exact ai|fail) only[go_sem,<-fN,<-ds,hd,q]|(refine ao ?_ ?_<;>intro))
     exact⟨(k+1,w),⟨ap,by rw[m,<-cf];exact c,λh=>nf⟩,ap,co⟩
    |false =>
     rw[show eG=[100,105,115,116,105,110,99,116] from rfl,q,if_neg be]at m;have u:dt (X++b3 S (B.take (k+1)))=xg x L:=by rw[m,<-aPQ,Wp,<-cf]
     rcases c with⟨rfl,E⟩|rfl
     ·subst E
      (repeat' first|simp(disch:=first|exact ai|fail) only[go_sem,<-fN,<-ds,hd,q]|(refine ao ?_ ?_<;>intro))
      refine bQ (λa:Nat=>⟨N [(0,.v (enc l)),(3,.v (.aS 3)),(4,.v (enc i)),(5,.v (enc k)),(6,.b [.str S,.str B[k]!.atom.name,.bool B[k]!.neg]),(7,.v (enc a))],[]⟩)
       (λa=>a=0) (λa=>0) 0 rfl ci ?_
      rintro a rfl
      (repeat' first|simp(disch:=first|exact ai|fail) only[go_sem]|(refine ao ?_ ?_<;>intro))
      exact⟨(k+1,.list (some 141) 3 ((xg x []).map bR.enc)),⟨ap,.inr (by rw[u]),λh=>nf⟩,ap,by rw[ah];(first|rfl|(simp(disch:=first|exact aX|fail) only[b7,avQ,avR,Env.ins,cp,cq,cr,ct,cu,cv,cw,cx,I.b0,aqv,avS,avT,avX,aqU,bL,aqx,aqH,aqI,cy,cz,go_sem,xg];try rfl))⟩
     ·(repeat' first|simp(disch:=first|exact ai|fail) only[go_sem,<-fN,<-ds,hd,q]|(refine ao ?_ ?_<;>intro))
      refine bQ (λa:Nat=>⟨N [(0,.v (enc l)),(3,.v (.list (some 141) 3 (L.map bR.enc))),(4,.v (enc i)),(5,.v (enc k)),(6,.b [.str S,.str B[k]!.atom.name,.bool B[k]!.neg]),(7,.v (enc a))],[]⟩)
       (λa=>a<=L.length/\xg x L=L.take a++xg x (L.drop a)) (λa=>L.length-a) 0 ⟨aqw _,rfl⟩ ci ?_
      rintro a ⟨dL,G⟩;rcases aqt a L.length with aG|aG
      ·obtain⟨c1,c2⟩:=Wn aG G;cases b:p3 L[a]! x with
       |true =>
        rw[ah]at b
        (repeat' first|simp(disch:=first|exact ai|fail) only[go_sem,b]|(refine ao ?_ ?_<;>intro))
        exact⟨a+1,⟨am,c1 (by rw[ah];exact b)⟩,am,co⟩
       |false =>
        have y:=c2 b;rw[ah]at b;have iH:=Yu L[a]! S B[k]!.atom.name B[k]!.neg;rw[<-ah]at iH;cases he:decide (L[a]! = x)with
        |true =>
         rw[if_pos (of_decide_eq_true he)]at y;rw[he]at iH
         (repeat' first|simp(disch:=first|exact ai|fail) only[go_sem,b,iH]|(refine ao ?_ ?_<;>intro))
         exact⟨(k+1,.list (some 141) 3 (L.map bR.enc)),⟨ap,.inr (by rw[u,y]),λh=>nf⟩,ap,co⟩
        |false =>
         rw[if_neg (of_decide_eq_false he)]at y;rw[he]at iH;obtain⟨H,J,O⟩:=Jo (.agg [.str S,.str B[k]!.atom.name,.bool B[k]!.neg]) (i:=a) C
         (repeat' first|simp(disch:=first|exact ai|fail) only[go_sem,b,iH,H,J,O]|(refine ao ?_ ?_<;>intro))
         exact⟨(k+1,.list (some 141) 3 ((xg x L).map bR.enc)),⟨ap,.inr (by rw[u]),λh=>nf⟩,ap,by rw[Jp (y.trans (by rw[ah]))];(exact bl)⟩
      ·rw[aqV aG,aqB aG,xg]at G;obtain rfl:a=L.length:=by omega
       obtain⟨H,J,O⟩:=Jo (.agg [.str S,.str B[k]!.atom.name,.bool B[k]!.neg]) (i:=L.length) C
       (repeat' first|simp(disch:=first|exact ai|fail) only[go_sem,H,J,O]|(refine ao ?_ ?_<;>intro))
       exact⟨(k+1,.list (some 141) 3 ((xg x L).map bR.enc)),⟨ap,.inr (by rw[u]),λh=>nf⟩,ap,by rw[Jp (L:=L) (i:=L.length) (s:=S) (d:=B[k]!.atom.name) (n:=B[k]!.neg) (G.trans (by rw[ah,aKc,List.drop_length];rfl))];(exact bl)⟩
  ·have e:=Q (.inl am);have kq:k=B.length:=by omega
   (repeat' first|simp(disch:=first|exact ai|fail) only[go_sem,<-fN,<-ds]|(refine ao ?_ ?_<;>intro))
   exact⟨(i+1,w),⟨ap,by rw[<-e,<-cf];exact c,j⟩,ap,co⟩
 ·rw[aqB h]at g;rcases g with⟨rfl,e⟩|rfl
  ·rw[e]
   (repeat' first|simp(disch:=first|exact ai|fail) only[go_sem]|(refine ao ?_ ?_<;>intro))
   exact⟨_,rfl,bx.aS _⟩
  ·(repeat' first|simp(disch:=first|exact ai|fail) only[go_sem]|(refine ao ?_ ?_<;>intro))
   exact⟨_,rfl,bx.disown _ _ _⟩
end AM
