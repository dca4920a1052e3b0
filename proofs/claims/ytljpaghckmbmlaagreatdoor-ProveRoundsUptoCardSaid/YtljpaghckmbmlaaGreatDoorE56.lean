/- What functions of the given program do, as calls of the machine. Conditions: names and lists are bounded where that is said. -/
import Derived.Test.YtljpaghckmbmlaaGreatDoorE42
import Derived.Test.YtljpaghckmbmlaaGreatDoorAm9
import Derived.Test.YtljpaghckmbmlaaGreatDoorE29
set_option linter.unusedSimpArgs false
set_option maxRecDepth 100000
set_option maxHeartbeats 4000000
set_option linter.unusedVariables false
namespace AM
open Nat renaming lt_or_ge -> VX,zero_le -> VY,le_trans -> Wg,eq_zero_or_pos -> Wp
open List renaming all_cons -> VZ,all_nil -> V0,drop_eq_nil_of_le -> V5,take_of_length_le -> V6,mem_cons -> V7,length_map -> V8,map_append -> Wa,take_length -> Wb,mem_map -> Wd,length_append -> Wf,take_zero -> Wi,length_eq_zero_iff -> Wj,map_cons -> Wl,length_take -> Wn,map_nil -> Wo,getElem?_cons_zero -> Wq,set_cons_zero -> Wr,length_cons -> Ws,not_mem_nil -> Wt,mem_flatMap -> Wu,all_eq_true -> Wv,foldr_cons -> Ww,foldr_nil -> Wx,length_filter_le -> apJ,all_append -> apK
open Bool renaming and_self -> V1,not -> V2,false_and -> V9,eq_iff_iff -> Wc,true_and -> We,false_or -> Wk,and_eq_true -> Wm
open Int renaming natCast_add -> WD,natCast_one -> apH,natCast_zero -> apI
open Go Go.Proofs
open Tryz renaming prog -> ν
open Enc (enc)
def nm(s:ak):AV:=match ln s with
 |some k=>.bg [.int .i64 k.args,.bool true]|none=>.bg [.int .i64 0,.bool false]
def vp(t:I):Nat :=
 if !dM t.name||t.args.any gM then 4
 else if iK t||(match ln t.name with|some k=>decide ((t.args.length:Int)≠k.args)|none=>false)then 5
 else if 4<cc t then 3 else 0
def zc(s:ak):Bool:=match ln s with|some k=>k.body|none=>true
noncomputable def TX:List iZ:=[(199,eh λ(s:ak)=>nm s),
 (173,eh λ(s:ak)=>enc (decide (s≠[116,114,117,101]/\s≠[100,111,101,115]/\s≠eG))),
 (126,eh λ(l:Lit)=>enc (dB l)),
 (177,hj λ(l:List ak)(s:ak)=>enc (l.contains s)),
 (174,eh λ(s:ak)=>enc (zc s)),
 (172,eh λ(t:I)=>enc (vp t)),
 (201,eh λ(t:I)=>enc (V2 (iK t))),
 (200,eh λ(t:I)=>enc (V2 (t.args.any gM)))]
noncomputable def gr:bj:=ij fR (e1 TX)
instance aPo{D:bj}[h:bt D gr]:bt D fR:=h.ke
def TY:List Nat:=[199,173,126,177,174,172,201,200]++TU
theorem alA:fq gr TY:=fq.or aly (kf TX)
variable {f:Nat}{F:List AV->Option AV}
theorem vq(h:∀xs,e1 TX f xs=F xs)(hk:TU.contains f=false:=by rfl):∀xs,gr f xs=F xs:=λxs=>by rw[<-h];exact kg aly hk
variable {D:bj}{x1:AV}{t:I}{K:AV->Prop}{tg:aN K}
theorem aKS[bt D gr][aT x1 t](h:aA ν aD 201 [enc t] (enc (V2 (iK t)))):b1 ν aD D 201 [x1] K tg=K (enc (V2 (iK t))):=ec (D':=gr) (F:=λ(t:I)=>enc (V2 (iK t))) (vq λ_=>rfl) h
theorem aKT[bt D gr][aT x1 t](h:aA ν aD 200 [enc t] (enc (V2 (t.args.any gM)))):b1 ν aD D 200 [x1] K tg=K (enc (V2 (t.args.any gM))):=ec (D':=gr) (F:=λ(t:I)=>enc (V2 (t.args.any gM))) (vq λ_=>rfl) h
def Hh:List I->AV
 |[]=>.aS 2|x::r=>.list (some 31) 2 ((x::r).map I.enc)
theorem Lw(x:I)(r:List I):Hh (x::r)=.list (some 31) 2 ((x::r).map I.enc):=rfl
theorem aKU:∀(t:I)(s:List aY),aA ν aD 76 [enc s,enc t] (enc (eD (dn s) t)):=I.ind λt ih s=>by
 refine aA.sy λm d=>?_;have o:=((I.j5 t).1 d).2.1;have p:M=1099511627776:=rfl;rw[C7,<-DG];cases a:eJ t with
 |true =>
  rw[if_pos rfl];cases de:jr s t.name with
  |some u =>
   refine aA.intro (D:=gr) PK cX c7 ?_;unfold JJ;simp(disch:=first|exact ai|fail) only[go_sem]
   (repeat' first|simp(disch:=first|exact ai|fail) only[go_sem,a,de,za]|(refine ao ?_ ?_<;>intro))
   all_goals rfl
  |none =>
   refine aA.intro (D:=gr) PK cX c7 ?_;unfold JJ;simp(disch:=first|exact ai|fail) only[go_sem]
   (repeat' first|simp(disch:=first|exact ai|fail) only[go_sem,a,de,za]|(refine ao ?_ ?_<;>intro))
   all_goals rfl
 |false =>
  rw[if_neg be];refine aA.gK (D:=gr) PK cX c7 lm ?_;unfold JJ;refine bU @a ?_;refine bQ (λi:Nat=>⟨N [(0,.v (enc s)),(3,.v (.cL t.enc.cells)),(4,.b [.str [],.aS 2]),(7,.b [.str t.name,Hh ((t.args.take i).map (eD (dn s)))]),(8,.v (enc i))],[]⟩)
   (λi=>i<=t.args.length) (λi=>t.args.length-i) 0 (VY _) (NW @Wi.{0} @Wo.{0,0} (show Hh []=.aS 2 from rfl)) ?_
  intro i al;rcases VX i t.args.length with h|h
  ·have hd:=ih t.args[i]! (ek h) s;have c:=λ{K:AV->Prop}{tg:aN K}=>aKw (D:=gr) (K:=K) (tg:=tg) (x1:=enc s) (x2:=t.args[i]!.enc) hd;rw[show(enc s:AV)=.list none 3 (s.map aY.enc) from rfl]at c;obtain⟨L,cf⟩:∃L,L=(t.args.take i).map (eD (dn s)):=⟨_,rfl⟩;have g:L.length=i:=by rw[cf];simp;omega
   have ax:(t.args.take i++[t.args[i]!]).map (eD (dn s))=L++[eD (dn s) t.args[i]!]:=by rw[Wa,<-cf];rfl
   rw[<-cf];cases L with
   |nil =>
    rw[show Hh []=.aS 2 from rfl];refine gS @a @c ?_;exact⟨i+1,am,am,by(exact og @ax @Lw)⟩
   |cons x r =>
    rw[Lw x r];have j:r.length+1+1<=M:=by simp only[Ws]at g;omega
    refine mb @a @c @V8.{0,0} @j ?_;exact⟨i+1,am,am,by(exact og @ax @Lw)⟩
  ·obtain rfl:i=t.args.length:=by omega
   rw[Wb];obtain⟨L,cf⟩:∃L,L=t.args.map (eD (dn s)):=⟨_,rfl⟩;rw[<-cf];cases L with
   |nil =>
    have b:t.args=[]:=List.map_eq_nil_iff.1 cf.symm;rw[show Hh []=.aS 2 from rfl,if_pos (by rw[b];rfl)];refine bU @a ?_;have k:t.enc=.agg [.str t.name,.list none 2 []]:=by obtain⟨n,l⟩:=t;simp only[I.args]at b;subst b;rfl
    exact⟨_,rfl,by rw[k];exact bx.agg (.cons (bx.refl _) (.cons (bx.aS _) .nil))⟩
   |cons x r =>
    have b:t.args.length≠0:=λe=>by rw[Wj.1 e]at cf;cases cf
    rw[Lw,if_neg b];refine bU @a ?_;exact⟨_,rfl,bx.agg (.cons (bx.refl _) (.cons (by rw[oj];exact bx.refl _) .nil))⟩
variable {x2:AV}
theorem aKV[bt D fR]{s:List aY}[aT x1 s][aT x2 t]  :b1 ν aD D 76 [x1,x2] K tg=K (enc (eD (dn s) t)):=ik (D':=fR) (F:=λ(s:List aY)(t:I)=>enc (eD (dn s) t)) (rX λ_=>rfl) (aKU t s)
attribute [go_sem ↓ 2000] aKV
theorem aKW(l:Lit):aA ν aD 126 [enc l] (enc (dB l)):=by
 refine aA.intro (D:=gr) azh cX c7 ?_;unfold aco;simp(disch:=first|exact ai|fail) only[go_sem];cases a:l.neg
 ·refine bU @a ?_;all_goals simp_all[dB,eG]
 ·(repeat' first|refine bU @a ?_|(refine ao ?_ ?_<;>intro))
  all_goals simp_all[dB,eG]
theorem aKX[bt D gr]{l:Lit}[aT x1 l]  :b1 ν aD D 126 [x1] K tg=K (enc (dB l)):=ec (D':=gr) (F:=λ(l:Lit)=>enc (dB l)) (vq λ_=>rfl) (aKW l)
attribute [go_sem ↓ 2000] aKX
theorem aKY(s:ak):aA ν aD 173 [enc s] (enc (decide (s≠[116,114,117,101]/\s≠[100,111,101,115]/\s≠eG))):=by
 refine aA.intro (D:=gr) azP cX c7 ?_;unfold adK;simp(disch:=first|exact ai|fail) only[go_sem]
 (repeat' first|refine ag ?_|(refine ao ?_ ?_<;>intro))
 all_goals simp_all[eG]
 rw[Wc];simp
variable {s:ak}
theorem aKZ[bt D gr][aT x1 s]  :b1 ν aD D 173 [x1] K tg=K (enc (decide (s≠[116,114,117,101]/\s≠[100,111,101,115]/\s≠eG))):=ec (D':=gr) (F:=λ(s:ak)=>enc (decide (s≠[116,114,117,101]/\s≠[100,111,101,115]/\s≠eG))) (vq λ_=>rfl) (aKY s)
attribute [go_sem ↓ 2000] aKZ
theorem aK0(l:List ak)(s:ak):aA ν aD 177 [enc l,enc s] (enc (l.contains s)):=by
 refine aA.h4 λae=>?_;obtain⟨ae,_⟩:=ae;have a:M=1099511627776:=rfl;refine aA.intro (D:=gr) azS cX c7 ?_;unfold adX;simp(disch:=first|exact ai|fail) only[go_sem];refine bQ (λ(i:Nat)=>⟨N [(0,.v (enc l)),(1,.v (enc s)),(5,.v (enc i))],[]⟩) (λ(i:Nat)=>i<=l.length/\l.contains s=(l.drop i).contains s) (λ(i:Nat)=>l.length-i) 0 ci ew ?_;rintro i ⟨al,ar⟩
 (repeat' first|simp(disch:=first|exact ai|fail) only[go_sem]|(refine ao ?_ ?_<;>intro))
 ·rename_i h;have:=eq_of_beq h
  rw[ar,fi am,this];simp
 ·rename_i h;exact⟨i+1,⟨am,by rw[ar,fi am,List.contains_cons];simp only[beq_eq_false_iff_ne]at h;rw[show(s==l[i]!)=false by simp only[beq_eq_false_iff_ne];exact λe=>h e.symm,Wk]⟩,am,co⟩
 ·rw[ar,V5 am];rfl
theorem aK1[bt D gr]{l:List ak}[aT x1 l][aT x2 s]  :b1 ν aD D 177 [x1,x2] K tg=K (enc (l.contains s)):=ik (D':=gr) (F:=λ(l:List ak)(s:ak)=>enc (l.contains s)) (vq λ_=>rfl) (aK0 l s)
attribute [go_sem ↓ 2000] aK1
theorem aK2(s:ak):aA ν aD 199 [enc s] (nm s):=by
 have a:(∀k∈kY,¬s=k.name)->ln s=none:=λh=>List.find?_eq_none.2 λk hk=>by simpa using λe=>h k hk e.symm
 refine aA.intro (D:=gr) az7 cX (by unfold nm;split<;>rfl) ?_;unfold aew
 (repeat' first|simp(disch:=first|exact ai|fail) only[go_sem]|(refine ao ?_ ?_<;>intro))
 all_goals first
  |(simp_all[nm,ln,kY];done)|rw[nm,a (by simp_all[kY])]
theorem aK3[bt D gr][aT x1 s]  :b1 ν aD D 199 [x1] K tg=K (nm s):=ec (D':=gr) (F:=λ(s:ak)=>nm s) (vq λ_=>rfl) (aK2 s)
attribute [go_sem ↓ 2000] aK3
theorem aK4:∀t:I,aA ν aD 201 [enc t] (enc (V2 (iK t))):=I.ind λt ih=>by
 refine aA.h4 λae=>?_;obtain⟨_,ae,_⟩:=(I.j5 t).1 ae;have e:M=1099511627776:=rfl;rw[QV];refine aA.intro (D:=gr) az9 cX c7 ?_;unfold aeC;simp(disch:=first|exact ai|fail) only[go_sem];refine bQ (λ(i:Nat)=>⟨N [(1,.v (.cL t.enc.cells)),(3,.v (enc i))],[]⟩) (λ(i:Nat)=>i<=t.args.length/\(t.args.drop i).any iK=t.args.any iK) (λ(i:Nat)=>t.args.length-i) 0 ci dl ?_;rintro i ⟨g,a⟩;rcases VX i t.args.length with h|h
 ·have c:=λ{K:AV->Prop}{tg:aN K}(d:i<t.args.length)=>aKS (D:=gr) (K:=K) (tg:=tg) (x1:=t.args[i]!.enc) (ih t.args[i]! (ek d));rw[fi h,List.any_cons]at a;cases b:iK t.args[i]! with
  |true =>
   rw[b,Bool.true_or]at a;rw[<-a,Bool.or_true]
   (repeat' first|simp(disch:=first|exact ai|fail) only[go_sem,c,b]|(refine ao ?_ ?_<;>intro))
   all_goals rfl
  |false =>
   rw[b,Wk]at a
   (repeat' first|simp(disch:=first|exact ai|fail) only[go_sem,c,b]|(refine ao ?_ ?_<;>intro))
   exact⟨i+1,⟨am,a⟩,am,co⟩
 ·rw[V5 h]at a;rw[<-a,List.any_nil,Bool.or_false]
  (repeat' first|simp(disch:=first|exact ai|fail) only[go_sem]|(refine ao ?_ ?_<;>intro))
  rw[show(!decide (4<t.args.length))=decide ((t.args.length:Int)<=4) by rw[Wc];simp;omega]
theorem aK5[bt D gr][aT x1 t]  :b1 ν aD D 201 [x1] K tg=K (enc (V2 (iK t))):=ec (D':=gr) (F:=λ(t:I)=>enc (V2 (iK t))) (vq λ_=>rfl) (aK4 t)
attribute [go_sem ↓ 2000] aK5
theorem aK6:∀t:I,aA ν aD 200 [enc t] (enc (V2 (t.args.any gM))):=I.ind λt ih=>by
 refine aA.h4 λae=>?_;obtain⟨_,ae,_⟩:=(I.j5 t).1 ae;have q:M=1099511627776:=rfl;refine aA.intro (D:=gr) az8 cX c7 ?_;unfold aez;simp(disch:=first|exact ai|fail) only[go_sem];refine bQ (λ(i:Nat)=>⟨N [(1,.v (.cL t.enc.cells)),(3,.v (enc i))],[]⟩) (λ(i:Nat)=>i<=t.args.length/\(t.args.drop i).any gM=t.args.any gM) (λ(i:Nat)=>t.args.length-i) 0 ci dl ?_;rintro i ⟨r,d⟩;rcases VX i t.args.length with h|h
 ·have c:=λ{K:AV->Prop}{tg:aN K}(p:i<t.args.length)=>aKT (D:=gr) (K:=K) (tg:=tg) (x1:=t.args[i]!.enc) (ih t.args[i]! (ek p));rw[fi h,List.any_cons]at d;have o:=DO t.args[i]!.args.length;have hm:=Kn t.args[i]!;have ok:gM t.args[i]! = true->(false=V2 (t.args.any gM)):=λe=>by rw[<-d,e];rfl
  have m:gM t.args[i]! = false->(t.args.drop (i+1)).any gM=t.args.any gM:=λe=>by rw[<-d,e];rfl
  by_cases g:t.args[i]!.args.length=0
  ·have b:((t.args[i]!.args.length:Int)==0)=true:=by rw[o];exact decide_eq_true g
   have aG:t.args[i]!.args.any gM=false:=by rw[Wj.1 g];rfl
   rw[if_pos g]at hm;cases a:dM t.args[i]!.name<;>cases j:fw t.args[i]!.name<;>cases k:eg t.args[i]!.name;all_goals
    rw[a,j,k]at hm;first
    |(have e:=ok hm
      rw[<-e]
      (repeat' first|simp(disch:=first|exact ai|fail) only[go_sem,c,b,aG,a,CL j,k]|(refine ao ?_ ?_<;>intro))
      all_goals rfl)
    |(have e:=ok hm
      rw[<-e]
      (repeat' first|simp(disch:=first|exact ai|fail) only[go_sem,c,b,aG,a,CK j,k]|(refine ao ?_ ?_<;>intro))
      all_goals rfl)
    |(have e:=m hm
      (repeat' first|simp(disch:=first|exact ai|fail) only[go_sem,c,b,aG,a,CL j,k]|(refine ao ?_ ?_<;>intro))
      exact⟨i+1,⟨am,e⟩,am,co⟩)
    |(have e:=m hm
      (repeat' first|simp(disch:=first|exact ai|fail) only[go_sem,c,b,aG,a,CK j,k]|(refine ao ?_ ?_<;>intro))
      exact⟨i+1,⟨am,e⟩,am,co⟩)
  ·have b:((t.args[i]!.args.length:Int)==0)=false:=by rw[o];exact decide_eq_false g
   rw[if_neg g]at hm;have l:ix t.args[i]!.name=.bg [.int .i64 ((fw t.args[i]!.name).getD 0:Nat),.bool (fw t.args[i]!.name).isSome]:=rfl;cases a:dM t.args[i]!.name<;>cases n:t.args[i]!.args.any gM;all_goals
    rw[a,n]at hm;first
    |(have e:=ok hm
      rw[<-e]
      (repeat' first|simp(disch:=first|exact ai|fail) only[go_sem,c,b,a,n,l]|(refine ao ?_ ?_<;>intro))
      all_goals rfl)
    |(have e:=m hm
      (repeat' first|simp(disch:=first|exact ai|fail) only[go_sem,c,b,a,n,l]|(refine ao ?_ ?_<;>intro))
      exact⟨i+1,⟨am,e⟩,am,co⟩)
 ·rw[V5 h]at d;rw[<-d,List.any_nil]
  (repeat' first|simp(disch:=first|exact ai|fail) only[go_sem]|(refine ao ?_ ?_<;>intro))
  all_goals rfl
theorem aK7[bt D gr][aT x1 t]  :b1 ν aD D 200 [x1] K tg=K (enc (V2 (t.args.any gM))):=ec (D':=gr) (F:=λ(t:I)=>enc (V2 (t.args.any gM))) (vq λ_=>rfl) (aK6 t)
attribute [go_sem ↓ 2000] aK7
theorem aK8(s:ak):aA ν aD 174 [enc s] (enc (zc s)):=by
 unfold zc;cases hk:ln s with
 |none =>
  have a:nm s=.bg [.int .i64 0,.bool false]:=by rw[nm,hk]
  refine aA.intro (D:=gr) afr cX c7 ?_;unfold PF;simp(disch:=first|exact ai|fail) only[go_sem]
  (repeat' first|simp(disch:=first|exact ai|fail) only[go_sem,a]|(refine ao ?_ ?_<;>intro))
  all_goals rfl
 |some k =>
  have a:nm s=.bg [.int .i64 k.args,.bool true]:=by rw[nm,hk]
  have hm:=List.mem_of_find?_eq_some hk;have ax:=List.find?_some hk;simp only[beq_iff_eq]at ax;simp only[kY,V7,Wt,or_false]at hm;subst ax;refine aA.intro (D:=gr) afr cX c7 ?_;unfold PF;simp(disch:=first|exact ai|fail) only[go_sem]
  (repeat' first|simp(disch:=first|exact ai|fail) only[go_sem,a]|(refine ao ?_ ?_<;>intro))
  all_goals (rcases hm with rfl|rfl|rfl|rfl|rfl|rfl|rfl|rfl|rfl|rfl<;>simp_all)
theorem aK9[bt D gr][aT x1 s]  :b1 ν aD D 174 [x1] K tg=K (enc (zc s)):=ec (D':=gr) (F:=λ(s:ak)=>enc (zc s)) (vq λ_=>rfl) (aK8 s)
attribute [go_sem ↓ 2000] aK9
theorem aLa(t:I)(hd:cc t<=1000000):aA ν aD 172 [enc t] (enc (vp t)):=by
 have c:decide ((cc t:Int)>4)=decide (4<cc t):=by rw[Wc];simp;omega
 unfold vp;cases b:dM t.name with
 |false =>
  cases hk:ln t.name with
  |none =>
   have a:nm t.name=.bg [.int .i64 0,.bool false]:=by rw[nm,hk]
   refine aA.intro (D:=gr) JR cX c7 ?_;unfold FJ;simp(disch:=first|exact ai|fail) only[go_sem]
   (repeat' first|simp(disch:=first|exact ai|fail) only[go_sem,a,b]|(refine ao ?_ ?_<;>intro))
   all_goals rfl
  |some k =>
   have a:nm t.name=.bg [.int .i64 k.args,.bool true]:=by rw[nm,hk]
   refine aA.intro (D:=gr) JR cX c7 ?_;unfold FJ;simp(disch:=first|exact ai|fail) only[go_sem]
   (repeat' first|simp(disch:=first|exact ai|fail) only[go_sem,a,b]|(refine ao ?_ ?_<;>intro))
   all_goals rfl
 |true =>
  cases d:t.args.any gM<;>cases e:iK t<;>cases g:decide (4<cc t);all_goals
   cases hk:ln t.name with
   |none =>
    have a:nm t.name=.bg [.int .i64 0,.bool false]:=by rw[nm,hk]
    refine aA.intro (D:=gr) JR cX c7 ?_;unfold FJ;simp(disch:=first|exact ai|fail) only[go_sem];refine oX @a @b @d @e @c @g ?_;all_goals first|(simp_all;done)|(simp_all;rw[if_neg am];rfl)
   |some k =>
    have a:nm t.name=.bg [.int .i64 k.args,.bool true]:=by rw[nm,hk]
    refine aA.intro (D:=gr) JR cX c7 ?_;unfold FJ;simp(disch:=first|exact ai|fail) only[go_sem]
    (repeat' first|refine oX @a @b @d @e @c @g ?_|(refine ao ?_ ?_<;>intro))
    all_goals first|(simp_all;done)|(simp_all;rw[if_neg am];rfl)
theorem aLb[bt D gr][aT x1 t](h:cc t<=1000000) :b1 ν aD D 172 [x1] K tg=K (enc (vp t)):=ec (D':=gr) (F:=λ(t:I)=>enc (vp t)) (vq λ_=>rfl) (aLa t h)
attribute [go_sem ↓ 2000] aLb
open Enc (enc)
noncomputable def TZ:List iZ:=[(136,eh λ(r:aU)=>enc (kG (dx r) true)),
 (138,eh λ(r:aU)=>enc (nL r)),
 (137,eh λ(r:aU)=>enc (hE (dx r))),
 (88,eh λ(r:aU)=>enc (fK r))]
noncomputable def lS:bj:=ij gr (e1 TZ)
instance aPp{D:bj}[h:bt D lS]:bt D gr:=h.ke
def T0:List Nat:=[136,138,137,88]++TY
theorem alC:fq lS T0:=fq.or alA (kf TZ)
theorem Lx(h:∀xs,e1 TZ f xs=F xs)(hk:TY.contains f=false:=by rfl):∀xs,lS f xs=F xs:=λxs=>by rw[<-h];exact kg alA hk
variable {r:aU}
theorem aLc[bt D lS][aT x1 r](h:aA ν aD 88 [enc r] (enc (fK r))):b1 ν aD D 88 [x1] K tg=K (enc (fK r)):=ec (D':=lS) (F:=λ(r:aU)=>enc (fK r)) (Lx λ_=>rfl) h
def Hi(s:ak):Bool:=match ln s with|some k=>k.head|none=>true
theorem aLd(s:ak):decide (s≠[116,114,117,101]/\s≠[100,111,101,115]/\s≠eG)=Hi s:=by
 unfold Hi;cases hk:ln s with
 |none =>
  have h:=List.find?_eq_none.1 hk;have f:∀k∈kY,s≠k.name:=λk hm e=>h k hm (by simp[e]);simp only[decide_eq_true_eq];exact⟨f ⟨[116,114,117,101],1,false,true⟩ (by simp[kY]),f ⟨[100,111,101,115],2,false,true⟩ (by simp[kY]),f ⟨[100,105,115,116,105,110,99,116],2,false,true⟩ (by simp[kY])⟩
 |some k =>
  have hm:=List.mem_of_find?_eq_some hk;have ax:=List.find?_some hk;simp only[beq_iff_eq]at ax;simp only[kY,V7,Wt,or_false]at hm;subst ax;rcases hm with rfl|rfl|rfl|rfl|rfl|rfl|rfl|rfl|rfl|rfl<;>decide
theorem alD(t:I)(h:Bool):kj t h=if vp t≠0 then vp t else if(if h then Hi t.name else zc t.name)then 0 else 6:=by
 have hm:(!dM t.name||gM t)=(!dM t.name||t.args.any gM):=by
  rw[Kn];cases j:dM t.name with
  |false=>rfl|true =>
   by_cases c:t.args.length=0
   ·rw[if_pos c,Wj.1 c];simp
   ·rw[if_neg c];simp
 unfold kj vp Hi zc;rw[hm];generalize (!dM t.name||t.args.any gM)=a;generalize l:iK t=en;by_cases b:4<cc t
 ·cases ln t.name with
  |none=>cases a<;>cases en<;>cases h<;>simp[b]|some k =>
   obtain⟨o8,d,e,g⟩:=k;by_cases i:(t.args.length:Int)=d;all_goals cases a<;>cases en<;>cases h<;>cases e<;>cases g<;>simp[b,i]
 ·cases ln t.name with
  |none=>cases a<;>cases en<;>cases h<;>simp[b]|some k =>
   obtain⟨o8,d,e,g⟩:=k;by_cases i:(t.args.length:Int)=d;all_goals cases a<;>cases en<;>cases h<;>cases e<;>cases g<;>simp[b,i]
theorem aLe(r:aU)(m:∀a∈dx r,cc a<=1000000):aA ν aD 136 [enc r] (enc (kG (dx r) true)):=by
 refine aA.h4 λae=>?_;have p:r.body.length<=M:=ae.2.2.1;have q:M=1099511627776:=rfl;have u:=m r.head (by simp[dx]);have c:=aLd r.head.name;rw[dx,kG,alD];simp only[if_true];obtain⟨e,he⟩:∃e,e=vp r.head:=⟨_,rfl⟩;rw[<-he];by_cases d:e=0
 ·subst d;cases hk:Hi r.head.name with
  |false =>
   rw[hk]at c;refine aA.intro (D:=lS) PN cX c7 ?_;unfold JP;simp(disch:=first|exact ai|fail) only[go_sem]
   (repeat' first|refine gS (Eq.symm @he) @c ?_|(refine ao ?_ ?_<;>intro))
   all_goals rfl
  |true =>
   rw[hk]at c;simp only[ne_eq,not_true_eq_false,if_false,if_true];obtain⟨R,de⟩:∃R,R=kG (r.body.map Lit.atom) false:=⟨_,rfl⟩;rw[<-de];refine aA.intro (D:=lS) PN cX c7 ?_;unfold JP;simp(disch:=first|exact ai|fail) only[go_sem];refine gS (Eq.symm @he) @c ?_;refine bQ (λi:Nat=>⟨N [(1,.v (.cL r.enc.cells)),(4,.v (enc i))],[]⟩)
    (λi=>i<=r.body.length/\kG ((r.body.drop i).map Lit.atom) false=R) (λi=>r.body.length-i) 0 ⟨VY _,de.symm⟩ ew ?_
   rintro i ⟨v,b⟩;rcases VX i r.body.length with h|h
   ·have hd:=m r.body[i]!.atom (by simp only[dx,V7,Wd];exact .inr ⟨_,ek h,rfl⟩);rw[fi h,Wl,kG,alD]at b;simp only[Bool.false_eq_true,if_false]at b;obtain⟨g,j⟩:∃g,g=vp r.body[i]!.atom:=⟨_,rfl⟩;rw[<-j]at b;by_cases k:g=0
    ·subst k;cases l:zc r.body[i]!.atom.name with
     |true =>
      rw[l]at b;simp only[ne_eq,not_true_eq_false,if_false,if_true]at b;refine gS (Eq.symm @j) @l ?_;exact⟨i+1,⟨am,b⟩,am,co⟩
     |false =>
      rw[l]at b;rw[<-b]
      (repeat' first|simp(disch:=first|exact ai|fail) only[go_sem,<-j,l]|(refine ao ?_ ?_<;>intro))
      all_goals rfl
    ·have n:((g:Int) != 0)=true:=by simp[k]
     rw[if_pos k,if_neg k]at b;rw[<-b]
     (repeat' first|simp(disch:=first|exact ai|fail) only[go_sem,<-j,n]|(refine ao ?_ ?_<;>intro))
     all_goals rfl
   ·rw[V5 h]at b;rw[<-b]
    (repeat' first|simp(disch:=first|exact ai|fail) only[go_sem]|(refine ao ?_ ?_<;>intro))
    all_goals rfl
 ·have o:((e:Int) != 0)=true:=by simp[d]
  rw[if_pos d,if_neg mX];refine aA.intro (D:=lS) PN cX c7 ?_;unfold JP;simp(disch:=first|exact ai|fail) only[go_sem]
  (repeat' first|simp(disch:=first|exact ai|fail) only[go_sem,<-he,o]|(refine ao ?_ ?_<;>intro))
  all_goals rfl
open Enc (enc)
def Bc:List aU->Nat->Nat×Nat
 |[],_=>(0,0)|r::rs,i=>if fK r=0 then Bc rs (i+1)else(i,fK r)
def rY(l:List aU):Nat×Nat:=if 128<l.length then(128,2)else Bc l 0
theorem alE:∀(l:List aU)(i:Nat),(Bc l i).2=((l.find? λr=>!(fK r==0)).map fK).getD 0
 |[],_=>rfl|r::rs,i=>by
  rw[Bc,List.find?_cons];by_cases h:fK r=0
  ·rw[if_pos h,alE rs];simp[h]
  ·rw[if_neg h,show(fK r==0)=false by simpa using h];rfl
theorem aLf(l:List aU):(rY l).2=hG l:=by
 unfold rY hG;split
 ·rfl
 ·exact alE l 0
noncomputable def T2:List iZ:=[(44,eh λ(l:List aU)=>.bg [.int .i64 ((rY l).1:Nat),.int .i64 ((rY l).2:Nat)])]
noncomputable def Bd:bj:=ij lS (e1 T2)
instance aPq{D:bj}[h:bt D Bd]:bt D lS:=h.ke
def alF:List Nat:=[44]++T0
theorem aLg:fq Bd alF:=fq.or alC (kf T2)
theorem aLh(h:∀xs,e1 T2 f xs=F xs)(hk:T0.contains f=false:=by rfl):∀xs,Bd f xs=F xs:=λxs=>by rw[<-h];exact kg alC hk
theorem aLi(l:List aU)(g:∀r∈l,aA ν aD 88 [enc r] (enc (fK r))):aA ν aD 44 [enc l] (.bg [.int .i64 ((rY l).1:Nat),.int .i64 ((rY l).2:Nat)]):=by
 refine aA.h4 λae=>?_;obtain⟨ae,_⟩:=ae;have m:M=1099511627776:=rfl;unfold rY;by_cases d:128<l.length
 ·rw[if_pos d];have hd:decide ((l.length:Int)>128)=true:=decide_eq_true am;refine aA.intro (D:=lS) ae6 cX c7 ?_;unfold Pd;simp(disch:=first|exact ai|fail) only[go_sem]
  (repeat' first|refine bU @hd ?_|(refine ao ?_ ?_<;>intro))
  all_goals rfl
 ·rw[if_neg d];have hd:decide ((l.length:Int)>128)=false:=decide_eq_false am;obtain⟨R,de⟩:∃R,R=Bc l 0:=⟨_,rfl⟩;rw[<-de];refine aA.intro (D:=lS) ae6 cX c7 ?_;unfold Pd;simp(disch:=first|exact ai|fail) only[go_sem];refine bU @hd ?_;refine bQ (λi:Nat=>⟨N [(0,.v (enc l)),(4,.v (enc i))],[]⟩)
   (λi=>i<=l.length/\Bc (l.drop i) i=R) (λi=>l.length-i) 0 ⟨VY _,de.symm⟩ ew ?_
  rintro i ⟨n,a⟩;rcases VX i l.length with h|h
  ·have b:=λ{K:AV->Prop}{tg:aN K}(j:i<l.length)=>aLc (D:=lS) (K:=K) (tg:=tg) (x1:=l[i]!.enc) (g l[i]! (ek j));rw[fi h,Bc]at a;obtain⟨e,he⟩:∃e,e=fK l[i]!:=⟨_,rfl⟩;rw[<-he]at a;simp only[<-he]at b;by_cases c:e=0
   ·subst c;rw[if_pos rfl]at a;refine bU @b ?_;exact⟨i+1,⟨am,a⟩,am,co⟩
   ·have k:((e:Int) != 0)=true:=by simp[c]
    rw[if_neg c]at a;rw[<-a]
    (repeat' first|simp(disch:=first|exact ai|fail) only[go_sem,b,k]|(refine ao ?_ ?_<;>intro))
    all_goals rfl
  ·rw[V5 h]at a;rw[<-a]
   (repeat' first|simp(disch:=first|exact ai|fail) only[go_sem]|(refine ao ?_ ?_<;>intro))
   all_goals rfl
open Enc (enc)
noncomputable def aLj:List AV->Option AV
 |[.aS 1,y]=>eh (λt:I=>enc ((ck t).foldl gL [])) [y]|_=>none
noncomputable def alG:List iZ:=[(175,aLj)]
noncomputable def rZ:bj:=ij Bd (e1 alG)
instance aPr{D:bj}[h:bt D rZ]:bt D Bd:=h.ke
def T3:List Nat:=[175]++alF
theorem alH:fq rZ T3:=fq.or aLg (kf alG)
theorem aLk(h:eJ t=true):ck t=[t.name]/\eg t.name=true:=by
 rw[zb,Wm]at h;exact⟨by rw[nJ,if_pos (of_decide_eq_true h.1)],h.2⟩
theorem aLl(h:eJ t=false)(a:t.args.length=0)(ys:List ak):(ck t).foldl gL ys=ys:=by
 rw[zb,decide_eq_true a,We]at h;rw[nJ,if_pos a];simp only[List.foldl_cons,List.foldl_nil];exact Qs h
theorem alI:∀(t:I)(x:AV)(ys:List ak)(H:List ay),t.eS->wX x ys->ys.length+(ck t).length<=1000000 ->
  bB ν aD 175 [x,t.enc] H λr H'=>wX r ((ck t).foldl gL ys)/\H'=H:=I.ind λt ih x ys H z o hd=>by
 obtain⟨_,ae,A⟩:=(I.j5 t).1 z;have E:M=1099511627776:=rfl;refine bB.intro (D:=lS) azQ ?_;unfold adQ;cases c:eJ t with
 |true =>
  obtain⟨q,u⟩:=aLk c;rw[q]at hd ⊢;simp only[Ws,List.length_nil,List.foldl_cons,List.foldl_nil]at hd ⊢;rcases o with⟨rfl,rfl⟩|rfl
  ·refine bU @c ?_;refine bQ (λi:Nat=>⟨N [(0,.v (.aS 1)),(3,.v (.cL t.enc.cells)),(5,.v (enc i))],H⟩) (λi=>i=0) (λi=>0) 0 rfl ew ?_;rintro i rfl;refine ag ?_;exact⟨_,rfl,.inr (by simp[gL,u])⟩
  ·refine bU @c ?_;refine bQ (λi:Nat=>⟨N [(0,.v (.list (some 9) 1 (ys.map .str))),(3,.v (.cL t.enc.cells)),(5,.v (enc i))],H⟩) (λi=>i<=ys.length/\ys.contains t.name=(ys.drop i).contains t.name) (λi=>ys.length-i) 0 ⟨VY _,rfl⟩ ew ?_;rintro i ⟨v,a⟩;rcases VX i ys.length with h|h
   ·cases d:ys[i]! ==t.name with
    |true =>
     have he:=eq_of_beq d;have b:ys.contains t.name=true:=by rw[a,fi h,he];simp
     refine bU @d ?_;exact⟨_,rfl,.inr (by rw[Qt b])⟩
    |false =>
     refine bU @d ?_;exact⟨i+1,⟨am,by rw[a,fi h,List.contains_cons,show(t.name==ys[i]!)=false by simp only[beq_eq_false_iff_ne]at d ⊢;exact λe=>d e.symm,Wk]⟩,am,co⟩
   ·have b:ys.contains t.name=false:=by rw[a,V5 h];rfl
    refine ag ?_;exact⟨_,rfl,.inr (by rw[Qr u b];simp)⟩
 |false =>
  have k:=nJ t;refine bU @c ?_;refine bQ (λp:Nat×AV=>⟨N [(0,.v p.2),(3,.v (.cL t.enc.cells)),(6,.v (enc p.1))],H⟩)
   (λp=>p.1<=t.args.length/\wX p.2 ((bF (t.args.take p.1)).foldl gL ys)) (λp=>t.args.length-p.1) (0,x) ⟨be,by simpa[bF]using o⟩ ew ?_
  rintro⟨i,y⟩ ⟨v,a⟩;simp only at v a;rcases VX i t.args.length with h|h
  ·have g:¬t.args.length=0:=by omega
   rw[if_neg g]at k;rw[k]at hd;have q:=CW h;have G:=GL (bF (t.args.take i)) ys;have b:=λH=>ih t.args[i]! (ek h) y _ H (A _ (ek h)) a am;have B:bF (t.args.take (i+1))=bF (t.args.take i)++ck t.args[i]!:=by rw[bL h,yF]
   have l:(bF (t.args.take (i+1))).foldl gL ys=(ck t.args[i]!).foldl gL ((bF (t.args.take i)).foldl gL ys):=by rw[B,List.foldl_append]
   obtain⟨j,m⟩:∃j,j=(bF (t.args.take i)).foldl gL ys:=⟨_,rfl⟩;rw[<-m]at a b l;rcases a with⟨rfl,J⟩|rfl
   all_goals
    (repeat' first|simp(disch:=first|exact ai|fail) only[go_sem]|(refine ao ?_ ?_<;>intro)|(refine iJ ⟨b _,_,_,.inr rfl,rfl⟩ ?_;(rintro r H' ⟨C,rfl⟩);(rcases C with⟨rfl,n⟩|rfl)))
    ·exact⟨(i+1,.aS 1),⟨ap,.inl ⟨rfl,by rw[l];exact n⟩⟩,ap,co⟩
    ·exact⟨(i+1,_),⟨ap,.inr (by rw[l])⟩,ap,co⟩
  ·have w:wX y ((ck t).foldl gL ys):=by
    by_cases g:t.args.length=0
    ·rw[aLl c g];rw[Wj.1 g]at a;simpa[bF]using a
    ·rw[if_neg g]at k;rw[k,<-V6 h];exact a
   obtain⟨j,m⟩:∃j,j=(ck t).foldl gL ys:=⟨_,rfl⟩;rw[<-m]at w ⊢;rcases w with⟨rfl,n⟩|rfl
   ·refine ag ?_;exact⟨_,rfl,.inl ⟨rfl,n⟩⟩
   ·refine ag ?_;exact⟨_,rfl,.inr rfl⟩
theorem aLm(r:aU)(h:(bF (dx r)).length<=1000000):aA ν aD 137 [enc r] (enc (hE (dx r))):=by
 refine aA.h4 λae=>?_;have J:r.body.length<=M:=ae.2.2.1;have v:r.head.eS:=(I.j5 _).2 ⟨ae.1,ae.2.1⟩;have m:=ae.2.2.2;have L:M=1099511627776:=rfl;have cf:bF (dx r)=ck r.head++bF (r.body.map Lit.atom):=rfl;have w:hE (dx r)=(bF (r.body.map Lit.atom)).foldl gL ((ck r.head).foldl gL []):=by rw[hE,o5,cf,List.foldl_append]
 rw[cf,Wf]at h;have x:(ck r.head).length<=1000000:=by omega
 obtain⟨Z,g⟩:∃Z,Z=(ck r.head).foldl gL []:=⟨_,rfl⟩;have z:Z.length<=(ck r.head).length:=by have:=GL (ck r.head) [];rw[<-g]at this;simpa using this
 have n:=λH=>alI r.head (.aS 1) [] H v (.inl ⟨rfl,rfl⟩) (by simpa using x);rw[w,<-g];simp only[<-g]at n;refine aA.gK (D:=lS) azq cX c7 lm ?_;unfold acL
 (repeat' first|simp(disch:=first|exact ai|fail) only[go_sem]|(refine ao ?_ ?_<;>intro)|(refine iJ ⟨n _,_,_,.inr rfl,rfl⟩ ?_;(rintro y A ⟨d,rfl⟩);(rcases d with⟨rfl,B⟩|rfl)))
 case' inl=>(obtain⟨a,o,e⟩:∃a,wX a Z/\AV.aS 1=a:=⟨_,.inl ⟨rfl,B⟩,rfl⟩;rw[e])
 case' inr=>(obtain⟨a,o,e⟩:∃a,wX a Z/\AV.list (some 9) 1 (Z.map .str)=a:=⟨_,.inr rfl,rfl⟩;rw[e])
 all_goals
  refine bQ (λp:Nat×AV=>⟨N [(1,.v (.cL r.enc.cells)),(3,.v p.2),(4,.v (enc p.1))],[]⟩)
   (λp=>p.1<=r.body.length/\wX p.2 ((bF ((r.body.take p.1).map Lit.atom)).foldl gL Z)) (λp=>r.body.length-p.1) (0,a) ⟨be,by simpa[bF]using o⟩ ew ?_
  rintro⟨i,y⟩ ⟨C,b⟩;simp only at C b;rcases VX i r.body.length with h|h
  ·have q:bF ((r.body.take (i+1)).map Lit.atom)=bF ((r.body.take i).map Lit.atom)++ck r.body[i]!.atom:=by rw[bL h,Wa];exact yF _ _
   have j:(bF ((r.body.take (i+1)).map Lit.atom)).foldl gL Z=(ck r.body[i]!.atom).foldl gL ((bF ((r.body.take i).map Lit.atom)).foldl gL Z):=by rw[q,List.foldl_append]
   have k:(bF ((r.body.take (i+1)).map Lit.atom)).length<=(bF (r.body.map Lit.atom)).length:=Dr ((List.take_sublist _ _).map _);rw[q,Wf]at k;have O:=GL (bF ((r.body.take i).map Lit.atom)) Z;have u:=λH=>alI r.body[i]!.atom y _ H ((I.j5 _).2 ⟨(m _ (ek h)).1,(m _ (ek h)).2⟩) b am;obtain⟨c,l⟩:∃c,c=(bF ((r.body.take i).map Lit.atom)).foldl gL Z:=⟨_,rfl⟩;rw[<-l]at b u j;rcases b with⟨rfl,d⟩|rfl
   all_goals
    (repeat' first|simp(disch:=first|exact ai|fail) only[go_sem]|(refine ao ?_ ?_<;>intro)|(refine iJ ⟨u _,_,_,.inr rfl,rfl⟩ ?_;(rintro P A ⟨E,rfl⟩);(rcases E with⟨rfl,G⟩|rfl)))
    ·exact⟨(i+1,.aS 1),⟨ap,.inl ⟨rfl,by rw[j];exact G⟩⟩,ap,co⟩
    ·exact⟨(i+1,_),⟨ap,.inr (by rw[j])⟩,ap,co⟩
  ·rw[V6 h]at b;obtain⟨c,l⟩:∃c,c=(bF (r.body.map Lit.atom)).foldl gL Z:=⟨_,rfl⟩;rw[<-l]at b ⊢;rcases b with⟨rfl,d⟩|rfl
   ·refine ag ?_;exact⟨_,rfl,by rw[d];exact bx.aS _⟩
   ·refine ag ?_;exact⟨_,rfl,bx.disown _ _ _⟩
theorem aLn[bt D lS][aT x1 r](h:(bF (dx r)).length<=1000000) :b1 ν aD D 137 [x1] K tg=K (enc (hE (dx r))):=ec (D':=lS) (F:=λ(r:aU)=>enc (hE (dx r))) (Lx λ_=>rfl) (aLm r h)
attribute [go_sem ↓ 2000] aLn
open Enc (enc)
theorem aLo[bt D lS][aT x1 r](h:∀a∈dx r,cc a<=1000000) :b1 ν aD D 136 [x1] K tg=K (enc (kG (dx r) true)):=ec (D':=lS) (F:=λ(r:aU)=>enc (kG (dx r) true)) (Lx λ_=>rfl) (aLe r h)
attribute [go_sem ↓ 2000] aLo
def p7(r:aU)(n:Nat):List ak:=((r.body.take n).filter dB).flatMap λl=>hE [l.atom]
def nT(r:aU)(n:Nat):List ak:=hE [r.head]++((r.body.take n).filter λl=>!dB l).flatMap λl=>hE [l.atom]
theorem aLp(r:aU):((nT r r.body.length).all λv=>(p7 r r.body.length).contains v)=nL r:=by
 have a:∀v,v∈nT r r.body.length↔v∈hE (w3 r):=λv=>by
  simp only[nT,Wb,List.mem_append,Wu,KV,AT,w3,V7,Wd,List.mem_filter,Wt,or_false];grind
 have b:∀v,v∈p7 r r.body.length↔v∈hE (AB r):=λv=>by
  simp only[p7,Wb,Wu,KV,AT,AB,V7,Wd,List.mem_filter,Wt,or_false];grind
 rw[nL,Wc,Wv,Wv];simp only[List.contains_iff_mem,a,b]
theorem T4(c:∀a∈dx r,(bF [a]).length<=1000000){p:Lit->Bool}{n:Nat}:(((r.body.take n).filter p).flatMap λl=>hE [l.atom]).length<=r.body.length*1000000:=by
 refine Wg (GK (b:=1000000) _ λl d=>Wg (Ds _) (c _ ?_)) (Nat.mul_le_mul_right _ (GC (p:=p) (l:=r.body) (i:=n)));simp only[dx,V7,Wd];exact .inr ⟨l,List.mem_of_mem_take (List.mem_filter.1 d).1,rfl⟩
theorem aLq(r:aU)(u:r.body.length<=100000)(c:∀a∈dx r,(bF [a]).length<=1000000):aA ν aD 138 [enc r] (enc (nL r)):=by
 have w:M=1099511627776:=rfl;have x:=c r.head (by simp[dx]);rw[<-aLp];refine aA.intro (D:=rZ) azr cX c7 ?_;unfold acP;simp(disch:=first|exact ai|fail) only[go_sem]
 (repeat' first|refine ag ?_|(refine ao ?_ ?_<;>intro))
 refine bQ (λi:Nat=>⟨N [(1,.v (.cL r.enc.cells)),(3,.v (.list (some 9) 1 ((p7 r i).map .str))),(4,.v (.list (some 9) 1 ((nT r i).map .str))),(5,.v (enc i))],[]⟩) (λi=>i<=r.body.length) (λi=>r.body.length-i) 0 (VY _) (by(try simp(disch:=first|exact ai|fail) only[go_sem])<;>(first|rfl|(simp(disch:=first|exact aX|fail) only[b7,Ww,Wx,Env.ins,cp,cq,cr,ct,cu,cv,cw,cx,I.b0,V8,WD,apH,apI,Wi,bL,Wa,Wl,Wo,cy,cz,go_sem,p7,nT,List.filter_nil,List.flatMap_nil,List.append_nil];try rfl))) ?_;intro i al;rcases VX i r.body.length with h|h
 ·have aG:=c r.body[i]!.atom (by simp only[dx,V7,Wd];exact .inr ⟨_,ek h,rfl⟩);have j:=yT (p:=dB) h;have k:=yT (p:=λl=>!dB l) h;have y:(p7 r i).length<=r.body.length*1000000:=T4 c;have m:(nT r i).length<=1000000+r.body.length*1000000:=by
   have:=T4 c (p:=λl=>!dB l) (n:=i);have:=Ds [r.head];rw[nT,Wf];omega
  have z:=Ds [r.body[i]!.atom];cases ae:dB r.body[i]! with
  |true =>
   have e:p7 r (i+1)=p7 r i++hE [r.body[i]!.atom]:=by rw[p7,j,if_pos ae,List.flatMap_append];simp[p7]
   have g:nT r (i+1)=nT r i:=by rw[nT,k,if_neg (by rw[ae];simp),nT]
   refine bU @ae ?_;exact⟨i+1,am,am,by rw[e,g];(exact bl)⟩
  |false =>
   have e:p7 r (i+1)=p7 r i:=by rw[p7,j,if_neg (by rw[ae];simp),p7]
   have g:nT r (i+1)=nT r i++hE [r.body[i]!.atom]:=by rw[nT,k,if_pos (by rw[ae];simp),List.flatMap_append,nT,List.append_assoc];simp
   refine bU @ae ?_;exact⟨i+1,am,am,by rw[e,g];(exact bl)⟩
 ·obtain rfl:i=r.body.length:=by omega
  have m:(nT r r.body.length).length<=1000000+r.body.length*1000000:=by
   have:=T4 c (p:=λl=>!dB l) (n:=r.body.length);have:=Ds [r.head];rw[nT,Wf];omega
  obtain⟨V,o⟩:∃V,V=nT r r.body.length:=⟨_,rfl⟩;obtain⟨W,q⟩:∃W,W=p7 r r.body.length:=⟨_,rfl⟩;rw[<-o]at m ⊢;rw[<-q];refine ag ?_;refine bQ (λi:Nat=>⟨N [(3,.v (.list (some 9) 1 (W.map .str))),(4,.v (.list (some 9) 1 (V.map .str))),(7,.v (enc i))],[]⟩) (λi=>i<=V.length/\((V.drop i).all λv=>W.contains v)=V.all λv=>W.contains v) (λi=>V.length-i) 0 ⟨VY _,rfl⟩ ew ?_;clear al h;rintro i ⟨A,b⟩;rcases VX i V.length with h|h
  ·rw[fi h,VZ]at b;cases d:W.contains V[i]! with
   |true =>
    rw[d,We]at b;refine bU @d ?_;exact⟨i+1,⟨am,b⟩,am,co⟩
   |false =>
    rw[d,V9]at b;rw[<-b]
    (repeat' first|simp(disch:=first|exact ai|fail) only[go_sem,d]|(refine ao ?_ ?_<;>intro))
    all_goals rfl
  ·rw[V5 h]at b;rw[<-b]
   (repeat' first|simp(disch:=first|exact ai|fail) only[go_sem]|(refine ao ?_ ?_<;>intro))
   all_goals rfl
theorem aLr[bt D lS][aT x1 r](h:r.body.length<=100000/\∀a∈dx r,(bF [a]).length<=1000000) :b1 ν aD D 138 [x1] K tg=K (enc (nL r)):=ec (D':=lS) (F:=λ(r:aU)=>enc (nL r)) (Lx λ_=>rfl) (aLq r h.1 h.2)
attribute [go_sem ↓ 2000] aLr
theorem aLs(r:aU)(A:∀a∈dx r,cc a<=1000000):aA ν aD 88 [enc r] (enc (fK r)):=by
 have B:M=1099511627776:=rfl;rcases VX 8 r.body.length with h|h
 ·have g:fK r=2:=if_pos h;rw[g];refine aA.intro (D:=rZ) yy cX c7 ?_;unfold wP;simp(disch:=first|exact ai|fail) only[go_sem]
  (repeat' first|refine ag ?_|(refine ao ?_ ?_<;>intro))
  all_goals rfl
 ·obtain⟨e,he⟩:∃e,e=kG (dx r) true:=⟨_,rfl⟩;rcases Wp e with i|i
  ·subst i;have m:=λa(aG:a∈dx r)=>KU he.symm a aG;have d:∀a∈dx r,(ck a).length<=256:=λa aG=>by obtain⟨_,q⟩:=m a aG;exact GG (n:=4) (RK q).1
   have C:(bF (dx r)).length<=1000000:=by
    have E:=GF (b:=256) (dx r) d;have o:(dx r).length<=9:=by simp only[dx,Ws,V8];omega
    have G:(dx r).length*256<=9*256:=Nat.mul_le_mul_right _ o;omega
   have p:r.body.length<=100000/\∀a∈dx r,(bF [a]).length<=1000000:=⟨am,λa aG=>by have:=d a aG;simp[bF];omega⟩;have u:fK r=if 5<(hE (dx r)).length then 11 else if !nL r then 7 else if r.head.name==w2&&(decide (0<r.body.length)||decide (0<r.head.args[0]!.args.length)||!dM r.head.args[0]!.name)then 8 else 0:=by
    rw[fK,if_neg am,if_neg (by rw[<-he];simp)]
   have H:=Ds (dx r);rw[u];rcases VX 5 (hE (dx r)).length with j|j
   ·rw[if_pos j];refine aA.intro (D:=rZ) yy cX c7 ?_;unfold wP;simp(disch:=first|exact ai|fail) only[go_sem]
    (repeat' first|refine bU (Eq.symm @he) ?_|(refine ao ?_ ?_<;>intro))
    all_goals rfl
   ·rw[if_neg am];cases ax:nL r with
    |false =>
     refine aA.intro (D:=rZ) yy cX c7 ?_;unfold wP;simp(disch:=first|exact ai|fail) only[go_sem]
     (repeat' first|refine gS (Eq.symm @he) @ax ?_|(refine ao ?_ ?_<;>intro))
     all_goals rfl
    |true =>
     cases c:r.head.name==[114,111,108,101]with
     |false =>
      refine aA.intro (D:=rZ) yy cX c7 ?_;unfold wP;simp(disch:=first|exact ai|fail) only[go_sem]
      (repeat' first|refine iv (Eq.symm @he) @ax @c ?_|(refine ao ?_ ?_<;>intro))
      all_goals simp[w2,c]
     |true =>
      have J:r.head.args.length=1:=by
       have v:kj r.head true=0:=by
        rw[dx,kG]at he;by_cases ah:kj r.head true=0
        ·exact ah
        ·rw[if_neg ah]at he;exact he.symm
       exact ai5 v (beq_iff_eq.1 c)
      have w:0<r.head.args.length:=by omega
      have x:(r.head.name==w2)=true:=c;rw[x];rcases VX 0 r.body.length with k|k
      ·rw[decide_eq_true k];refine aA.intro (D:=rZ) yy cX c7 ?_;unfold wP;simp(disch:=first|exact ai|fail) only[go_sem]
       (repeat' first|refine iv (Eq.symm @he) @ax @c ?_|(refine ao ?_ ?_<;>intro))
       all_goals rfl
      ·rw[decide_eq_false am];rcases VX 0 r.head.args[0]!.args.length with l|l
       ·rw[decide_eq_true l];refine aA.intro (D:=rZ) yy cX c7 ?_;unfold wP;simp(disch:=first|exact ai|fail) only[go_sem]
        (repeat' first|refine iv (Eq.symm @he) @ax @c ?_|(refine ao ?_ ?_<;>intro))
        all_goals rfl
       ·rw[decide_eq_false am];cases y:dM r.head.args[0]!.name;all_goals
         refine aA.intro (D:=rZ) yy cX c7 ?_;unfold wP;simp(disch:=first|exact ai|fail) only[go_sem]
         (repeat' first|refine mb (Eq.symm @he) @ax @c @y ?_|(refine ao ?_ ?_<;>intro))
         all_goals rfl
  ·have z:((e:Int) != 0)=true:=by simp;omega
   have g:fK r=e:=by rw[fK,if_neg am,if_pos am,he]
   rw[g];refine aA.intro (D:=rZ) yy cX c7 ?_;unfold wP;simp(disch:=first|exact ai|fail) only[go_sem]
   (repeat' first|simp(disch:=first|exact ai|fail) only[go_sem,<-he,z]|(refine ao ?_ ?_<;>intro))
   all_goals rfl
theorem aLt(l:List aU)(hd:∀r∈l,∀a∈dx r,cc a<=1000000):aA ν aD 44 [enc l] (.bg [.int .i64 ((rY l).1:Nat),.int .i64 ((rY l).2:Nat)]):=aLi l λr b=>aLs r (hd r b)
variable {l:List aU}
theorem aLu[bt D Bd][aT x1 l](h:∀r∈l,∀a∈dx r,cc a<=1000000) :b1 ν aD D 44 [x1] K tg=K (.bg [.int .i64 ((rY l).1:Nat),.int .i64 ((rY l).2:Nat)]):=ec (D':=Bd) (F:=λ(l:List aU)=>.bg [.int .i64 ((rY l).1:Nat),.int .i64 ((rY l).2:Nat)]) (aLh λ_=>rfl) (aLt l h)
attribute [go_sem ↓ 2000] aLu
open Enc (enc)
variable {s:List aY}
theorem aLC[bt D fR]{x3:AV}{p:I}[aT x1 p][aT x2 t][aT x3 s](h:s.length+(ck p).length<=1000000) :b1 ν aD D 127 [x1,x2,x3] K tg=K (mz (hx p t s)):=u2 (D':=fR) (F:=λ(p:I)(t:I)(s:List aY)=>mz (hx p t s)) (rX λ_=>rfl) (aKR p t s h)
attribute [go_sem ↓ 2000] aLC
def lT:Bool->List aY->AV
 |true,[]=>.aS 3|_,s=>.list none 3 (s.map aY.enc)
theorem alN:lT true []=.aS 3:=rfl
theorem LB(s:List aY):lT false s=.list none 3 (s.map aY.enc):=by cases s<;>rfl
theorem alO{P:AV->Prop}(c:P (.aS 3))(a:∀xs,P (.list none 3 xs))(b:Bool)(s:List aY):P (lT b s):=by
 cases b
 ·rw[LB];exact a _
 ·cases s
  ·exact c
  ·exact a _
theorem aLD(b:Bool)(s:List aY):(lT b s).cells=[lT b s]:=alO (P:=λx=>x.cells=[x]) rfl (λ_=>rfl) b s
theorem aLE(b:Bool)(s:List aY):(lT b s).a1=lT b s:=alO (P:=λx=>x.a1=x) rfl (λ_=>rfl) b s
theorem aLF(b:Bool)(s:List aY):(lT b s).pure=true:=(show(lT b s).pure=true by
 cases b
 ·rw[LB];exact Enc.arg (α:=List aY) s
 ·cases s
  ·rfl
  ·rename_i x l;exact Enc.arg (α:=List aY) (x::l))
instance aT.row(b:Bool)(s:List aY):aT (lT b s) s:=by
 cases b
 ·rw[LB];exact aT.enc s
 ·cases s
  ·exact aT.Qm
  ·exact aT.enc (_::_)
instance aT.rows(b:Bool)(l:List (List aY)):aT (.list none 1 (l.map (lT b))) l:=aT.list (α:=List aY) ⟨by rw[List.map_map];exact List.map_congr_left λs _=>(aT.row b s).can⟩
theorem aLG(l:List (List aY)):(enc l:AV)=.list none 1 (l.map (lT false)):=by
 show AV.list none 1 (l.map enc)=_;congr 1
attribute [go_sem 2000] aLD aLE aLF alN aLG
noncomputable def T5:List iZ:=[(75,hj λ(b:List Lit)(l:List I)=>enc (vo b l))]
noncomputable def ze:bj:=ij rZ (e1 T5)
instance aPt{D:bj}[h:bt D ze]:bt D rZ:=h.ke
def alP:List Nat:=[75]++T3
theorem aLH:fq ze alP:=fq.or alH (kf T5)
theorem aLI(h:∀xs,e1 T5 f xs=F xs)(hk:T3.contains f=false:=by rfl):∀xs,ze f xs=F xs:=λxs=>by rw[<-h];exact kg alH hk
theorem alQ(A:List I):∀(body:List Lit)(out:List (List aY))(n:Nat),(∀s∈out,s.length<=n)->∀s∈jU A body out,s.length<=n+(bF (body.map Lit.atom)).length
 |[],out,n,h,s,ax=>by have:=h s ax;omega|l::r,out,n,h,s,ax=>by
  rw[jU]at ax;have b:=alQ A r _ (n+(ck l.atom).length) (λs ax=>by
   cases ae:dB l with
   |true =>
    rw[ae,if_pos rfl,Wu]at ax;obtain⟨u,a,ax⟩:=ax;obtain⟨t,_,rfl⟩:=Wd.1 ax;have:=TW l.atom t u;have:=h u a;omega
   |false =>
    rw[ae,if_neg be]at ax;have:=h s ax;omega) s ax
  rw[Wl,bF,Wf];omega
theorem aLJ{s:Sub}(h:t.args.length=2):(eD s t).args.length=2:=by
 have a:¬eJ t=true:=by rw[zb];simp[h]
 rw[C7,if_neg a,if_neg am];simp[I.args,h];exact h
theorem aLK(body:List Lit)(A:List I)(y:∀i,(jU A (body.take i) [[]]).length<=1000000)(ax:(bF (body.map Lit.atom)).length<=500000)
  (hd:∀l∈body,l.atom.name=eG->l.atom.args.length=2):aA ν aD 75 [enc body,enc A] (enc (vo body A)):=by
 refine aA.sy λH J=>?_;obtain⟨H,_⟩:=H;obtain⟨J,_⟩:=J;have cP:M=1099511627776:=rfl;refine aA.gK (D:=ze) ayK cX c7 lm ?_;unfold aaM;refine ag ?_;refine bQ (λp:Nat×Bool×Option Nat=>⟨N [(0,.v (enc body)),(1,.v (enc A)),(5,.v (.list p.2.2 1 ((jU A (body.take p.1) [[]]).map (lT p.2.1)))),(6,.v (enc p.1))],[]⟩)
  (λp=>p.1<=body.length) (λp=>body.length-p.1) (0,true,some 73) (VY _) (by(try simp(disch:=first|exact ai|fail) only[go_sem])<;>(first|rfl|(simp(disch:=first|exact aX|fail) only[b7,Ww,Wx,Env.ins,cp,cq,cr,ct,cu,cv,cw,cx,I.b0,V8,WD,apH,apI,Wi,bL,Wa,Wl,Wo,cy,cz,go_sem,jU,alN];try rfl))) ?_
 rintro⟨i,b,o⟩ T;simp only at T;rcases VX i body.length with h|h
 ·have c:=alK A (body.take i) body[i]! [[]];rw[<-bL h]at c;have z:=y (i+1);have B:=y i;have mo:(bF ((body.take i).map Lit.atom)).length+(ck body[i]!.atom).length<=(bF (body.map Lit.atom)).length:=by
   have V:bF ((body.take (i+1)).map Lit.atom)=bF ((body.take i).map Lit.atom)++ck body[i]!.atom:=by rw[bL h,Wa];exact yF _ _
   have L:(bF ((body.take (i+1)).map Lit.atom)).length<=(bF (body.map Lit.atom)).length:=Dr ((List.take_sublist _ _).map _);rw[V,Wf]at L;exact L
  have O:=alQ A (body.take i) [[]] 0 be;cases ae:dB body[i]! with
  |false =>
   rw[ae,if_neg be]at c;refine bU @ae ?_;exact⟨(i+1,b,o),ap,ap,by rw[c];(exact bl)⟩
  |true =>
   rw[ae,if_pos rfl]at c;obtain⟨R,de⟩:∃R,R=jU A (body.take i) [[]]:=⟨_,rfl⟩;rw[<-de]at c B O ⊢;rw[c]at z;refine bU @ae ?_;refine bQ (λk:Nat=>⟨N [(0,.v (enc body)),(1,.v (enc A)),(5,.v (.list o 1 (R.map (lT b)))),(6,.v (enc i)),(7,.v (.list (some 73) 1 ((oG body[i]!.atom A R k 0).map (lT false)))),(8,.v (enc k))],[]⟩)
    (λk=>k<=R.length) (λk=>R.length-k) 0 (VY _) (rm @aLw) ?_
   intro k W;rcases VX k R.length with hk|hk
   ·refine ag ?_;refine bQ (λj:Nat=>⟨N [(0,.v (enc body)),(1,.v (enc A)),(5,.v (.list o 1 (R.map (lT b)))),(6,.v (enc i)),(7,.v (.list (some 73) 1 ((oG body[i]!.atom A R k j).map (lT false)))),(8,.v (enc k)),(9,.v (enc j))],[]⟩)
     (λj=>j<=A.length) (λj=>A.length-j) 0 (VY _) ew ?_
    intro j ei;rcases VX j A.length with C|C
    ·have n9:(R[k]!).length+(ck body[i]!.atom).length<=1000000:=by have:=O R[k]! (ek hk);omega
     have g:=aLx (a:=body[i]!.atom) (rows:=R) (k:=k) C;have Ei:=aLA (a:=body[i]!.atom) (A:=A) (j:=j) hk;obtain⟨X,bA⟩:∃X,X=hx body[i]!.atom A[j]! R[k]!:=⟨_,rfl⟩;rw[<-bA]at g;obtain⟨Y,E⟩:∃Y,Y=oG body[i]!.atom A R k j:=⟨_,rfl⟩;rw[<-E]at g Ei ⊢;cases v:X.2 with
     |true =>
      rw[v,if_pos rfl]at g
      (repeat' first|simp(disch:=first|exact ai|fail) only[go_sem,<-bA,mz,v]|(refine ao ?_ ?_<;>intro))
      exact⟨j+1,am,am,by rw[g];(first|rfl|(simp(disch:=first|exact aX|fail) only[b7,Ww,Wx,Env.ins,cp,cq,cr,ct,cu,cv,cw,cx,I.b0,V8,WD,apH,apI,Wi,bL,Wa,Wl,Wo,cy,cz,go_sem,LB];try rfl))⟩
     |false =>
      rw[v,if_neg be,List.append_nil]at g
      (repeat' first|simp(disch:=first|exact ai|fail) only[go_sem,<-bA,mz,v]|(refine ao ?_ ?_<;>intro))
      exact⟨j+1,am,am,by rw[g];(exact bl)⟩
    ·have he:=aLy (a:=body[i]!.atom) (A:=A) hk C
     (repeat' first|refine ag ?_|(refine ao ?_ ?_<;>intro))
     exact⟨k+1,am,am,by rw[he];(exact bl)⟩
   ·rw[aLz hk,<-c];refine ag ?_;exact⟨(i+1,false,none),ap,ap,co⟩
 ·rw[V6 h];have P:=y body.length;rw[Wb]at P;have Q:vo body A=(jU A body [[]]).filter (rW body):=rfl;obtain⟨R,de⟩:∃R,R=jU A body [[]]:=⟨_,rfl⟩;rw[<-de]at P Q ⊢;rw[Q];refine ag ?_;refine bQ (λk:Nat=>⟨N [(0,.v (enc body)),(5,.v (.list o 1 (R.map (lT b)))),(12,.v (.list (some 73) 1 (((R.take k).filter (rW body)).map (lT b)))),(13,.v (enc k))],[]⟩)
   (λk=>k<=R.length) (λk=>R.length-k) 0 (VY _) (rm @List.filter_nil.{0}) ?_
  intro k W;rcases VX k R.length with hk|hk
  ·have d:=yT (p:=rW body) hk;have j1:((R.take k).filter (rW body)).length<=k:=Wg (apJ _ _) (by rw[Wn];omega);obtain⟨Y,E⟩:∃Y,Y=(R.take k).filter (rW body):=⟨_,rfl⟩;rw[<-E]at d j1 ⊢;refine ag ?_;refine bQ (λp:Nat×Bool=>⟨N [(0,.v (enc body)),(5,.v (.list o 1 (R.map (lT b)))),(12,.v (.list (some 73) 1 (Y.map (lT b)))),(13,.v (enc k)),(14,.v (.bool p.2)),(15,.v (enc p.1))],[]⟩)
    (λp=>p.1<=body.length/\(body.take p.1).all (zd R[k]!)=p.2) (λp=>body.length-p.1) (0,true) ⟨VY _,rfl⟩ ew ?_
   rintro⟨m,ok⟩ ⟨m1,w⟩;simp only at m1 w;have fin:rW body R[k]! = ok->∃Z,Z=rW body R[k]!/\ok=Z:=λe=>⟨_,rfl,e.symm⟩;rcases VX m body.length with hm|hm
   ·cases ok with
    |false =>
     have x:rW body R[k]! = false:=by
      rw[alM,<-List.take_append_drop m body,apK,w,V9]
     rw[x,if_neg be]at d;refine ag ?_;exact⟨k+1,am,am,by rw[d];(exact bl)⟩
    |true =>
     have n:(body.take (m+1)).all (zd R[k]!)=zd R[k]! body[m]!:=by rw[bL hm,apK,w];simp
     cases q:body[m]!.atom.name==[100,105,115,116,105,110,99,116]with
     |false =>
      have G:zd R[k]! body[m]! = true:=by rw[zd];rw[show(body[m]!.atom.name==eG)=false from q];rfl
      rw[G]at n;refine bU @q ?_;exact⟨(m+1,true),⟨ap,n⟩,ap,co⟩
     |true =>
      have G:zd R[k]! body[m]! = (hi (eD (dn R[k]!) body[m]!.atom).args[0]! (eD (dn R[k]!) body[m]!.atom).args[1]! ==body[m]!.neg):=by rw[zd];rw[show(body[m]!.atom.name==eG)=true from q];rfl
      have kT:=aLJ (s:=dn R[k]!) (hd body[m]! (ek hm) (eq_of_beq q));rw[G]at n;obtain⟨u,S⟩:∃u,u=eD (dn R[k]!) body[m]!.atom:=⟨_,rfl⟩;rw[<-S]at n kT;refine gS @q (Eq.symm @S) ?_;exact⟨(m+1,_),⟨ap,n⟩,ap,co⟩
   ·have x:rW body R[k]! = ok:=by rw[alM,<-w,V6 hm]
    cases ok with
    |true =>
     rw[x,if_pos rfl]at d;refine ag ?_;exact⟨k+1,am,am,by rw[d];(exact bl)⟩
    |false =>
     rw[x,if_neg be]at d;refine ag ?_;exact⟨k+1,am,am,by rw[d];(exact bl)⟩
  ·rw[V6 hk];refine ag ?_;exact⟨_,rfl,(bx.disown _ _ _).trans (aT.rows b _).kX⟩
variable {l:List I}
theorem aLN[bt D ze]{b:List Lit}[aT x1 b][aT x2 l](h:(∀i,(jU l (b.take i) [[]]).length<=1000000)/\(bF (b.map Lit.atom)).length<=500000/\∀x∈b,x.atom.name=eG->x.atom.args.length=2) :b1 ν aD D 75 [x1,x2] K tg=K (enc (vo b l)):=ik (D':=ze) (F:=λ(b:List Lit)(l:List I)=>enc (vo b l)) (aLI λ_=>rfl) (aLK b l h.1 h.2.1 h.2.2)
attribute [go_sem ↓ 2000] aLN
open Enc (enc)
def xy(l more:List I):List I×Nat:=if jR more then([],3)else if 512<(lI l more).length then([],11)else(lI l more,0)
noncomputable def alR:List iZ:=[(36,hj λ(r:aU)(l:List I)=>enc (mA r l)),
 (37,hj λ(l:List I)(m:List I)=>j8 (some (xy l m))),
 (12,hj λ(l:List aU)(a:List I)=>j8 (some (pf l a)))]
noncomputable def po:bj:=ij ze (e1 alR)
instance aPu{D:bj}[h:bt D po]:bt D ze:=h.ke
theorem T6(h:∀xs,e1 alR f xs=F xs)(hk:alP.contains f=false:=by rfl):∀xs,po f xs=F xs:=λxs=>by rw[<-h];exact kg aLH hk
theorem aLO[bt D po]{l:List aU}{a:List I}[aT x1 l][aT x2 a](h:aA ν aD 12 [enc l,enc a] (j8 (some (pf l a)))):b1 ν aD D 12 [x1,x2] K tg=K (j8 (some (pf l a))):=ik (D':=po) (F:=λ(l:List aU)(a:List I)=>j8 (some (pf l a))) (T6 λ_=>rfl) h
theorem aLP(h:jo l)(t:I):nQ l t=DN l t:=by
 obtain⟨j,c,d⟩:=Ke h t;rw[Wc,alx,nQ,Wm,decide_eq_true_eq,beq_iff_eq];constructor
 ·rintro⟨g,i⟩;rw[<-u5 _ _ i];exact ek g
 ·intro hm;obtain⟨k,hk,rfl⟩:=List.getElem_of_mem hm;have a:l[k]! = l[k]:=by simp[hk]
  have m:¬k<gh l l[k]:=λb=>by
   have:=c k b;rw[a,CZ]at this;omega
  have n:¬gh l l[k]<k:=λb=>by
   have:=Gb h b hk;rw[a]at this;exact d _ (Nat.le_refl _) am this
  have e:gh l l[k]=k:=by omega
  exact⟨am,by rw[e,a];exact CZ _⟩
def r0(A:List I)(s:List aY)(l:Lit):Bool:=!(l.neg&&!(l.atom.name==eG))||!nQ A (eD (dn s) l.atom)
variable {A:List I}
theorem aLQ(h:jo A)(body:List Lit)(s:List aY):Hg body A s=body.all (r0 A s):=by
 unfold Hg r0;congr 1;funext l
 rw[aLP h]
structure DP(r:aU)(A:List I):Prop where
 w:∀i,(jU A (r.body.take i) [[]]).length<=5000
 s:(bF (r.body.map Lit.atom)).length<=500000
 d:∀l∈r.body,l.atom.name=eG->l.atom.args.length=2
theorem alS{body:List Lit}(a:∀i,(jU A (body.take i) [[]]).length<=5000):(vo body A).length<=5000:=by
 have:=a body.length;rw[Wb]at this;exact Wg (apJ _ _) this
theorem alT(h:DP r A):(mA r A).length<=5000:=by
 rw[mA,V8];exact Wg (apJ _ _) (alS h.w)
theorem aLR(r:aU)(A:List I)(cE:jo A)(hk:DP r A):aA ν aD 36 [enc r,enc A] (enc (mA r A)):=by
 refine aA.sy λn w=>?_;have y:r.body.length<=M:=n.2.2.1;have z:M=1099511627776:=rfl;have B:=(⟨λi=>Wg (hk.w i) e6,hk.s,hk.d⟩:(∀i,(jU A (r.body.take i) [[]]).length<=1000000)/\(bF (r.body.map Lit.atom)).length<=500000/\∀x∈r.body,x.atom.name=eG->x.atom.args.length=2);have o:=alS hk.w;have e:mA r A=((vo r.body A).filter λs=>r.body.all (r0 A s)).map λs=>eD (dn s) r.head:=by
  rw[mA];congr 2;funext s;exact aLQ cE _ _
 rw[e];obtain⟨R,de⟩:∃R,R=vo r.body A:=⟨_,rfl⟩;rw[<-de]at o ⊢;refine aA.gK (D:=po) ayk cX c7 lm ?_;unfold Zl;refine bU (Eq.symm @de) ?_;refine bQ (λi:Nat=>⟨N [(1,.v (enc A)),(2,.v (.cL r.enc.cells)),(5,.v (.list (some 31) 2 ((((R.take i).filter λs=>r.body.all (r0 A s)).map λs=>eD (dn s) r.head).map I.enc))),(6,.v (enc R)),(7,.v (enc i))],[]⟩)
  (λi=>i<=R.length) (λi=>R.length-i) 0 (VY _) (rm @List.filter_nil.{0}) ?_
 intro i C;rcases VX i R.length with h|h
 ·have a:=yT (p:=λs=>r.body.all (r0 A s)) h;have q:((R.take i).filter λs=>r.body.all (r0 A s)).length<=i:=Wg (apJ _ _) (by rw[Wn];omega);obtain⟨Y,u⟩:∃Y,Y=(R.take i).filter λs=>r.body.all (r0 A s):=⟨_,rfl⟩;rw[<-u]at a q ⊢;refine ag ?_;refine bQ (λp:Nat×Bool=>⟨N [(1,.v (enc A)),(2,.v (.cL r.enc.cells)),(5,.v (.list (some 31) 2 ((Y.map λs=>eD (dn s) r.head).map I.enc))),(6,.v (enc R)),(7,.v (enc i)),(8,.v (.bool p.2)),(9,.v (enc p.1))],[]⟩)
   (λp=>p.1<=r.body.length/\(r.body.take p.1).all (r0 A R[i]!)=p.2) (λp=>r.body.length-p.1) (0,true) ⟨VY _,rfl⟩ ew ?_
  rintro⟨m,ok⟩ ⟨v,b⟩;simp only at v b;rcases VX m r.body.length with hm|hm
  ·cases ok with
   |false =>
    have c:(r.body.all (r0 A R[i]!))=false:=by
     rw[<-List.take_append_drop m r.body,apK,b,V9]
    rw[c,if_neg be]at a;refine ag ?_;exact⟨i+1,am,am,by rw[a];(exact bl)⟩
   |true =>
    have d:(r.body.take (m+1)).all (r0 A R[i]!)=r0 A R[i]! r.body[m]!:=by rw[bL hm,apK,b];simp
    have g:r0 A R[i]! r.body[m]! = (!(r.body[m]!.neg&&!(r.body[m]!.atom.name==[100,105,115,116,105,110,99,116]))||!nQ A (eD (dn R[i]!) r.body[m]!.atom)):=rfl;rw[g]at d;cases j:r.body[m]!.neg<;>cases k:r.body[m]!.atom.name==[100,105,115,116,105,110,99,116];all_goals
     rw[j,k]at d;simp only[Bool.not_true,Bool.not_false,V9,We,Bool.and_true,Bool.and_false,Bool.true_or,Wk]at d;refine gS @j @k ?_;exact⟨(m+1,_),⟨ap,d⟩,ap,co⟩
  ·have c:(r.body.all (r0 A R[i]!))=ok:=by rw[<-b,V6 hm]
   cases ok with
   |true =>
    rw[c,if_pos rfl]at a;refine ag ?_;exact⟨i+1,am,am,by rw[a];(exact bl)⟩
   |false =>
    rw[c,if_neg be]at a;refine ag ?_;exact⟨i+1,am,am,by rw[a];(exact bl)⟩
 ·rw[V6 h];refine ag ?_;exact⟨_,rfl,bx.disown _ _ _⟩
theorem aLU[bt D po][aT x1 r][aT x2 l](h:jo l/\DP r l) :b1 ν aD D 36 [x1,x2] K tg=K (enc (mA r l)):=ik (D':=po) (F:=λ(r:aU)(l:List I)=>enc (mA r l)) (T6 λ_=>rfl) (aLR r l h.1 h.2)
attribute [go_sem ↓ 2000] aLU
theorem aLV(l more:List I)(o:l.length+more.length<=900000)(hd:∀a∈more,cc a<=1000000):aA ν aD 37 [enc l,enc more] (j8 (some (xy l more))):=by
 have p:M=1099511627776:=rfl;obtain⟨g,b⟩:∃g,g=xy l more:=⟨_,rfl⟩;rw[<-b];unfold xy at b;refine aA.gK (D:=po) ayl (by simp only[VZ,V0,Enc.arg,V1]) (by rfl) (λ_ _ _ h=>d7) ?_;unfold Zo;refine ag ?_;refine bQ (λi:Nat=>⟨N [(0,.v (enc (lI l (more.take i)))),(1,.v (enc more)),(6,.v (.bool (jR (more.take i)))),(7,.v (enc i))],[]⟩)
  (λi=>i<=more.length) (λi=>more.length-i) 0 (VY _) (by(try simp(disch:=first|exact ai|fail) only[go_sem])<;>(first|rfl|(simp(disch:=first|exact aX|fail) only[b7,Ww,Wx,Env.ins,cp,cq,cr,ct,cu,cv,cw,cx,I.b0,V8,WD,apH,apI,Wi,bL,Wa,Wl,Wo,cy,cz,go_sem,lI,jR,List.foldl_nil,List.any_nil];try rfl))) ?_
 intro i q;have j:=P7 (more.take i) l;rw[Wn]at j;rcases VX i more.length with h|h
 ·have m:=hd more[i]! (ek h);have ax:lI l (more.take (i+1))=j4 (lI l (more.take i)) more[i]!:=by rw[bL h,afZ]
  have d:jR (more.take (i+1))=(jR (more.take i)||decide (4<cc more[i]!)):=by rw[bL h,jR,List.any_append];simp[jR]
  have n:decide ((cc more[i]! : Int)>4)=decide (4<cc more[i]!):=by rw[Wc];simp;omega
  obtain⟨Y,e⟩:∃Y,Y=lI l (more.take i):=⟨_,rfl⟩;rw[<-e]at ax j ⊢;cases c:jR (more.take i)with
  |true =>
   rw[c,Bool.true_or]at d;refine ag ?_;exact⟨i+1,am,am,by rw[ax,d];(exact bl)⟩
  |false =>
   rw[c,Wk]at d;refine bU @n ?_;exact⟨i+1,am,am,by rw[ax,d];(exact bl)⟩
 ·rw[V6 h];obtain⟨Y,e⟩:∃Y,Y=lI l more:=⟨_,rfl⟩;rw[<-e]at b ⊢;cases c:jR more with
  |true =>
   rw[c,if_pos rfl]at b;rw[b];refine ag ?_;exact⟨_,rfl,pd 3⟩
  |false =>
   rw[c,if_neg be]at b;rcases VX 512 Y.length with k|k
   ·rw[if_pos k]at b;rw[b];refine ag ?_;exact⟨_,rfl,pd 11⟩
   ·rw[if_neg am]at b;rw[b];refine ag ?_;exact⟨_,rfl,bx.refl _⟩
variable {m:List I}
theorem aLW[bt D po][aT x1 l][aT x2 m](h:l.length+m.length<=900000/\∀a∈m,cc a<=1000000) :b1 ν aD D 37 [x1,x2] K tg=K (j8 (some (xy l m))):=ik (D':=po) (F:=λ(l:List I)(m:List I)=>j8 (some (xy l m))) (T6 λ_=>rfl) (aLV l m h.1 h.2)
attribute [go_sem ↓ 2000] aLW
open Enc (enc)
theorem aLX[bt D y9][aT x1 l]  :b1 ν aD D 34 [x1] K tg=K (enc (fx l)):=ec (D':=y9) (F:=λ(l:List I)=>enc (fx l)) (aKm λ_=>rfl) (aKo l)
attribute [go_sem ↓ 2000] aLX
theorem T7(h:gX l):(∀a,a∈hI l↔a∈l)/\(hI l).Nodup:=by
 have key:∀(l acc:List I),gX acc->gX l->acc.Nodup->(∀a,a∈l.foldl kJ acc↔a∈acc\/a∈l)/\(l.foldl kJ acc).Nodup:=λl=>by
  induction l with
  |nil=>intro acc _ _ h;simp[h]|cons x r ih =>
   intro acc c d g;have ah:=d x be;have hm:=aiY c ah;have i:(kJ acc x).Nodup:=by
    unfold kJ;split
    ·exact g
    ·rename_i q;rw[KY c ah]at q;rw[List.nodup_append];exact⟨g,be,λa aG b ae=>by rw[List.mem_singleton]at ae;rw[ae];exact λe=>q (e▸aG)⟩
   obtain⟨j,k⟩:=ih (kJ acc x) (λa aG=>by rcases(hm a).1 aG with q|rfl;exact c a q;exact ah) (λa aG=>d a (by simp[aG])) i;refine⟨λa=>?_,k⟩;rw[List.foldl_cons,j,hm,V7];grind
 simpa[hI]using key l [] (λ_ h=>d7) h .nil
theorem LC(h:l.all kM=true):gX l:=λa aG=>by
 have:=Wv.1 h a aG;simp only[kM,Wm]at this;exact this.2
theorem alU{l:List aU}(a:hG l=0)(cE:gX A):(l.flatMap λr=>mA r A)=eB l A:=by
 rw[eB,List.flatMap_def,List.flatMap_def,List.map_congr_left λr b=>aKu cE (alu a r b)]
theorem aLY{l:List aU}{b:List I}(e:hG l=0)(aG:b.all kM=true):xy [] (l.flatMap λr=>mA r (fx b))=(if jR (eB l (hI b))then([],3)else if 512<(hI (eB l (hI b))).length then([],11)else(fx (hI (eB l (hI b))),0)):=by
 have d:=LC aG;have i:gX (fx b):=λa h=>d a ((rI _ _).1 h);have g:=(T7 d).1;have c:=RS (λa=>(rI b a).trans (g a).symm) l;rw[alU e i,xy,aiR c];cases hd:jR (eB l (hI b))with
 |true=>rw[if_pos rfl,if_pos rfl]|false =>
  have j:gX (eB l (hI b)):=λx ah=>Dm (xi e).2 (λa h=>d a ((g a).1 h)) hd ah;obtain⟨k,n⟩:=T7 j;have es:lI [] (eB l (fx b))=fx (hI (eB l (hI b))):=ahb λx=>by rw[k,c]
  have o:=aiT (K1 (wZ (hI (eB l (hI b))))) n (rI _);simp only[Bool.false_eq_true,if_false,es,o]
theorem aLZ(a:I):kM a=(cD 4 a false&&dM a.name):=by
 unfold kM ug;cases h:cD 4 a false with
 |false=>simp|true=>rw[RI h];simp
theorem aL0(l:List aU)(b:List I)(hd:∀r∈l,∀a∈dx r,cc a<=1000000)(hk:hG l=0->b.all kM=true->∀r∈l,DP r (fx b)):aA ν aD 12 [enc l,enc b] (j8 (some (pf l b))):=by
 refine aA.sy λB C=>?_;obtain⟨B,_⟩:=B;obtain⟨C,_⟩:=C;have X:M=1099511627776:=rfl;obtain⟨⟨n,o⟩,c⟩:∃L,L=pf l b:=⟨_,rfl⟩;rw[<-c];have O:j8 (some (n,o))=.bg [enc n,.int .i64 o]:=rfl;have p:=aLf l;unfold pf at c;refine aA.gK (D:=po) ax6 (by simp only[VZ,V0,Enc.arg,V1]) (by rfl) (λ_ _ _ h=>d7) ?_;unfold Yt;rcases Wp (hG l)with d|d
 ·rw[if_neg am]at c;rw[d]at p;obtain⟨Z,P⟩:=xi d;rcases VX 512 b.length with E|E
  ·rw[if_pos E]at c;refine bU @p ?_;rw[c];exact⟨_,rfl,pd 13⟩
  ·rw[if_neg am]at c;refine bU @p ?_;refine bQ (λi:Nat=>⟨N [(0,.v (enc l)),(1,.v (enc b)),(8,.v (enc i))],[]⟩)
    (λi=>i<=b.length/\∀a∈b.take i,kM a=true) (λi=>b.length-i) 0 ⟨VY _,be⟩ ew ?_
   rintro i ⟨G,v⟩;rcases VX i b.length with al|al
   ·have g:=aLZ b[i]!;have bad:kM b[i]! = false->(n,o)=([],13):=λe=>by
     have j:b.all kM=false:=by rw[List.all_eq_false];exact⟨_,ek al,by rw[e];simp⟩
     rw[j]at c;exact c
    cases k:cD 4 b[i]! false with
    |false =>
     rw[k]at g;rw[bad g];refine bU @k ?_;exact⟨_,rfl,pd 13⟩
    |true =>
     cases q:dM b[i]!.name with
     |false =>
      rw[k,q]at g;rw[bad g];refine gS @k @q ?_;exact⟨_,rfl,pd 13⟩
     |true =>
      rw[k,q]at g;refine gS @k @q ?_;exact⟨i+1,⟨am,λa aG=>by
       rw[bL al,List.mem_append,List.mem_singleton]at aG;rcases aG with aG|rfl
       ·exact v a aG
       ·exact g⟩,am,co⟩
   ·rw[V6 al]at v;have j:b.all kM=true:=Wv.2 v;have w:=hk d j;have Q:=LC j;rw[j,<-aLY d j]at c;simp only[Bool.not_true,Bool.false_eq_true,if_false]at c;obtain⟨S,ds⟩:∃S,S=fx b:=⟨_,rfl⟩;rw[<-ds]at c w;have cE:jo S:=by rw[ds];exact wZ _
    have H:gX S:=λa h=>Q a ((rI _ _).1 (ds▸h));refine bU (Eq.symm @ds) ?_;refine bQ (λi:Nat=>⟨N [(0,.v (enc l)),(9,.v (enc S)),(10,.v (.list (some 31) 2 (((l.take i).flatMap λr=>mA r S).map I.enc))),(11,.v (enc i))],[]⟩)
     (λi=>i<=l.length) (λi=>l.length-i) 0 (VY _) (rm @List.flatMap_nil.{0,0}) ?_
    clear al G;intro i G;have u:((l.take i).flatMap λr=>mA r S).length<=(l.take i).length*5000:=GK _ λr x=>alT (w r (List.mem_of_mem_take x));rw[Wn]at u;rcases VX i l.length with al|al
    ·have ax:((l.take (i+1)).flatMap λr=>mA r S)=((l.take i).flatMap λr=>mA r S)++mA l[i]! S:=by rw[bL al,List.flatMap_append];simp
     have y:jo S/\DP l[i]! S:=⟨cE,w _ (ek al)⟩;have R:=alT y.2;obtain⟨Y,z⟩:∃Y,Y=(l.take i).flatMap λr=>mA r S:=⟨_,rfl⟩;rw[<-z]at ax u ⊢;refine ag ?_;exact⟨i+1,am,am,by rw[ax];(exact bl)⟩
    ·rw[V6 al]at u ⊢;have J:∀a∈(l.flatMap λr=>mA r S),cc a<=1000000:=λa aG=>by
      rw[alU d H,eB,Wu]at aG;obtain⟨r,x,y⟩:=aG;have:=GH (aiN H (P r x) y);omega
     obtain⟨Y,z⟩:∃Y,Y=l.flatMap λr=>mA r S:=⟨_,rfl⟩;rw[<-z]at c u J ⊢;have T:([]:List I).length+Y.length<=900000/\∀a∈Y,cc a<=1000000:=⟨by simp only[List.length_nil];omega,J⟩;have V:j8 (some (xy [] Y))=.bg [enc n,.int .i64 o]:=by rw[<-c];rfl
     refine bU @V ?_;exact⟨_,rfl,bx.refl _⟩
 ·rw[if_pos am]at c;have W:((hG l:Int) != 0)=true:=by simp;omega
  refine gS @p @W ?_;rw[c];exact⟨_,rfl,pd (hG l)⟩
open Enc (enc)
theorem aL1{L:List aU}{S:List I}(C:sR L A)(c:r∈L)(b:Hf r)(cE:jo S)(ds:∀a∈S,a∈A):DP r S:=by
 refine⟨aLB C c (K1 cE) ds λl d=>(b.a l.atom (by simp only[dx,V7,Wd];exact .inr ⟨l,d,rfl⟩)).2,?_,b.hz⟩;have e:=b.toRV1.leaves;rw[dx,bF,Wf]at e;omega
theorem aL2(k:aA ν aD 7 [] (enc true))(l:List aU)(g:List I)(L:∀r∈l,DJ r)(O:∀a∈g,fH 1048576 a):aA ν aD 4 [enc l,enc g] (enc true):=by
 have P:M=1099511627776:=rfl;have aG:=λ{K:AV->Prop}{tg:aN K}=>aKd (D:=po) (K:=K) (tg:=tg) k;cases n:rV l g with
 |false =>
  refine aA.intro (D:=po) ae1 (by simp only[VZ,V0,Enc.arg,V1]) c7 ?_;unfold O6
  (repeat' first|simp(disch:=first|exact ai|fail) only[go_sem,n,aG]|(refine ao ?_ ?_<;>intro))
  all_goals rfl
 |true =>
 obtain⟨q,Q,y⟩:=aKh n;have S:=(Hc q).1;have e:=aKg q;have u:hG l=0->g.all kM=true->∃A,sR l A/\∀a∈g,a∈A:=λb c=>aJ0 (xi b).2 (LC c) y;have v:=akj l g e λb c=>by
  obtain⟨A,C,cE⟩:=u b c;obtain⟨z,B⟩:=T7 (LC c);have:=C.alh B (λa aG=>cE a ((z a).1 aG)) l (λr h=>h);omega
 have i:=aL0 l g e λb c r w=>by
  obtain⟨A,C,cE⟩:=u b c;exact aL1 C w (alu b r w) (wZ g) λa aG=>cE a ((rI g a).1 aG)
 obtain⟨⟨d,x⟩,j⟩:∃E,E=pf l g:=⟨_,rfl⟩;rw[<-j]at v i;have o:=λ{K:AV->Prop}{tg:aN K}=>aki (D:=po) (K:=K) (tg:=tg) (x1:=enc l) (x2:=enc g) (l:=l) (a:=g) (by rw[<-j];exact v);have p:=λ{K:AV->Prop}{tg:aN K}=>aLO (D:=po) (K:=K) (tg:=tg) (x1:=enc l) (x2:=enc g) (l:=l) (a:=g) (by rw[<-j];exact i);rw[<-j,show j8 (some (d,x))=.bg [enc d,.int .i64 x] from rfl]at o p;have G:∀R:List aU,(enc R:AV)=.list none 3 (R.map aU.enc):=λ_=>rfl;have H:∀R:List I,(enc R:AV)=.list none 2 (R.map I.enc):=λ_=>rfl;simp only[G,H]at o p;have J:gD d d=true:=(FN d d).2 rfl;refine aA.intro (D:=po) ae1 (by simp only[VZ,V0,Enc.arg,V1]) c7 ?_;unfold O6
 (repeat' first|simp(disch:=first|exact ai|fail) only[go_sem,n,aG,o,p,J]|(refine ao ?_ ?_<;>intro))
 all_goals rfl
open Enc (enc)
def sV:Option (List aY×Bool)->AV
 |some (s,b)=>.bg [k3 s,.bool b]|none=>.bg []
def DQ:Option (List aY×Bool)->AV
 |some (s,b)=>.bg [enc s,.bool b]|none=>.bg []
noncomputable def al1:List AV->Option AV
 |[_,_,y]=>eh (λt:List aY=>enc t) [y]|_=>none
noncomputable def al2:List AV->Option AV:=λ_=>some (.aS 3)
noncomputable def al3:List AV->Option AV
 |[_,x,y]=>hj (λ(v:ak)(t:I)=>enc [aY.mk v t]) [x,y]|_=>none
noncomputable def Ud:List iZ:=[(141,eh λ(t:I)=>enc (zf t)),
 (142,hj λ(s:List aY)(v:ak)=>.bg [.int .i64 (oH s v),.bool (sS s v)]),
 (143,hj λ(t:I)(u:I)=>enc (hi t u)),
 (145,eh λ(t:I)=>enc (t)),
 (181,al1),
 (182,al2),
 (144,al3),
 (94,qF λ(p:I)(g:I)(s:List aY)=>sV (oI p g s)),
 (95,eh λ(s:List aY)=>enc (s)),
 (93,eh λ(s:List aY)=>enc (q1 s)),
 (50,qF λ(p:I)(g:I)(s:List aY)=>DQ (sU p g s))]
noncomputable def e7:bj:=ij nR (e1 Ud)
instance aPz{D:bj}[h:bt D e7]:bt D nR:=h.ke
def al4:List Nat:=[141,142,143,145,181,182,144,94,95,93,50]++G2
theorem aL8:fq e7 al4:=fq.or Lh (kf Ud)
theorem sW(h:∀xs,e1 Ud f xs=F xs)(hk:G2.contains f=false:=by rfl):∀xs,e7 f xs=F xs:=λxs=>by rw[<-h];exact kg Lh hk
theorem aL9[bt D e7][aT x1 t](h:aA ν aD 145 [enc t] (enc (t))):b1 ν aD D 145 [x1] K tg=K (enc (t)):=ec (D':=e7) (F:=λ(t:I)=>enc (t)) (sW λ_=>rfl) h
theorem aMa(t:I):aA ν aD 141 [enc t] (enc (zf t)):=by
 have a:((t.args.length:Int)==0)=decide (t.args.length=0):=by rw[Wc];simp
 unfold zf;refine aA.intro (D:=e7) azu cX c7 ?_;unfold acV;simp(disch:=first|exact ai|fail) only[go_sem];cases b:decide (t.args.length=0)<;>cases c:eg t.name;all_goals (repeat' first|simp(disch:=first|exact ai|fail) only[go_sem,a,b,c]|(refine ao ?_ ?_<;>intro))
 all_goals rfl
theorem aMb[bt D e7][aT x1 t]  :b1 ν aD D 141 [x1] K tg=K (enc (zf t)):=ec (D':=e7) (F:=λ(t:I)=>enc (zf t)) (sW λ_=>rfl) (aMa t)
attribute [go_sem ↓ 2000] aMb
theorem al5(b:aY)(v:ak):aA ν aD 179 [enc b,enc v] (enc (du b.var v)):=by
 refine aA.intro (D:=e7) afs cX c7 ?_;unfold ad2;simp(disch:=first|exact ai|fail) only[go_sem]
 (repeat' first|refine ag ?_|(refine ao ?_ ?_<;>intro))
 all_goals rfl
variable {H:List ay}
theorem aMc(s:List aY)(v:ak)(u:s.length<=M) :
  bB ν aD 178 [enc s,enc v,.fn 179 []] H λr H'=>r=.bg [.int .i64 (oH s v),.bool (sS s v)]/\H'=H:=by
 have w:M=1099511627776:=rfl;have d:=(yh afs).1;obtain⟨c,a⟩:∃c:Nat->Bool,c=λk:Nat=>decide (du s[k]!.var v<0):=⟨_,rfl⟩;have i:oH s v=p8 c s.length 0 s.length:=by rw[a];rfl
 refine bB.intro (D:=e7) azT ?_;unfold ad0;refine ag ?_;refine bQ (λp:Nat×Nat=>⟨N [(0,.v (enc s)),(1,.v (enc v)),(2,.v (.fn 179 [])),(8,.v (enc s.length)),(9,.v (enc p.1)),(10,.v (enc p.2))],H⟩)
  (λp=>p.1<=p.2/\p.2<=s.length/\p8 c s.length p.1 p.2=oH s v) (λp=>p.2-p.1) (0,s.length) ⟨VY _,Nat.le_refl _,i.symm⟩ ew ?_
 rintro⟨bc,al⟩ ⟨j,n,b⟩;simp only at j n b;rcases VX bc al with h|h
 ·obtain⟨m,hm⟩:∃m,m=(bc+al) / 2:=⟨_,rfl⟩;have x:m<s.length:=by omega
  have ax:=aL4 c (f:=s.length) am h;rw[<-hm]at ax;have o:c m=decide (du s[m]!.var v<0):=by simp only[a]
  rw[o]at ax;have e:((bc:Int)+(al:Int)) / 2=(m:Int):=by omega
  have hd:=al5 s[m]! v;rcases Int.lt_or_le (du s[m]!.var v) 0 with a|a
  ·rw[decide_eq_true a,if_pos rfl]at ax
   (repeat' first|simp(disch:=first|exact ai|fail) only[go_sem,e,jL]|(refine ao ?_ ?_<;>intro)|refine CV d hd ?_)
   exact⟨(m+1,al),⟨ap,ap,ax.symm.trans b⟩,ap,co⟩
  ·rw[decide_eq_false am,if_neg be]at ax
   (repeat' first|simp(disch:=first|exact ai|fail) only[go_sem,e,jL]|(refine ao ?_ ?_<;>intro)|refine CV d hd ?_)
   exact⟨(bc,m),⟨ap,ap,ax.symm.trans b⟩,ap,co⟩
 ·have ar:oH s v=bc:=by rw[<-b,Hk c am]
  have q:sS s v=(decide (bc<s.length)&&(du s[bc]!.var v==0)):=by rw[sS,ar]
  rw[ar,q];rcases VX bc s.length with g|g
  ·rw[decide_eq_true g,We];have hd:=al5 s[bc]! v
   (repeat' first|simp(disch:=first|exact ai|fail) only[go_sem,jL]|(refine ao ?_ ?_<;>intro)|refine CV d hd ?_)
   exact⟨_,rfl,d9⟩
  ·rw[decide_eq_false am,V9];refine bU @jL ?_;exact⟨_,rfl,d9⟩
theorem aMd(s:List aY)(v:ak)(a:s.length<=M):aA ν aD 142 [enc s,enc v] (.bg [.int .i64 (oH s v),.bool (sS s v)]):=by
 have ae:=aMc (H:=[]) s v a;refine aA.intro (D:=e7) azv (by simp only[VZ,V0,Enc.arg,V1]) rfl ?_;unfold acX
 (repeat' first|simp(disch:=first|exact ai|fail) only[go_sem]|(refine ao ?_ ?_<;>intro)|refine cA ae ?_)
 all_goals rfl
theorem aMe[bt D e7]{v:ak}[aT x1 s][aT x2 v](h:s.length<=M) :b1 ν aD D 142 [x1,x2] K tg=K (.bg [.int .i64 (oH s v),.bool (sS s v)]):=ik (D':=e7) (F:=λ(s:List aY)(v:ak)=>.bg [.int .i64 (oH s v),.bool (sS s v)]) (sW λ_=>rfl) (aMd s v h)
attribute [go_sem ↓ 2000] aMe
theorem aMf{i:Nat}(a:i<l.length)(b:i<m.length):gD (l.drop i) (m.drop i)=(hi l[i]! m[i]!&&gD (l.drop (i+1)) (m.drop (i+1))):=by
 rw[fi a,fi b,gD]
theorem aMg(l m:List I)(e:l.length<=M/\m.length<=M)(h:∀t∈l,∀u,aA ν aD 143 [enc t,enc u] (enc (hi t u))) :
  bB ν aD 180 [enc l,enc m,.fn 143 []] H λr H'=>r=.bool (decide (l.length=m.length)&&gD l m)/\H'=H:=by
 have g:M=1099511627776:=rfl;have c:=(yh afn).1;refine bB.intro (D:=e7) azU ?_;unfold ad5;rcases Decidable.em (l.length=m.length)with b|b
 ·have cG:((l.length:Int) != (m.length:Int))=false:=by rw[b];simp
  rw[decide_eq_true b,We];refine bU @cG ?_;refine bQ (λi:Nat=>⟨N [(1,.v (enc m)),(2,.v (.fn 143 [])),(15,.v (enc l)),(16,.v (enc l.length)),(17,.v (enc i))],H⟩) (λi=>i<=l.length/\gD (l.drop i) (m.drop i)=gD l m) (λi=>l.length-i) 0 ⟨VY _,rfl⟩ ew ?_;rintro i ⟨j,a⟩;rcases VX i l.length with al|al
  ·have hd:=h l[i]! (ek al) m[i]!;rw[aMf al am]at a;cases d:hi l[i]! m[i]! with
   |true =>
    rw[d]at hd a;rw[We]at a
    (repeat' first|simp(disch:=first|exact ai|fail) only[go_sem,jL]|(refine ao ?_ ?_<;>intro)|refine CV c hd ?_)
    exact⟨i+1,⟨am,a⟩,am,co⟩
   |false =>
    rw[d]at hd a;rw[V9]at a
    (repeat' first|simp(disch:=first|exact ai|fail) only[go_sem,jL]|(refine ao ?_ ?_<;>intro)|refine CV c hd ?_)
    exact⟨_,rfl,by first|(rw[<-a];done)|(rw[<-a];exact⟨rfl,rfl⟩)⟩
  ·rw[V5 al,V5 am,gD]at a;refine ag ?_;exact⟨_,rfl,by first|(rw[<-a];done)|(rw[<-a];exact⟨rfl,rfl⟩)⟩
 ·have cG:((l.length:Int) != (m.length:Int))=true:=by simp;omega
  rw[decide_eq_false b,V9];refine bU @cG ?_;exact⟨_,rfl,d9⟩
theorem al6:∀{l m:List I},gD l m=true->l.length=m.length
 |[],[],_=>rfl|_::_,_::_,h=>by simp only[gD,Wm]at h;simp only[Ws,al6 h.2]|[],_::_,h=>by simp[gD]at h|_::_,[],h=>by simp[gD]at h
theorem aMh:∀t u:I,aA ν aD 143 [enc t,enc u] (enc (hi t u)):=I.ind λt ih u=>by
 refine aA.sy λg h=>?_;have i:M=1099511627776:=rfl;have c:(decide (t.args.length=u.args.length)&&gD t.args u.args)=gD t.args u.args:=by
  cases d:gD t.args u.args with
  |true=>rw[decide_eq_true (al6 d)];rfl|false=>rw[Bool.and_false]
 have e:=aMg (H:=[]) t.args u.args ⟨((I.j5 t).1 g).2.1,((I.j5 u).1 h).2.1⟩ ih;rw[c]at e;have he:hi t u=(t.name==u.name&&gD t.args u.args):=by
  obtain⟨n,a⟩:=t;obtain⟨m,b⟩:=u;rfl
 rw[he];refine aA.intro (D:=e7) afn cX c7 ?_;unfold acZ;simp(disch:=first|exact ai|fail) only[go_sem];cases d:t.name==u.name;all_goals (repeat' first|simp(disch:=first|exact ai|fail) only[go_sem,d]|(refine ao ?_ ?_<;>intro)|refine cA e ?_)
 all_goals rfl
theorem aMi[bt D e7]{u:I}[aT x1 t][aT x2 u]  :b1 ν aD D 143 [x1,x2] K tg=K (enc (hi t u)):=ik (D':=e7) (F:=λ(t:I)(u:I)=>enc (hi t u)) (sW λ_=>rfl) (aMh t u)
attribute [go_sem ↓ 2000] aMi
theorem aMj:∀t:I,aA ν aD 145 [enc t] (enc t):=I.ind λt ih=>by
 refine aA.h4 λae=>?_;have k:=(I.j5 t).1 ae;have n:=k.2.1;have q:M=1099511627776:=rfl;obtain⟨o,cK⟩:=t;simp only[I.args]at ih n;obtain⟨row,g⟩:∃row:Nat->AV,row=λi:Nat=>if i=0 then AV.aS 2 else .list (some 31) 2 ((cK.take i).map I.enc):=⟨_,rfl⟩;have b:row 0=.aS 2:=by rw[g];rfl
 have a:∀i,row (i+1)=.list (some 31) 2 ((cK.take (i+1)).map I.enc):=λi=>by rw[g];exact if_neg am
 refine aA.gK (D:=e7) azx (by simp only[VZ,V0,Enc.arg,V1]) (Enc.res _) (Enc.iI _) ?_;unfold ac4;refine gS @Wq.{0} @Wr.{0} ?_;refine bQ (λi:Nat=>⟨N [(2,.b [.str [],.aS 2]),(3,.v (.ptr 0 0)),(10,.v (enc cK)),(11,.v (enc cK.length)),(12,.v (enc i))],[.cells [.str o,row i]]⟩)
  (λi=>i<=cK.length) (λi=>cK.length-i) 0 (VY _) (rm @b) ?_
 intro i al;rcases VX i cK.length with h|h
 ·have hd:=ih cK[i]! (ek h);have j:=λ{K:AV->Prop}{tg:aN K}(u:i<cK.length)=>aL9 (D:=e7) (K:=K) (tg:=tg) (x1:=cK[i]!.enc) (hd);have p:(cK.take i).length=i:=by rw[Wn];omega
  cases i with
  |zero =>
   refine mb @j @b @Wq.{0} @Wr.{0} ?_;exact⟨1,am,am,by(exact qn (a 0))⟩
  |succ i =>
   refine oX @j (a i) @p @V8.{0,0} @Wq.{0} @Wr.{0} ?_;exact⟨i+2,am,am,by(exact qn (a (i+1)))⟩
 ·obtain rfl:i=cK.length:=by omega
  rcases Wp cK.length with c|c
  ·have d:cK=[]:=Wj.1 c;have e:row cK.length=.aS 2:=by rw[c];exact b
   refine iv @e @Wq.{0} @Wr.{0} ?_;exact⟨_,rfl,by rw[d];exact bx.agg (.cons (bx.refl _) (.cons (bx.aS 2) .nil))⟩
  ·have e:row cK.length=.list (some 31) 2 (cK.map I.enc):=by
    have:=a (cK.length-1);rw[show cK.length-1+1=cK.length by omega,Wb]at this;exact this
   refine iv @e @Wq.{0} @Wr.{0} ?_;exact⟨_,rfl,bx.agg (.cons (bx.refl _) (.cons (by first|exact bx.refl _|(rw[oj];exact bx.refl _)|exact bx.disown _ _ _) .nil))⟩
theorem aMl[bt D e7][aT x1 t]  :b1 ν aD D 145 [x1] K tg=K (enc (t)):=ec (D':=e7) (F:=λ(t:I)=>enc (t)) (sW λ_=>rfl) (aMj t)
attribute [go_sem ↓ 2000] aMl
open Enc (enc)
theorem aMm(s:List aY):aA ν aD 93 [enc s] (enc (q1 s)):=by
 refine aA.h4 λq=>?_;have x:M=1099511627776:=rfl;have q:s.length<=M:=q.1;rcases VX 64 s.length with d|d
 ·have e:q1 s=false:=by rw[q1,decide_eq_false am,V9]
  rw[e];refine aA.intro (D:=e7) afi cX c7 ?_;unfold Pq;simp(disch:=first|exact ai|fail) only[go_sem]
  (repeat' first|refine ag ?_|(refine ao ?_ ?_<;>intro))
  all_goals rfl
 ·refine aA.intro (D:=e7) afi cX c7 ?_;unfold Pq;simp(disch:=first|exact ai|fail) only[go_sem]
  (repeat' first|refine ag ?_|(refine ao ?_ ?_<;>intro))
  refine bQ (λi:Nat=>⟨N [(0,.v (enc s)),(8,.v (enc s)),(9,.v (enc s.length)),(10,.v (enc i))],[]⟩) (λi=>i<=s.length/\∀k,k<i->xz s k=true) (λi=>s.length-i) 0 ⟨VY _,λk h=>absurd h am⟩ ew ?_;rintro i ⟨y,u⟩;rcases VX i s.length with h|h
  ·cases a:xz s i with
   |true =>
    have v:∀k,k<i+1->xz s k=true:=λk hk=>by
     rcases VX k i with h|h
     ·exact u k h
     ·obtain rfl:k=i:=by omega
      exact a
    simp only[xz,Wm]at a;obtain⟨⟨b,c⟩,w⟩:=a;rcases Wp i with g|g
    ·subst g;refine gS @b @c ?_;exact⟨1,⟨am,v⟩,am,co⟩
    ·obtain⟨j,rfl⟩:∃j,i=j+1:=⟨i-1,am⟩;have n:(Op.bytesLess s[j+1]!.var s[j]!.var||s[j+1]!.var==s[j]!.var)=false:=by simpa using w
     have o:(j:Int)+1-1=j:=by omega
     refine mb @b @c @n @o ?_;exact⟨j+2,⟨am,v⟩,am,co⟩
   |false =>
    have no:=aL5 h a;rw[no];unfold xz at a;cases b:eg s[i]!.var with
    |false =>
     (repeat' first|simp(disch:=first|exact ai|fail) only[go_sem,b]|(refine ao ?_ ?_<;>intro))
     all_goals rfl
    |true =>
     cases c:cD 4 s[i]!.term true with
     |false =>
      (repeat' first|simp(disch:=first|exact ai|fail) only[go_sem,b,c]|(refine ao ?_ ?_<;>intro))
      all_goals rfl
     |true =>
      rw[b,c]at a;obtain⟨j,rfl⟩:∃j,i=j+1:=⟨i-1,by rcases Wp i with g|g;(· subst g;simp at a);omega⟩;have n:(Op.bytesLess s[j+1]!.var s[j]!.var||s[j+1]!.var==s[j]!.var)=true:=by simp only[We,Bool.not_eq_false',Nat.zero_lt_succ,decide_true,Nat.add_sub_cancel]at a;exact a
      have o:(j:Int)+1-1=j:=by omega
      (repeat' first|simp(disch:=first|exact ai|fail) only[go_sem,b,c,n,o]|(refine ao ?_ ?_<;>intro))
      all_goals rfl
  ·have p:=aL6 d λi al=>u i am;rw[p]
   (repeat' first|simp(disch:=first|exact ai|fail) only[go_sem]|(refine ao ?_ ?_<;>intro))
   all_goals rfl
theorem aMn[bt D e7][aT x1 s]  :b1 ν aD D 93 [x1] K tg=K (enc (q1 s)):=ec (D':=e7) (F:=λ(s:List aY)=>enc (q1 s)) (sW λ_=>rfl) (aMm s)
attribute [go_sem ↓ 2000] aMn
theorem aMo(s:List aY):aA ν aD 95 [enc s] (enc s):=by
 refine aA.h4 λa=>?_;have b:M=1099511627776:=rfl;have a:s.length<=M:=a.1;refine aA.gK (D:=e7) ayW cX (Enc.res _) (Enc.iI _) ?_;unfold abq;refine ag ?_;refine bQ (λi:Nat=>⟨N [(3,.v (.list (some 164) 3 ((s.take i).map aY.enc))),(6,.v (enc s)),(7,.v (enc s.length)),(8,.v (enc i))],[]⟩) (λi=>i<=s.length) (λi=>s.length-i) 0 (VY _) (rm @Wi.{0}) ?_;intro i al;rcases VX i s.length with h|h
 ·have c:(s.take i).length=i:=by rw[Wn];omega
  refine ag ?_;exact⟨i+1,am,am,co⟩
 ·obtain rfl:i=s.length:=by omega
  rw[Wb];refine ag ?_;exact⟨_,rfl,ii⟩
theorem aMp[bt D e7][aT x1 s]  :b1 ν aD D 95 [x1] K tg=K (enc (s)):=ec (D':=e7) (F:=λ(s:List aY)=>enc (s)) (sW λ_=>rfl) (aMo s)
attribute [go_sem ↓ 2000] aMp
theorem aMq:aA ν aD 182 [.aS 3] (.aS 3):=by
 refine aA.intro (D:=e7) azW rfl rfl ?_;unfold ad9
 (repeat' first|simp(disch:=first|exact ai|fail) only[go_sem]|(refine ao ?_ ?_<;>intro))
 all_goals rfl
theorem aMr(t:List aY)(a:t.length=1):aA ν aD 181 [.aS 3,.int .i64 0,enc t] (enc t):=by
 have b:M=1099511627776:=rfl;refine aA.gK (D:=e7) azV (by simp only[VZ,V0,Enc.arg,V1];rfl) (Enc.res _) (Enc.iI _) ?_;unfold ad7;refine bU @a ?_;exact⟨_,rfl,ii⟩
section
variable {D:bj}[bt D e7]{K:AV->Prop}{tg:aN K}
theorem aMs:b1 ν aD D 182 [.aS 3] K tg=K (.aS 3) :=
 u1 rfl (bt.h (D':=e7) _ _ _ (by rw[sW (F:=al2) (λ_=>rfl)];rfl)) aMq
theorem aMt{y:AV}{t:List aY}[a:aT y t](b:t.length=1):b1 ν aD D 181 [.aS 3,.int .i64 0,y] K tg=K (enc t) :=
 u1 (by simp only[VZ,a.arg,V0,V1];rfl) (bt.h (D':=e7) _ _ _ (by rw[sW (F:=al1) (λ_=>rfl)];exact Qi (F:=λt:List aY=>enc t) a)) ((aMr t b).args (.cons (bx.refl _) (.cons (bx.refl _) (.cons a.kX .nil))))
attribute [go_sem ↓ 2000] aMs aMt
end
theorem al8(v:ak):oH [] v=0:=rfl
theorem al9(v:ak):sS [] v=false:=rfl
theorem aMu(v:ak)(t:I):aA ν aD 144 [.aS 3,enc v,enc t] (enc [aY.mk v t]):=by
 have a:M=1099511627776:=rfl;refine aA.intro (D:=e7) azw (by simp only[VZ,V0,Enc.arg,V1];rfl) (Enc.res _) ?_;unfold ac1
 (repeat' first|simp(disch:=first|exact ai|fail) only[go_sem,al8,al9]|(refine ao ?_ ?_<;>intro))
 all_goals rfl
section
variable {D:bj}[bt D e7]{K:AV->Prop}{tg:aN K}
variable {x y:AV}
theorem aMv{v:ak}[a:aT x v][b:aT y t]:b1 ν aD D 144 [.aS 3,x,y] K tg=K (enc [aY.mk v t]) :=
 u1 (by simp only[VZ,a.arg,b.arg,V0,V1];rfl) (bt.h (D':=e7) _ _ _ (by rw[sW (F:=al3) (λ_=>rfl)];exact agp (F:=λ(v:ak)(t:I)=>enc [aY.mk v t]) a b)) ((aMu v t).args (.cons (bx.refl _) (.cons a.kX (.cons b.kX .nil))))
theorem ama{p g:I}[a:aT x p][b:aT y g](h:aA ν aD 94 [enc p,enc g,k3 s] (sV (oI p g s))):b1 ν aD D 94 [x,y,k3 s] K tg=K (sV (oI p g s)) :=
 u1 (by simp only[VZ,a.arg,b.arg,(aT.k3 s).arg,V0,V1]) (bt.h (D':=e7) _ _ _ (by rw[sW (F:=qF λ(p:I)(g:I)(s:List aY)=>sV (oI p g s)) (λ_=>rfl)];exact Qj (F:=λ(p:I)(g:I)(s:List aY)=>sV (oI p g s)) a b (aT.k3 s))) (h.args (.cons a.kX (.cons b.kX (.cons (bx.refl _) .nil))))
attribute [go_sem ↓ 2000] aMv
end
theorem aMw(s:List aY):(k3 s).a1=k3 s:=by unfold k3;split<;>rfl
theorem LH(s:List aY):(k3 s).arg=true:=(aT.k3 s).arg
theorem aMx{s:au}{d x:Nat}{K:au->Prop}{tg:aN K}(q:List aY):yD s d x K tg (k3 q)=di s d (k3 q) K ⟨⟩:=by unfold k3;split<;>rfl
attribute [go_sem 2000] aMx
attribute [go_sem] aMw LH
theorem aMy(p g:I)(s:List aY):oI p g s=if zf p then(if sS s p.name then some (s,hi s[oH s p.name]!.term g)else if s.length=0 then some ([⟨p.name,g⟩],true)else none)
  else if p.name != g.name||decide (p.args.length≠g.args.length)then some ([],false)else sT p.args g.args s:=by
 cases p;rw[oI];rfl
theorem Ug(r:Option (List aY×Bool)):(sV r).res=true:=by
 cases r with
 |none=>rfl|some q=>obtain⟨s,b⟩:=q;simp only[sV];unfold k3;split<;>rfl
theorem aMz{i:Nat}(c:i<l.length)(d:i<m.length):sT (l.drop i) (m.drop i) s=match oI l[i]! m[i]! s with
  |none=>none|some (s',true)=>sT (l.drop (i+1)) (m.drop (i+1)) s'|some (_,false)=>some ([],false):=by
 rw[fi c,fi d,sT];cases oI l[i]! m[i]! s with
 |none=>rfl|some q=>obtain⟨a,b⟩:=q;cases b<;>rfl
theorem aMA:∀(p g:I)(s:List aY)(R:List aY×Bool),oI p g s=some R->s.length<=1->aA ν aD 94 [enc p,enc g,k3 s] (sV (some R)):=I.ind λp ih g s R h ax=>by
 have E:M=1099511627776:=rfl;rw[aMy]at h;cases d:zf p with
 |true =>
  rw[d,if_pos rfl]at h;cases c:sS s p.name with
  |true =>
   rw[c,if_pos rfl]at h;simp only[Option.some.injEq]at h;subst h;have cG:s≠[]:=λe=>by rw[e]at c;cases c
   have w:oH s p.name<s.length:=by
    unfold sS at c;simp only[Wm,decide_eq_true_eq]at c;exact c.1
   rw[al0 cG];have e:sV (some (s,hi s[oH s p.name]!.term g))=.bg [.list none 3 (s.map aY.enc),.bool (hi s[oH s p.name]!.term g)]:=by rw[sV,al0 cG]
   rw[e];obtain⟨i,al⟩:∃i,i=oH s p.name:=⟨_,rfl⟩;rw[<-al]at w ⊢;refine aA.intro (D:=e7) FM (by simp only[VZ,V0,Enc.arg,V1];rfl) rfl ?_;unfold CG
   (repeat' first|simp(disch:=first|exact ai|fail) only[go_sem,d,c,<-al]|(refine ao ?_ ?_<;>intro))
   all_goals rfl
  |false =>
   rw[c,if_neg be]at h;split at h
   ·rename_i z;simp only[Option.some.injEq]at h;subst h;obtain rfl:=Wj.1 z;rw[aL7];have e:sV (some ([⟨p.name,g⟩],true))=.bg [.list none 3 [(aY.mk p.name g).enc],.bool true]:=rfl;rw[e];refine aA.intro (D:=e7) FM (by simp only[VZ,V0,Enc.arg,V1];rfl) rfl ?_;unfold CG
    (repeat' first|simp(disch:=first|exact ai|fail) only[go_sem,d,al8,al9]|(refine ao ?_ ?_<;>intro))
    all_goals rfl
   ·cases h
 |false =>
  rw[d,if_neg be]at h;cases j:p.name==g.name with
  |false =>
   rw[show(p.name != g.name)=true by rw[bne,j];rfl,Bool.true_or,if_pos rfl]at h;simp only[Option.some.injEq]at h;subst h;refine aA.intro (D:=e7) FM (by simp only[VZ,V0,Enc.arg,LH,V1]) (Ug _) ?_;unfold CG;refine gS @d @j ?_;all_goals rfl
  |true =>
   rw[show(p.name != g.name)=false by rw[bne,j];rfl,Wk]at h;by_cases u:p.args.length=g.args.length
   ·rw[decide_eq_false am,if_neg be]at h;have cG:((p.args.length:Int) != (g.args.length:Int))=false:=by rw[u];simp
    refine aA.sy λB G=>?_;have J:=((I.j5 p).1 B).2.1;refine aA.intro (D:=e7) FM (by simp only[VZ,V0,Enc.arg,LH,V1]) (Ug _) ?_;unfold CG;refine iv @d @j @cG ?_;refine bQ (λi:Nat×List aY=>⟨N [(2,.v (k3 i.2)),(3,.v (.cL p.enc.cells)),(4,.v (.cL g.enc.cells)),(51,.v (enc p.args.length)),(52,.v (enc i.1))],[]⟩) (λi=>i.1<=p.args.length/\i.2.length<=1/\sT (p.args.drop i.1) (g.args.drop i.1) i.2=some R) (λi=>p.args.length-i.1) (0,s) ⟨VY _,ax,h⟩ ew ?_;rintro⟨i,q⟩ ⟨C,n,a⟩;simp only at C n a;rcases VX i p.args.length with al|al
    ·rw[aMz al am]at a;cases hm:oI p.args[i]! g.args[i]! q with
     |none=>rw[hm]at a;cases a|some r =>
      obtain⟨o,b⟩:=r;have hd:=ih p.args[i]! (ek al) g.args[i]! q (o,b) hm n;rw[<-hm]at hd;have v:=λ{K:AV->Prop}{tg:aN K}=>ama (D:=e7) (K:=K) (tg:=tg) (x:=p.args[i]!.enc) (y:=g.args[i]!.enc) hd;have k:sV (oI p.args[i]! g.args[i]! q)=.bg [k3 o,.bool b]:=by rw[hm];rfl
      rw[hm]at a;cases b with
      |true =>
       simp only at a;refine gS @v @k ?_;exact⟨(i+1,o),⟨ap,alY hm n,a⟩,ap,co⟩
      |false =>
       simp only[Option.some.injEq]at a;subst a;refine gS @v @k ?_;all_goals rfl
    ·rw[V5 al,sT]at a
     ·simp only[Option.some.injEq]at a;subst a;refine ag ?_;all_goals rfl
     all_goals simp
   ·rw[decide_eq_true u,if_pos rfl]at h;simp only[Option.some.injEq]at h;subst h;have cG:((p.args.length:Int) != (g.args.length:Int))=true:=by simp;omega
    refine aA.intro (D:=e7) FM (by simp only[VZ,V0,Enc.arg,LH,V1]) (Ug _) ?_;unfold CG;refine iv @d @j @cG ?_;all_goals rfl
end AM
