/- What functions of the given program do, as calls of the machine. Conditions: names and lists are bounded where that is said. -/
import Derived.Test.YtclmmldjogkhoaaGreatDoorE42
import Derived.Test.YtclmmldjogkhoaaGreatDoorAm20
import Derived.Test.YtclmmldjogkhoaaGreatDoorE29
set_option linter.unusedSimpArgs false
set_option maxRecDepth 100000
set_option maxHeartbeats 4000000
set_option linter.unusedVariables false
namespace AM
open List renaming all_cons -> I9,all_nil -> Ja,map_append -> fM,take_zero -> aeZ,map_cons -> ae0,map_nil -> aB5,length_map -> aB8,foldr_cons -> aHk,foldr_nil -> aHV,getElem?_cons_zero -> aIC,set_cons_zero -> aID,drop_eq_nil_of_le -> aIF
open Bool renaming and_self -> LW,false_and -> aIE
open Nat renaming lt_or_ge -> TH,zero_le -> aB9
open Int renaming natCast_add -> aHW,natCast_one -> aIA,natCast_zero -> aIB
open Go Go.Proofs
open Tryz renaming prog -> ν
open Enc (enc)
def s8(l:List aU)(w k:Nat):List aU:=(List.range k).map fun i=>l[(i+w) % l.length]!
theorem aEy(l:List aU)(w k:Nat):s8 l w (k+1)=s8 l w k++[l[(k+w) % l.length]!]:=by
 simp only[s8,List.range_succ,fM,ae0,aB5]
theorem aEz{l:List aU}(w:Nat)(h:0<l.length)(r:aU):r∈s8 l w (l.length+1)↔r∈l:=by
 simp only[s8,List.mem_map,List.mem_range];constructor
 ·rintro⟨i,_,rfl⟩;exact ft (Nat.mod_lt _ h)
 ·intro c;obtain⟨i,ak,e⟩:=List.mem_iff_getElem.1 c;have d:=Nat.mod_lt w h;have a:=Nat.div_add_mod w l.length;have b:l[i]! = r:=by rw[getElem!_pos l i ak,e]
  by_cases f:w % l.length<=i
  ·refine⟨i-w % l.length,by omega,?_⟩;rw[show(i-w % l.length+w) % l.length=i by
    rw[<-a,show i-(l.length*(w / l.length)+w % l.length) % l.length+(l.length*(w / l.length)+w % l.length)=i+l.length*(w / l.length) by rw[a];omega,Nat.add_mul_mod_self_left,Nat.mod_eq_of_lt ak]]
   exact b
  ·refine⟨i+l.length-w % l.length,by omega,?_⟩;rw[show(i+l.length-w % l.length+w) % l.length=i by
    rw[<-a,show i+l.length-(l.length*(w / l.length)+w % l.length) % l.length+(l.length*(w / l.length)+w % l.length)=i+l.length*(w / l.length+1) by rw[a,Nat.mul_add];omega,Nat.add_mul_mod_self_left,Nat.mod_eq_of_lt ak]]
   exact b
def q0(g:List I)(k:Nat):List I:=g.reverse.take k
theorem aEA{g:List I}{k:Nat}(h:k<g.length):q0 g (k+1)=q0 g k++[g[g.length-1-k]!]:=by
 have U:k<g.reverse.length:=by rw[List.length_reverse];exact h
 rw[q0,bZ U,getElem!_pos g.reverse k U,List.getElem_reverse,<-getElem!_pos g (g.length-1-k) (by omega)];rfl
theorem aEB(i:aF ν aB 5 [] (enc true))(l:List aU)(g:List I)(w:Nat)(hw:w<256)(aD:∀r∈l,Cb r)(aC:∀a∈g,fe 1048576 a):aF ν aB 3 [enc l,enc g,.int .u8 w] (enc true):=by
 have dh:M=1099511627776:=rfl;have aE:=fun{K:AV->Prop}{tg:aM K}=>aEg (D:=la) (K:=K) (tg:=tg) i;cases c:pj l g with
 |false =>
  refine aF.intro (D:=la) HN (by simp only[I9,Ja,Enc.arg,LW];rfl) fg ?_;unfold DX
  (repeat' first|simp(disch:=first|exact aq|fail) only[go_sem,c,aE]|(apply av<;>intro))
  all_goals rfl
 |true =>
 obtain⟨G,U,H⟩:=aEl c;obtain⟨dV,de⟩:=Fp G;have fm:=(Q9 U).1;rcases show l.length=0\/39<l.length\/(0<l.length/\l.length<=39) by omega with d|d|⟨d,ll⟩
 ·refine aF.intro (D:=la) HN (by simp only[I9,Ja,Enc.arg,LW];rfl) fg ?_;unfold DX
  (repeat' first|simp(disch:=first|exact aq|fail) only[go_sem,c,aE,d]|(apply av<;>intro))
  all_goals rfl
 ·have n:decide ((l.length:Int)=0)=false:=decide_eq_false (by omega);have p:decide ((l.length:Int)>39)=true:=decide_eq_true (by omega);refine aF.intro (D:=la) HN (by simp only[I9,Ja,Enc.arg,LW];rfl) fg ?_;unfold DX
  (repeat' first|simp(disch:=first|exact aq|fail) only[go_sem,c,aE,n,p]|(apply av<;>intro))
  all_goals rfl
 ·have n:decide ((l.length:Int)=0)=false:=decide_eq_false (by omega);have p:decide ((l.length:Int)>39)=false:=decide_eq_false (by omega);obtain⟨m,hm⟩:∃m,m=s8 l w (l.length+1):=⟨_,rfl⟩;obtain⟨o,aA⟩:∃o,o=q0 g g.length++g:=⟨_,rfl⟩;have mx:∀r,r∈m↔r∈l:=fun r=>by rw[hm];exact aEz w d r
  have FK:∀a,a∈o↔a∈g:=fun a=>by rw[aA,q0,List.take_of_length_le (by simp)];simp
  have R:m.length=l.length+1:=by rw[hm];simp[s8]
  have ol:o.length<=120:=by rw[aA,List.length_append,q0,List.length_take];omega
  obtain⟨S,e,q,f2,f3,_⟩:=agC H (fun r=>Iff.rfl) (fun a=>Iff.rfl);obtain⟨J,s,t,T,V,_⟩:=agC H mx FK;have u:=aEk G;have W:∀r∈m,∀a∈fU r,c0 a<=1000000:=fun r X=>u r ((mx r).1 X);have Y:(fq l g).isSome=true:=by rw[q];rfl
  have Z:(fq m o).isSome=true:=by rw[t];rfl
  have v:nK (fq l g)=.a8 [enc S,.int .i64 e]:=by rw[q];rfl
  have z:nK (fq m o)=.a8 [enc J,.int .i64 s]:=by rw[t];rfl
  have L:=aEx mx (by omega) (by omega) FK (by omega) (by omega);rw[q,t]at L;have bJ:(e=0↔s=0)/\(e=0->S=J):=by
   rcases L with⟨⟨x,ah,o1⟩,y,O,Fe⟩|az
   ·simp only[Option.some.injEq,Prod.mk.injEq]at ah O;obtain⟨_,rfl⟩:=ah;obtain⟨_,rfl⟩:=O;exact⟨by omega,fun h=>absurd h o1⟩
   ·simp only[Option.some.injEq,Prod.mk.injEq]at az;obtain⟨rfl,rfl⟩:=az;exact⟨Iff.rfl,fun _=>rfl⟩
  refine aF.intro (D:=la) HN (by simp only[I9,Ja,Enc.arg,LW];rfl) fg ?_;unfold DX
  (repeat' first|simp(disch:=first|exact aq|fail) only[go_sem,c,aE,n,p,v]|(apply av<;>intro))
  refine b9 (fun k:Nat=>⟨N [(0,.v (enc l)),(1,.v (enc g)),(2,.v (.int .u8 w)),(7,.v (enc S)),(8,.v (.int .i64 e)),(9,.v (.list (some 33) 3 ((s8 l w k).map aU.enc))),(10,.v (enc k))],[]⟩) (fun k=>k<=l.length+1) (fun k=>l.length+1-k) 0 (aB9 _) (by(try simp(disch:=first|exact aq|fail) only[go_sem])<;>(first|rfl|(simp(disch:=first|exact a6|fail) only[cj,aHk,aHV,Env.ins,cE,cF,cG,cH,cI,cJ,cK,cL,I.b8,aB8,aHW,aIA,aIB,aeZ,bZ,fM,ae0,aB5,cS,cT,go_sem,s8,List.range_zero];try rfl))) ?_;intro k hk;rcases TH l.length k with A|hle
  ·obtain rfl:k=l.length+1:=by omega
   rw[<-hm];have fQ:decide (((l.length+1:Nat):Int)<=l.length)=false:=decide_eq_false (by omega)
   (repeat' first|simp(disch:=first|exact aq|fail) only[go_sem]|(apply av<;>intro))
   refine b9 (fun k:Nat=>⟨N [(1,.v (enc g)),(7,.v (enc S)),(8,.v (.int .i64 e)),(9,.v (.list (some 33) 3 (m.map aU.enc))),(11,.v (.list (some 30) 2 ((q0 g k).map I.enc))),(12,.v (.int .i64 ((g.length:Int)-1-k)))],[]⟩) (fun k=>k<=g.length) (fun k=>g.length-k) 0 (aB9 _) (by(try simp(disch:=first|exact aq|fail) only[go_sem])<;>(first|rfl|(simp(disch:=first|exact a6|fail) only[cj,aHk,aHV,Env.ins,cE,cF,cG,cH,cI,cJ,cK,cL,I.b8,aB8,aHW,aIA,aIB,aeZ,bZ,fM,ae0,aB5,cS,cT,go_sem,q0,aeZ,Int.sub_zero];try rfl))) ?_;clear A hk;intro k hk;rcases TH k g.length with A|oM
   ·obtain⟨j,f⟩:∃j,j=g.length-1-k:=⟨_,rfl⟩;have B:(g.length:Int)-1-k=(j:Int):=by omega
    have tE:(g.length:Int)-1-((k:Int)+1)=(j:Int)-1:=by omega
    have IL:j<g.length:=by omega
    have P:=aEA A;have k2:(q0 g k).length=k:=by simp[q0];omega
    rw[<-f]at P
    (repeat' first|simp(disch:=first|exact aq|fail) only[go_sem,B]|(apply av<;>intro))
    exact⟨k+1,by omega,by omega,by(first|rfl|(simp(disch:=first|exact a6|fail) only[cj,aHk,aHV,Env.ins,cE,cF,cG,cH,cI,cJ,cK,cL,I.b8,aB8,aHW,aIA,aIB,aeZ,bZ,fM,ae0,aB5,cS,cT,go_sem,P,tE];try rfl))⟩
   ·obtain rfl:k=g.length:=by omega
    have xc:decide ((g.length:Int)-1-g.length>=0)=false:=decide_eq_false (by omega);have k2:(q0 g g.length).length=g.length:=by simp[q0]
    have C:(q0 g g.length).map I.enc++g.map I.enc=o.map I.enc:=by rw[aA,fM]
    (repeat' first|simp(disch:=first|exact aq|fail) only[go_sem,xc,C,z,aE]|(apply av<;>intro))
    all_goals first
     |rfl|(exfalso;rename_i al b;have e0:e=0:=(by omega);rw[<-bJ.2 e0]at b;simp only[(D1 S S).2 rfl]at b;cases b)|(exfalso;rename_i b;rw[show((e:Int)==0)=((s:Int)==0) by rw[Bool.eq_iff_iff];simp;omega]at b;simp at b)
  ·have E:=Nat.mod_lt (k+w) d;obtain⟨j,f⟩:∃j,j=(k+w) % l.length:=⟨_,rfl⟩;rw[<-f]at E;have F:((k:Int)+w).tmod l.length=(j:Int):=by rw[Int.tmod_eq_emod_of_nonneg (by omega),f];simp
   have afM:(s8 l w k).length=k:=by simp[s8]
   have Q:=aEy l w k;rw[<-f]at Q;have cc:((l.length:Int)=0)=False:=eq_false (by omega)
   (repeat' first|simp(disch:=first|exact aq|fail) only[go_sem,F,cc]|(apply av<;>intro))
   exact⟨k+1,by omega,by omega,by(first|rfl|(simp(disch:=first|exact a6|fail) only[cj,aHk,aHV,Env.ins,cE,cF,cG,cH,cI,cJ,cK,cL,I.b8,aB8,aHW,aIA,aIB,aeZ,bZ,fM,ae0,aB5,cS,cT,go_sem,Q];try rfl))⟩
open Enc (enc)
def r1:Option (List ba×Bool)->AV
 |some (s,b)=>.a8 [kh s,.bool b]|none=>.a8 []
def Cf:Option (List ba×Bool)->AV
 |some (s,b)=>.a8 [enc s,.bool b]|none=>.a8 []
noncomputable def agN:List AV->Option AV
 |[_,_,y]=>fO (fun t:List ba=>enc t) [y]|_=>none
noncomputable def agO:List AV->Option AV:=fun _=>some (.aV 3)
noncomputable def agP:List AV->Option AV
 |[_,x,y]=>jo (fun(v:aj)(t:I)=>enc [ba.mk v t]) [x,y]|_=>none
noncomputable def Re:List kX:=[(89,fO fun(t:I)=>enc (uk t)),
 (90,jo fun(s:List ba)(v:aj)=>.a8 [.int .i64 (mu s v),.bool (qd s v)]),
 (91,jo fun(t:I)(u:I)=>enc (hi t u)),
 (93,fO fun(t:I)=>enc (t)),
 (118,agN),
 (119,agO),
 (92,agP),
 (61,rI fun(p:I)(g:I)(s:List ba)=>r1 (nP p g s)),
 (62,fO fun(s:List ba)=>enc (s)),
 (60,fO fun(s:List ba)=>enc (oE s)),
 (39,rI fun(p:I)(g:I)(s:List ba)=>Cf (r0 p g s))]
noncomputable def ea:bc:=jV mo (fT Re)
instance aIi{D:bc}[h:bq D ea]:bq D mo:=h.nA
theorem aEO:gC ea ([89,90,91,93,118,119,92,61,62,60,39]++([44,15]++([36,14]++([47,48]++([79,80,81]++([103,105,104,76,75,78]++([46,18,17,19,6]++([64]++([96]++([51]++([23,16]++([45]++([43,126,107,77,106]++[58,88,120,94,57,40,71,99,101,25,7,74]))))))))))))):=gC.or Je (nB Re)
theorem s9{f:Nat}{F:List AV->Option AV}(h:∀xs,fT Re f xs=F xs)(hk:(([44,15]++([36,14]++([47,48]++([79,80,81]++([103,105,104,76,75,78]++([46,18,17,19,6]++([64]++([96]++([51]++([23,16]++([45]++([43,126,107,77,106]++[58,88,120,94,57,40,71,99,101,25,7,74])))))))))))):List Nat).contains f=false:=by rfl):∀xs,ea f xs=F xs:=fun xs=>by rw[<-h];exact mS Je hk
variable {D:bc}{x1:AV}{t:I}{K:AV->Prop}{tg:aM K}
theorem aEP[bq D ea][aT x1 t](h:aF ν aB 89 [enc t] (enc (uk t))):bT ν aB D 89 [x1] K tg=K (enc (uk t)):=gN (D':=ea) (F:=fun(t:I)=>enc (uk t)) (s9 fun _=>rfl) h
variable {x2:AV}{s:List ba}{v:aj}
theorem aEQ[bq D ea][aT x1 s][aT x2 v](h:aF ν aB 90 [enc s,enc v] (.a8 [.int .i64 (mu s v),.bool (qd s v)])):bT ν aB D 90 [x1,x2] K tg=K (.a8 [.int .i64 (mu s v),.bool (qd s v)]):=lI (D':=ea) (F:=fun(s:List ba)(v:aj)=>.a8 [.int .i64 (mu s v),.bool (qd s v)]) (s9 fun _=>rfl) h
variable {u:I}
theorem aER[bq D ea][aT x1 t][aT x2 u](h:aF ν aB 91 [enc t,enc u] (enc (hi t u))):bT ν aB D 91 [x1,x2] K tg=K (enc (hi t u)):=lI (D':=ea) (F:=fun(t:I)(u:I)=>enc (hi t u)) (s9 fun _=>rfl) h
theorem agQ[bq D ea][aT x1 t](h:aF ν aB 93 [enc t] (enc (t))):bT ν aB D 93 [x1] K tg=K (enc (t)):=gN (D':=ea) (F:=fun(t:I)=>enc (t)) (s9 fun _=>rfl) h
theorem aES[bq D ea][aT x1 s](h:aF ν aB 62 [enc s] (enc (s))):bT ν aB D 62 [x1] K tg=K (enc (s)):=gN (D':=ea) (F:=fun(s:List ba)=>enc (s)) (s9 fun _=>rfl) h
theorem aET[bq D ea][aT x1 s](h:aF ν aB 60 [enc s] (enc (oE s))):bT ν aB D 60 [x1] K tg=K (enc (oE s)):=gN (D':=ea) (F:=fun(s:List ba)=>enc (oE s)) (s9 fun _=>rfl) h
theorem aEU(t:I):aF ν aB 89 [enc t] (enc (uk t)):=by
 have U:((t.args.length:Int)==0)=decide (t.args.length=0):=by rw[Bool.eq_iff_iff];simp
 unfold uk;refine aF.intro (D:=ea) atd fp fg ?_;unfold YG;simp(disch:=first|exact aq|fail) only[go_sem];cases a:decide (t.args.length=0)<;>cases b:e9 t.name;all_goals (repeat' first|simp(disch:=first|exact aq|fail) only[go_sem,U,a,b]|(apply av<;>intro))
 all_goals rfl
theorem aEV[bq D ea][aT x1 t]  :bT ν aB D 89 [x1] K tg=K (enc (uk t)):=aEP (aEU t)
attribute [go_sem ↓ 2000] aEV
theorem agR(b:ba)(v:aj):aF ν aB 116 [enc b,enc v] (enc (dk b.var v)):=by
 refine aF.intro (D:=ea) aaF fp fg ?_;unfold Zv;simp(disch:=first|exact aq|fail) only[go_sem]
 (repeat' first|simp(disch:=first|exact aq|fail) only[go_sem]|(apply av<;>intro))
 all_goals rfl
variable {H:List ax}
theorem aEW(s:List ba)(v:aj)(q:s.length<=M) :
  bn ν aB 115 [enc s,enc v,.fn 116 []] H fun r H'=>r=.a8 [.int .i64 (mu s v),.bool (qd s v)]/\H'=H:=by
 have w:M=1099511627776:=rfl;have d:=(w9 aaF).1;obtain⟨c,a⟩:∃c:Nat->Bool,c=fun k:Nat=>decide (dk s[k]!.var v<0):=⟨_,rfl⟩;have i:mu s v=pk c s.length 0 s.length:=by rw[a];rfl
 refine bn.intro (D:=ea) aty ?_;unfold Zt
 (repeat' first|simp(disch:=first|exact aq|fail) only[go_sem]|(apply av<;>intro))
 refine b9 (fun p:Nat×Nat=>⟨N [(0,.v (enc s)),(1,.v (enc v)),(2,.v (.fn 116 [])),(8,.v (enc s.length)),(9,.v (enc p.1)),(10,.v (enc p.2))],H⟩)
  (fun p=>p.1<=p.2/\p.2<=s.length/\pk c s.length p.1 p.2=mu s v) (fun p=>p.2-p.1) (0,s.length) ⟨aB9 _,Nat.le_refl _,i.symm⟩ (by(try simp(disch:=first|exact aq|fail) only[go_sem])<;>(exact bG)) ?_
 rintro⟨bh,ak⟩ ⟨j,l,b⟩;simp only at j l b;rcases TH bh ak with h|h
 ·obtain⟨m,hm⟩:∃m,m=(bh+ak) / 2:=⟨_,rfl⟩;have x:m<s.length:=by omega
  have az:=aEK c (f:=s.length) (by omega) h;rw[<-hm]at az;have n:c m=decide (dk s[m]!.var v<0):=by simp only[a]
  rw[n]at az;have e:((bh:Int)+(ak:Int)) / 2=(m:Int):=by omega
  have hd:=agR s[m]! v;rcases Int.lt_or_le (dk s[m]!.var v) 0 with a|a
  ·rw[decide_eq_true a,if_pos rfl]at az
   (repeat' first|simp(disch:=first|exact aq|fail) only[go_sem,e,iV]|(apply av<;>intro)|refine By d hd ?_)
   exact⟨(m+1,ak),⟨by simp only;omega,by simp only;omega,az.symm.trans b⟩,by simp only;omega,by(exact bG)⟩
  ·rw[decide_eq_false (by omega),if_neg (by simp)]at az
   (repeat' first|simp(disch:=first|exact aq|fail) only[go_sem,e,iV]|(apply av<;>intro)|refine By d hd ?_)
   exact⟨(bh,m),⟨by simp only;omega,by simp only;omega,az.symm.trans b⟩,by simp only;omega,by(exact bG)⟩
 ·have ao:mu s v=bh:=by rw[<-b,Fq c (by omega)]
  have o:qd s v=(decide (bh<s.length)&&(dk s[bh]!.var v==0)):=by rw[qd,ao]
  rw[ao,o];rcases TH bh s.length with g|g
  ·rw[decide_eq_true g,Bool.true_and];have hd:=agR s[bh]! v
   (repeat' first|simp(disch:=first|exact aq|fail) only[go_sem,iV]|(apply av<;>intro)|refine By d hd ?_)
   exact⟨_,rfl,by first|exact⟨rfl,rfl⟩|rfl⟩
  ·rw[decide_eq_false (by omega),aIE]
   (repeat' first|simp(disch:=first|exact aq|fail) only[go_sem,iV]|(apply av<;>intro))
   exact⟨_,rfl,by first|exact⟨rfl,rfl⟩|rfl⟩
theorem aEX(s:List ba)(v:aj)(a:s.length<=M):aF ν aB 90 [enc s,enc v] (.a8 [.int .i64 (mu s v),.bool (qd s v)]):=by
 have ae:=aEW (H:=[]) s v a;refine aF.intro (D:=ea) ate (by simp only[I9,Ja,Enc.arg,LW]) rfl ?_;unfold YI
 (repeat' first|simp(disch:=first|exact aq|fail) only[go_sem]|(apply av<;>intro)|refine b6 ae ?_)
 all_goals rfl
theorem aEY[bq D ea][aT x1 s][aT x2 v](h:s.length<=M) :bT ν aB D 90 [x1,x2] K tg=K (.a8 [.int .i64 (mu s v),.bool (qd s v)]):=aEQ (aEX s v h)
attribute [go_sem ↓ 2000] aEY
theorem aEZ{l m:List I}{i:Nat}(a:i<l.length)(U:i<m.length):fS (l.drop i) (m.drop i)=(hi l[i]! m[i]!&&fS (l.drop (i+1)) (m.drop (i+1))):=by
 rw[fY a,fY U,fS]
theorem aE0(l m:List I)(e:l.length<=M/\m.length<=M)(h:∀t∈l,∀u,aF ν aB 91 [enc t,enc u] (enc (hi t u))) :
  bn ν aB 117 [enc l,enc m,.fn 91 []] H fun r H'=>r=.bool (decide (l.length=m.length)&&fS l m)/\H'=H:=by
 have f:M=1099511627776:=rfl;have c:=(w9 aaB).1;refine bn.intro (D:=ea) atz ?_;unfold Zy;rcases Decidable.em (l.length=m.length)with b|b
 ·have cc:((l.length:Int) != (m.length:Int))=false:=by rw[b];simp
  rw[decide_eq_true b,Bool.true_and]
  (repeat' first|simp(disch:=first|exact aq|fail) only[go_sem,cc]|(apply av<;>intro))
  refine b9 (fun i:Nat=>⟨N [(1,.v (enc m)),(2,.v (.fn 91 [])),(15,.v (enc l)),(16,.v (enc l.length)),(17,.v (enc i))],H⟩) (fun i=>i<=l.length/\fS (l.drop i) (m.drop i)=fS l m) (fun i=>l.length-i) 0 ⟨aB9 _,rfl⟩ (by(try simp(disch:=first|exact aq|fail) only[go_sem])<;>(exact bG)) ?_;rintro i ⟨g,a⟩;rcases TH i l.length with ak|ak
  ·have hd:=h l[i]! (ft ak) m[i]!;rw[aEZ ak (by omega)]at a;cases d:hi l[i]! m[i]! with
   |true =>
    rw[d]at hd a;rw[Bool.true_and]at a
    (repeat' first|simp(disch:=first|exact aq|fail) only[go_sem,iV]|(apply av<;>intro)|refine By c hd ?_)
    exact⟨i+1,⟨by omega,a⟩,by omega,by(exact bG)⟩
   |false =>
    rw[d]at hd a;rw[aIE]at a
    (repeat' first|simp(disch:=first|exact aq|fail) only[go_sem,iV]|(apply av<;>intro)|refine By c hd ?_)
    exact⟨_,rfl,by first|(rw[<-a];done)|(rw[<-a];exact⟨rfl,rfl⟩)⟩
  ·rw[aIF ak,aIF (by omega),fS]at a
   (repeat' first|simp(disch:=first|exact aq|fail) only[go_sem]|(apply av<;>intro))
   exact⟨_,rfl,by first|(rw[<-a];done)|(rw[<-a];exact⟨rfl,rfl⟩)⟩
 ·have cc:((l.length:Int) != (m.length:Int))=true:=by simp;omega
  rw[decide_eq_false b,aIE]
  (repeat' first|simp(disch:=first|exact aq|fail) only[go_sem,cc]|(apply av<;>intro))
  exact⟨_,rfl,by first|exact⟨rfl,rfl⟩|rfl⟩
theorem agS:∀{l m:List I},fS l m=true->l.length=m.length
 |[],[],_=>rfl|_::_,_::_,h=>by simp only[fS,Bool.and_eq_true]at h;simp only[List.length_cons,agS h.2]|[],_::_,h=>by simp[fS]at h|_::_,[],h=>by simp[fS]at h
theorem aE1:∀t u:I,aF ν aB 91 [enc t,enc u] (enc (hi t u)):=I.ind fun t ih u=>by
 refine aF.zf fun f g=>?_;have h:M=1099511627776:=rfl;have c:(decide (t.args.length=u.args.length)&&fS t.args u.args)=fS t.args u.args:=by
  cases d:fS t.args u.args with
  |true=>rw[decide_eq_true (agS d)];rfl|false=>rw[Bool.and_false]
 have e:=aE0 (H:=[]) t.args u.args ⟨((I.o4 t).1 f).2.1,((I.o4 u).1 g).2.1⟩ ih;rw[c]at e;have he:hi t u=(t.name==u.name&&fS t.args u.args):=by
  obtain⟨n,a⟩:=t;obtain⟨m,b⟩:=u;rfl
 rw[he];refine aF.intro (D:=ea) aaB fp fg ?_;unfold YK;simp(disch:=first|exact aq|fail) only[go_sem];cases d:t.name==u.name;all_goals (repeat' first|simp(disch:=first|exact aq|fail) only[go_sem,d]|(apply av<;>intro)|refine b6 e ?_)
 all_goals rfl
theorem aE2[bq D ea][aT x1 t][aT x2 u]  :bT ν aB D 91 [x1,x2] K tg=K (enc (hi t u)):=aER (aE1 t u)
attribute [go_sem ↓ 2000] aE2
theorem aE3:∀t:I,aF ν aB 93 [enc t] (enc t):=I.ind fun t ih=>by
 refine aF.l9 fun ae=>?_;have k:=(I.o4 t).1 ae;have l:=k.2.1;have o:M=1099511627776:=rfl;obtain⟨m,ck⟩:=t;simp only[I.args]at ih l;obtain⟨a,g⟩:∃a:Nat->AV,a=fun i:Nat=>if i=0 then AV.aV 2 else .list (some 30) 2 ((ck.take i).map I.enc):=⟨_,rfl⟩;have c:a 0=.aV 2:=by rw[g];rfl
 have b:∀i,a (i+1)=.list (some 30) 2 ((ck.take (i+1)).map I.enc):=fun i=>by rw[g];exact if_neg (by omega)
 refine aF.jl (D:=ea) atg (by simp only[I9,Ja,Enc.arg,LW]) (Enc.res _) (Enc.jP _) ?_;unfold YP
 (repeat' first|simp(disch:=first|exact aq|fail) only[go_sem,aIC,aID]|(apply av<;>intro))
 refine b9 (fun i:Nat=>⟨N [(2,.b [.str [],.aV 2]),(3,.v (.ptr 0 0)),(10,.v (enc ck)),(11,.v (enc ck.length)),(12,.v (enc i))],[.cells [.str m,a i]]⟩)
  (fun i=>i<=ck.length) (fun i=>ck.length-i) 0 (aB9 _) (by(try simp(disch:=first|exact aq|fail) only[go_sem])<;>(first|rfl|(simp(disch:=first|exact a6|fail) only[cj,aHk,aHV,Env.ins,cE,cF,cG,cH,cI,cJ,cK,cL,I.b8,aB8,aHW,aIA,aIB,aeZ,bZ,fM,ae0,aB5,cS,cT,go_sem,c];try rfl))) ?_
 intro i ak;rcases TH i ck.length with h|h
 ·have hd:=ih ck[i]! (ft h);have j:=fun{K:AV->Prop}{tg:aM K}(p:i<ck.length)=>agQ (D:=ea) (K:=K) (tg:=tg) (x1:=ck[i]!.enc) (hd);have n:(ck.take i).length=i:=by rw[List.length_take];omega
  cases i with
  |zero =>
   (repeat' first|simp(disch:=first|exact aq|fail) only[go_sem,j,c,aIC,aID]|(apply av<;>intro))
   exact⟨1,by omega,by omega,by(first|rfl|(simp(disch:=first|exact a6|fail) only[cj,aHk,aHV,Env.ins,cE,cF,cG,cH,cI,cJ,cK,cL,I.b8,aB8,aHW,aIA,aIB,aeZ,bZ,fM,ae0,aB5,cS,cT,go_sem,b 0];try rfl))⟩
  |succ i =>
   (repeat' first|simp(disch:=first|exact aq|fail) only[go_sem,j,b i,n,aB8,aIC,aID]|(apply av<;>intro))
   exact⟨i+2,by omega,by omega,by(first|rfl|(simp(disch:=first|exact a6|fail) only[cj,aHk,aHV,Env.ins,cE,cF,cG,cH,cI,cJ,cK,cL,I.b8,aB8,aHW,aIA,aIB,aeZ,bZ,fM,ae0,aB5,cS,cT,go_sem,b (i+1)];try rfl))⟩
 ·obtain rfl:i=ck.length:=by omega
  rcases Nat.eq_zero_or_pos ck.length with d|d
  ·have e:ck=[]:=List.length_eq_zero_iff.1 d;have f:a ck.length=.aV 2:=by rw[d];exact c
   (repeat' first|simp(disch:=first|exact aq|fail) only[go_sem,f,aIC,aID]|(apply av<;>intro))
   exact⟨_,rfl,by rw[e];exact bQ.agg (.cons (bQ.refl _) (.cons (bQ.aV 2) .nil))⟩
  ·have f:a ck.length=.list (some 30) 2 (ck.map I.enc):=by
    have:=b (ck.length-1);rw[show ck.length-1+1=ck.length by omega,List.take_length]at this;exact this
   (repeat' first|simp(disch:=first|exact aq|fail) only[go_sem,f,aIC,aID]|(apply av<;>intro))
   exact⟨_,rfl,bQ.agg (.cons (bQ.refl _) (.cons (by first|exact bQ.refl _|(rw[vj];exact bQ.refl _)|exact bQ.disown _ _ _) .nil))⟩
theorem aE5[bq D ea][aT x1 t]  :bT ν aB D 93 [x1] K tg=K (enc (t)):=agQ (aE3 t)
attribute [go_sem ↓ 2000] aE5
open Enc (enc)
theorem aE6(s:List ba):aF ν aB 60 [enc s] (enc (oE s)):=by
 refine aF.l9 fun n=>?_;have r:M=1099511627776:=rfl;have n:s.length<=M:=n.1;rcases TH 64 s.length with d|d
 ·have e:oE s=false:=by rw[oE,decide_eq_false (by omega),aIE]
  rw[e];refine aF.intro (D:=ea) aav fp fg ?_;unfold Na;simp(disch:=first|exact aq|fail) only[go_sem]
  (repeat' first|simp(disch:=first|exact aq|fail) only[go_sem]|(apply av<;>intro))
  all_goals rfl
 ·refine aF.intro (D:=ea) aav fp fg ?_;unfold Na;simp(disch:=first|exact aq|fail) only[go_sem]
  (repeat' first|simp(disch:=first|exact aq|fail) only[go_sem]|(apply av<;>intro))
  refine b9 (fun i:Nat=>⟨N [(0,.v (enc s)),(8,.v (enc s)),(9,.v (enc s.length)),(10,.v (enc i))],[]⟩) (fun i=>i<=s.length/\∀k,k<i->wo s k=true) (fun i=>s.length-i) 0 ⟨aB9 _,fun k h=>absurd h (by omega)⟩ (by(try simp(disch:=first|exact aq|fail) only[go_sem])<;>(exact bG)) ?_;rintro i ⟨w,o⟩;rcases TH i s.length with h|h
  ·cases a:wo s i with
   |true =>
    have p:∀k,k<i+1->wo s k=true:=fun k hk=>by
     rcases TH k i with h|h
     ·exact o k h
     ·obtain rfl:k=i:=by omega
      exact a
    simp only[wo,Bool.and_eq_true]at a;obtain⟨⟨b,c⟩,q⟩:=a;rcases Nat.eq_zero_or_pos i with f|f
    ·subst f
     (repeat' first|simp(disch:=first|exact aq|fail) only[go_sem,b,c]|(apply av<;>intro))
     exact⟨1,⟨by omega,p⟩,by omega,by(exact bG)⟩
    ·obtain⟨j,rfl⟩:∃j,i=j+1:=⟨i-1,by omega⟩;have g:(Op.bytesLess s[j+1]!.var s[j]!.var||s[j+1]!.var==s[j]!.var)=false:=by simpa using q
     have l:(j:Int)+1-1=j:=by omega
     (repeat' first|simp(disch:=first|exact aq|fail) only[go_sem,b,c,g,l]|(apply av<;>intro))
     exact⟨j+2,⟨by omega,p⟩,by omega,by(exact bG)⟩
   |false =>
    have no:=aEL h a;rw[no];unfold wo at a;cases b:e9 s[i]!.var with
    |false =>
     (repeat' first|simp(disch:=first|exact aq|fail) only[go_sem,b]|(apply av<;>intro))
     all_goals rfl
    |true =>
     cases c:ct 4 s[i]!.term true with
     |false =>
      (repeat' first|simp(disch:=first|exact aq|fail) only[go_sem,b,c]|(apply av<;>intro))
      all_goals rfl
     |true =>
      rw[b,c]at a;obtain⟨j,rfl⟩:∃j,i=j+1:=⟨i-1,by rcases Nat.eq_zero_or_pos i with f|f;(· subst f;simp at a);omega⟩;have g:(Op.bytesLess s[j+1]!.var s[j]!.var||s[j+1]!.var==s[j]!.var)=true:=by simp only[Bool.true_and,Bool.not_eq_false',Nat.zero_lt_succ,decide_true,Nat.add_sub_cancel]at a;exact a
      have l:(j:Int)+1-1=j:=by omega
      (repeat' first|simp(disch:=first|exact aq|fail) only[go_sem,b,c,g,l]|(apply av<;>intro))
      all_goals rfl
  ·have m:=aEM d fun i ak=>o i (by omega);rw[m]
   (repeat' first|simp(disch:=first|exact aq|fail) only[go_sem]|(apply av<;>intro))
   all_goals rfl
theorem aE7[bq D ea][aT x1 s]  :bT ν aB D 60 [x1] K tg=K (enc (oE s)):=aET (aE6 s)
attribute [go_sem ↓ 2000] aE7
theorem aE8(s:List ba):aF ν aB 62 [enc s] (enc s):=by
 refine aF.l9 fun a=>?_;have b:M=1099511627776:=rfl;have a:s.length<=M:=a.1;refine aF.jl (D:=ea) asR fp (Enc.res _) (Enc.jP _) ?_;unfold XD
 (repeat' first|simp(disch:=first|exact aq|fail) only[go_sem]|(apply av<;>intro))
 refine b9 (fun i:Nat=>⟨N [(3,.v (.list (some 146) 3 ((s.take i).map ba.enc))),(6,.v (enc s)),(7,.v (enc s.length)),(8,.v (enc i))],[]⟩) (fun i=>i<=s.length) (fun i=>s.length-i) 0 (aB9 _) (by(try simp(disch:=first|exact aq|fail) only[go_sem])<;>(first|rfl|(simp(disch:=first|exact a6|fail) only[cj,aHk,aHV,Env.ins,cE,cF,cG,cH,cI,cJ,cK,cL,I.b8,aB8,aHW,aIA,aIB,aeZ,bZ,fM,ae0,aB5,cS,cT,go_sem,aeZ];try rfl))) ?_;intro i ak;rcases TH i s.length with h|h
 ·have c:(s.take i).length=i:=by rw[List.length_take];omega
  (repeat' first|simp(disch:=first|exact aq|fail) only[go_sem]|(apply av<;>intro))
  exact⟨i+1,by omega,by omega,by(exact bG)⟩
 ·obtain rfl:i=s.length:=by omega
  rw[List.take_length]
  (repeat' first|simp(disch:=first|exact aq|fail) only[go_sem]|(apply av<;>intro))
  exact⟨_,rfl,by first|exact bQ.disown _ _ _|exact bQ.refl _⟩
theorem aE9[bq D ea][aT x1 s]  :bT ν aB D 62 [x1] K tg=K (enc (s)):=aES (aE8 s)
attribute [go_sem ↓ 2000] aE9
theorem aFa:aF ν aB 119 [.aV 3] (.aV 3):=by
 refine aF.intro (D:=ea) atB rfl rfl ?_;unfold ZC
 (repeat' first|simp(disch:=first|exact aq|fail) only[go_sem]|(apply av<;>intro))
 all_goals rfl
theorem aFb(t:List ba)(a:t.length=1):aF ν aB 118 [.aV 3,.int .i64 0,enc t] (enc t):=by
 have b:M=1099511627776:=rfl;refine aF.jl (D:=ea) atA (by simp only[I9,Ja,Enc.arg,LW];rfl) (Enc.res _) (Enc.jP _) ?_;unfold ZA
 (repeat' first|simp(disch:=first|exact aq|fail) only[go_sem,a]|(apply av<;>intro))
 exact⟨_,rfl,by first|exact bQ.disown _ _ _|exact bQ.refl _⟩
section
variable {D:bc}[bq D ea]{K:AV->Prop}{tg:aM K}
theorem aFc:bT ν aB D 119 [.aV 3] K tg=K (.aV 3) :=
 tM rfl (bq.h (D':=ea) _ _ _ (by rw[s9 (F:=agO) (fun _=>rfl)];rfl)) aFa
theorem aFd{y:AV}{t:List ba}[a:aT y t](b:t.length=1):bT ν aB D 118 [.aV 3,.int .i64 0,y] K tg=K (enc t) :=
 tM (by simp only[I9,a.arg,Ja,LW];rfl) (bq.h (D':=ea) _ _ _ (by rw[s9 (F:=agN) (fun _=>rfl)];exact NR (F:=fun t:List ba=>enc t) a)) ((aFb t b).args (.cons (bQ.refl _) (.cons (bQ.refl _) (.cons a.kB .nil))))
attribute [go_sem ↓ 2000] aFc aFd
end
theorem agU(v:aj):mu [] v=0:=rfl
theorem agV(v:aj):qd [] v=false:=rfl
theorem aFe(v:aj)(t:I):aF ν aB 92 [.aV 3,enc v,enc t] (enc [ba.mk v t]):=by
 have a:M=1099511627776:=rfl;refine aF.intro (D:=ea) atf (by simp only[I9,Ja,Enc.arg,LW];rfl) (Enc.res _) ?_;unfold YM
 (repeat' first|simp(disch:=first|exact aq|fail) only[go_sem,agU,agV]|(apply av<;>intro))
 all_goals rfl
section
variable {D:bc}[bq D ea]{K:AV->Prop}{tg:aM K}
variable {x y:AV}
theorem aFf[a:aT x v][U:aT y t]:bT ν aB D 92 [.aV 3,x,y] K tg=K (enc [ba.mk v t]) :=
 tM (by simp only[I9,a.arg,U.arg,Ja,LW];rfl) (bq.h (D':=ea) _ _ _ (by rw[s9 (F:=agP) (fun _=>rfl)];exact abt (F:=fun(v:aj)(t:I)=>enc [ba.mk v t]) a U)) ((aFe v t).args (.cons (bQ.refl _) (.cons a.kB (.cons U.kB .nil))))
theorem agW{p g:I}[a:aT x p][U:aT y g](h:aF ν aB 61 [enc p,enc g,kh s] (r1 (nP p g s))):bT ν aB D 61 [x,y,kh s] K tg=K (r1 (nP p g s)) :=
 tM (by simp only[I9,a.arg,U.arg,(aT.kh s).arg,Ja,LW]) (bq.h (D':=ea) _ _ _ (by rw[s9 (F:=rI fun(p:I)(g:I)(s:List ba)=>r1 (nP p g s)) (fun _=>rfl)];exact NS (F:=fun(p:I)(g:I)(s:List ba)=>r1 (nP p g s)) a U (aT.kh s))) (h.args (.cons a.kB (.cons U.kB (.cons (bQ.refl _) .nil))))
attribute [go_sem ↓ 2000] aFf
end
theorem aFg(s:List ba):(kh s).aW=kh s:=by unfold kh;split<;>rfl
theorem Ju(s:List ba):(kh s).arg=true:=(aT.kh s).arg
theorem aFh{s:an}{d x:Nat}{K:an->Prop}{tg:aM K}(q:List ba):xr s d x K tg (kh q)=c7 s d (kh q) K ⟨⟩:=by unfold kh;split<;>rfl
attribute [go_sem 2000] aFh
attribute [go_sem] aFg Ju
theorem aFi(p g:I)(s:List ba):nP p g s=if uk p then(if qd s p.name then some (s,hi s[mu s p.name]!.term g)else if s.length=0 then some ([⟨p.name,g⟩],true)else none)
  else if p.name != g.name||decide (p.args.length≠g.args.length)then some ([],false)else rZ p.args g.args s:=by
 cases p;rw[nP];rfl
theorem Rh(r:Option (List ba×Bool)):(r1 r).res=true:=by
 cases r with
 |none=>rfl|some q=>obtain⟨s,b⟩:=q;simp only[r1];unfold kh;split<;>rfl
theorem aFj{l m:List I}{i:Nat}(c:i<l.length)(U:i<m.length):rZ (l.drop i) (m.drop i) s=match nP l[i]! m[i]! s with
  |none=>none|some (s',true)=>rZ (l.drop (i+1)) (m.drop (i+1)) s'|some (_,false)=>some ([],false):=by
 rw[fY c,fY U,rZ];cases nP l[i]! m[i]! s with
 |none=>rfl|some q=>obtain⟨a,b⟩:=q;cases b<;>rfl
theorem aFk:∀(p g:I)(s:List ba)(R:List ba×Bool),nP p g s=some R->s.length<=1->aF ν aB 61 [enc p,enc g,kh s] (r1 (some R)):=I.ind fun p ih g s R h az=>by
 have B:M=1099511627776:=rfl;rw[aFi]at h;cases d:uk p with
 |true =>
  rw[d,if_pos rfl]at h;cases c:qd s p.name with
  |true =>
   rw[c,if_pos rfl]at h;simp only[Option.some.injEq]at h;subst h;have cc:s≠[]:=fun e=>by rw[e]at c;cases c
   have o:mu s p.name<s.length:=by
    unfold qd at c;simp only[Bool.and_eq_true,decide_eq_true_eq]at c;exact c.1
   rw[agM cc];have e:r1 (some (s,hi s[mu s p.name]!.term g))=.a8 [.list none 3 (s.map ba.enc),.bool (hi s[mu s p.name]!.term g)]:=by rw[r1,agM cc]
   rw[e];obtain⟨i,ak⟩:∃i,i=mu s p.name:=⟨_,rfl⟩;rw[<-ak]at o ⊢;refine aF.intro (D:=ea) D0 (by simp only[I9,Ja,Enc.arg,LW];rfl) rfl ?_;unfold Bn
   (repeat' first|simp(disch:=first|exact aq|fail) only[go_sem,d,c,<-ak]|(apply av<;>intro))
   all_goals rfl
  |false =>
   rw[c,if_neg (by simp)]at h;split at h
   ·rename_i w;simp only[Option.some.injEq]at h;subst h;obtain rfl:=List.length_eq_zero_iff.1 w;rw[aEN];have e:r1 (some ([⟨p.name,g⟩],true))=.a8 [.list none 3 [(ba.mk p.name g).enc],.bool true]:=rfl;rw[e];refine aF.intro (D:=ea) D0 (by simp only[I9,Ja,Enc.arg,LW];rfl) rfl ?_;unfold Bn
    (repeat' first|simp(disch:=first|exact aq|fail) only[go_sem,d,agU,agV]|(apply av<;>intro))
    all_goals rfl
   ·cases h
 |false =>
  rw[d,if_neg (by simp)]at h;cases f:p.name==g.name with
  |false =>
   rw[show(p.name != g.name)=true by rw[bne,f];rfl,Bool.true_or,if_pos rfl]at h;simp only[Option.some.injEq]at h;subst h;refine aF.intro (D:=ea) D0 (by simp only[I9,Ja,Enc.arg,Ju,LW]) (Rh _) ?_;unfold Bn
   (repeat' first|simp(disch:=first|exact aq|fail) only[go_sem,d,f]|(apply av<;>intro))
   all_goals rfl
  |true =>
   rw[show(p.name != g.name)=false by rw[bne,f];rfl,Bool.false_or]at h;by_cases m:p.args.length=g.args.length
   ·rw[decide_eq_false (by omega),if_neg (by simp)]at h;have cc:((p.args.length:Int) != (g.args.length:Int))=false:=by rw[m];simp
    refine aF.zf fun z C=>?_;have E:=((I.o4 p).1 z).2.1;refine aF.intro (D:=ea) D0 (by simp only[I9,Ja,Enc.arg,Ju,LW]) (Rh _) ?_;unfold Bn
    (repeat' first|simp(disch:=first|exact aq|fail) only[go_sem,d,f,cc]|(apply av<;>intro))
    refine b9 (fun i:Nat×List ba=>⟨N [(2,.v (kh i.2)),(3,.v (.db p.enc.cells)),(4,.v (.db g.enc.cells)),(51,.v (enc p.args.length)),(52,.v (enc i.1))],[]⟩) (fun i=>i.1<=p.args.length/\i.2.length<=1/\rZ (p.args.drop i.1) (g.args.drop i.1) i.2=some R) (fun i=>p.args.length-i.1) (0,s) ⟨aB9 _,az,h⟩ (by(try simp(disch:=first|exact aq|fail) only[go_sem])<;>(exact bG)) ?_;rintro⟨i,q⟩ ⟨A,k,a⟩;simp only at A k a;rcases TH i p.args.length with ak|ak
    ·rw[aFj ak (by omega)]at a;cases hm:nP p.args[i]! g.args[i]! q with
     |none=>rw[hm]at a;cases a|some r =>
      obtain⟨l,b⟩:=r;have hd:=ih p.args[i]! (ft ak) g.args[i]! q (l,b) hm k;rw[<-hm]at hd;have n:=fun{K:AV->Prop}{tg:aM K}=>agW (D:=ea) (K:=K) (tg:=tg) (x:=p.args[i]!.enc) (y:=g.args[i]!.enc) hd;have j:r1 (nP p.args[i]! g.args[i]! q)=.a8 [kh l,.bool b]:=by rw[hm];rfl
      rw[hm]at a;cases b with
      |true =>
       simp only at a
       (repeat' first|simp(disch:=first|exact aq|fail) only[go_sem,n,j]|(apply av<;>intro))
       exact⟨(i+1,l),⟨by simp only;omega,agK hm k,a⟩,by simp only;omega,by(exact bG)⟩
      |false =>
       simp only[Option.some.injEq]at a;subst a
       (repeat' first|simp(disch:=first|exact aq|fail) only[go_sem,n,j]|(apply av<;>intro))
       all_goals rfl
    ·rw[aIF ak,rZ]at a
     ·simp only[Option.some.injEq]at a;subst a
      (repeat' first|simp(disch:=first|exact aq|fail) only[go_sem]|(apply av<;>intro))
      all_goals rfl
     all_goals simp
   ·rw[decide_eq_true m,if_pos rfl]at h;simp only[Option.some.injEq]at h;subst h;have cc:((p.args.length:Int) != (g.args.length:Int))=true:=by simp;omega
    refine aF.intro (D:=ea) D0 (by simp only[I9,Ja,Enc.arg,Ju,LW]) (Rh _) ?_;unfold Bn
    (repeat' first|simp(disch:=first|exact aq|fail) only[go_sem,d,f,cc]|(apply av<;>intro))
    all_goals rfl
end AM
