/- What functions of the given program do, as calls of the machine. Conditions: names and lists are bounded where that is said. -/
import Derived.Test.YtanepioeppghhaaGreatDoorOk
import Derived.Test.YtanepioeppghhaaGreatDoorAm14
set_option linter.unusedSimpArgs false
set_option maxRecDepth 100000
set_option maxHeartbeats 4000000
set_option linter.unusedVariables false
namespace AM
open List renaming getElem?_eq_getElem -> aKg,all_cons -> aKh,take_of_length_le -> aKi,eq_nil_of_length_eq_zero -> aKk,all_nil -> aKm,length_map -> aKn,getElem_mem -> aKp
open UInt8 renaming ofNat -> aKj
open Bool renaming true_and -> aKl,false_and -> aKo
open Go Go.Proofs
open Tryz renaming prog -> ν
attribute [go_sem] Int.reduceLE Int.reduceLT Int.reduceToNat Int.reduceAdd Int.reduceSub Nat.reduceBEq Nat.reduceAdd Nat.reduceSub Nat.reduceMul Nat.reduceLT Nat.reduceEqDiff reduceCtorEq Nat.reduceLeDiff
attribute [go_sem ↓] reduceIte
variable {p:Prop}
theorem bG(h:p:=by first|rfl|(simp(disch:=first|assumption|omega) only[cj,List.foldr_cons,List.foldr_nil,Env.ins,cE,cF,cG,cH,cI,cJ,cK,cL,I.b8,List.length_map,Int.natCast_add,Int.natCast_one,Int.natCast_zero,List.take_zero,bZ,List.map_append,List.map_cons,List.map_nil,cS,cT,go_sem];try rfl)):p:=h
theorem mO(h:p:=by first|rfl|(simp only[cj,List.foldr_cons,List.foldr_nil,Env.ins,go_sem];try rfl)):p:=h
theorem atX(h:p:=by first|(simp only[List.length_set,List.length_append,List.length_cons,List.length_nil,List.length_replicate];done)|(simp only[List.length_set,List.length_append,List.length_cons,List.length_nil,List.length_replicate];omega)):p:=h
theorem a6(h:p:=by first|assumption|omega):p:=h
theorem aq(h:p:=by first|assumption|omega|exact atX):p:=h
theorem fp(h:p:=by simp only[List.all_cons,List.all_nil,Enc.arg,Bool.and_self]):p:=h
theorem fg(h:p:=by first|rfl|exact Enc.res _):p:=h
attribute [go_sem] Vo Vr Wm Vw Bk VI VO VP VT VV VY V0 V2 V4 V7 Wa Wd MX Wg Wi Wl Wo Wt Wx WA WD WH WJ WL WO WR WS M1 WW WY W1 W2 W4 W7 Xb Xc Xe Xg Xi Xm Bm Xq Xr Xt M8 DY Xz XB XE vz XH XK XM XP XS XV X0 X1 HL X6 X8 Yc Yg Yk Yo Yq Yt Yy YA YC Bo Ng YH YJ YL YN YQ Nh YT YX Bp HM DZ Nj Y4 Za Zd Zf Zh Zj Zl Zn Zp Nl Zu Zw Zz ZB ZD xn No ZI ZM ZO ZV ZX Ja aqB aqE aqJ ZZ aqL VA aqS Z4 aqV aqY aq0 aq3 aq5 aq8 arf ari ark arx arE Wq Vv Bj Wr Ws VG Wv VL Ww WB WE W5 W8 W9 Xj Xk Xn Xo Xp Xy XC Wp Wy WM XJ XN XQ XT X2 Ya Yd Ye WU Yi WZ W3 Yl Ym Yr YD Y2 Y3 XA Zb XF Zq XI Zs Zx ZE X4 ZH X9 ZJ Yh Yw Z0 Z5 Z6 Z7 Z8 Z9 aaa aab aac YO aeZ agE agF agG agJ aqH aqR aqT aqW ard arl arn arq art ary
def Nx(p:Nat×Nat):AV:=.agg [.int .u8 p.1,.int .u8 p.2]
def hy(f:Nat)(xs:List AV):Option AV :=
 if f=126 then(match xs with|[.int .u8 c,.list none 2 [.agg [.int .u8 a,.int .u8 b]]]=>some (.bool (jn (aKj c.toNat) [(a.toNat,b.toNat)]))|[.int .u8 c,.list none 2 [.agg [.int .u8 a,.int .u8 b],.agg [.int .u8 ch,.int .u8 bU],.agg [.int .u8 j8,.int .u8 kV]]]=>some (.bool (jn (aKj c.toNat) [(a.toNat,b.toNat),(ch.toNat,bU.toNat),(j8.toNat,kV.toNat)]))|_=>none)
 else if f=96 then(match xs with|[.str s,.agg [.int .u8 a,.int .u8 b,.int .u8 ch,.int .u8 bU,.int .u8 j8,.int .u8 kV]]=>some (.bool (oh s (a.toNat,b.toNat) (ch.toNat,bU.toNat) (j8.toNat,kV.toNat)))|_=>none)
 else if f=58 then(match xs with|[.str s]=>some (.bool (fo s))|_=>none)
 else if f=98 then(match xs with|[.str s]=>some (.bool (e9 s))|_=>none)
 else if f=127 then(match xs with|[.str s]=>some (l8 s)|_=>none)
 else if f=97 then(match xs with|[.str s]=>some (.bool (hh s).isSome)|_=>none)
 else if f=59 then(match xs with|[x,.int .i64 n,.bool v]=>(rD x).map fun t=>.bool (ct n.toNat t v)|_=>none)
 else if f=57 then(match xs with|[x]=>(rD x).map fun t=>.bool (ct 4 t true)|_=>none)
 else if f=29 then(match xs with|[x]=>(rD x).map fun t=>.bool (ct 4 t false)|_=>none)
 else none
theorem aaM(c:UInt8)(l:List (Nat×Nat))(s:l.length<100):aF ν aB 126 [.int .u8 c.toNat,.list none 2 (l.map Nx)] (.bool (jn c l)):=by
 refine aF.intro (D:=hy) atH rfl rfl ?_;unfold ZQ;simp only[go_sem,aKn];refine b9 (fun i:Nat=>⟨N [(0,.v (.int .u8 c.toNat)),(7,.v (.list none 2 (l.map Nx))),(8,.v (.int .i64 l.length)),(9,.v (.int .i64 i))],[]⟩)
  (fun i=>i<=l.length/\jn c (l.take i)=false) (fun i=>l.length-i) 0 ⟨by omega,by(exact mO)⟩ (by(try simp only[go_sem])<;>(exact mO)) ?_
 rintro i ⟨ak,ao⟩;by_cases h:i<l.length
 ·have a:decide ((i:Int)<(l.length:Int))=true:=decide_eq_true (by omega);have e:(l.map Nx)[i]?=some (.agg [.int .u8 l[i].1,.int .u8 l[i].2]):=by rw[List.getElem?_map,aKg h];rfl
  have f:IntKind.i64.wrap ((i:Int)+1)=((i+1:Nat):Int):=by rw[wrap64]<;>omega
  have g:(0:Int)<=i:=by omega
  have j:(i:Int)<l.length:=by omega
  have k:jn c (l.take (i+1))=(jn c (l.take i)||(decide (l[i].1<=c.toNat)&&decide (c.toNat<=l[i].2))):=by
   simp only[jn,List.take_add_one,aKg h,Option.toList_some,List.any_append,List.any_cons,List.any_nil,Bool.or_false]
  have q:∀b,jn c (l.take (i+1))=b->b=true->jn c l=true:=fun b ae r=>by
   subst r;have:=ae;simp only[jn,List.any_eq_true]at this ⊢;obtain⟨x,ah,m⟩:=this;exact⟨x,List.mem_of_mem_take ah,m⟩
  by_cases o:l[i].1<=c.toNat
  ·have d:decide ((c.toNat:Int)>=(l[i].1:Int))=true:=decide_eq_true (by omega);by_cases U:c.toNat<=l[i].2
   ·have n:decide ((c.toNat:Int)<=(l[i].2:Int))=true:=decide_eq_true (by omega);simp only[go_sem,bC,bz,e,g,j,d,n,aKn,ZR];rw[q _ k (by simp[o,U])]
   ·have n:decide ((c.toNat:Int)<=(l[i].2:Int))=false:=decide_eq_false (by omega);simp only[go_sem,bC,bz,e,f,g,j,d,n,aKn];exact⟨i+1,⟨by omega,by rw[k,ao];simp[U]⟩,by omega,by(exact mO)⟩
  ·have d:decide ((c.toNat:Int)>=(l[i].1:Int))=false:=decide_eq_false (by omega);simp only[go_sem,bC,bz,e,f,g,j,d,aKn];exact⟨i+1,⟨by omega,by rw[k,ao];simp[o]⟩,by omega,by(exact mO)⟩
 ·have a:decide ((i:Int)<(l.length:Int))=false:=decide_eq_false (by omega);unfold ZP;simp only[go_sem,a,ZR];rw[aKi (by omega)]at ao;rw[ao]
theorem atZ(c:UInt8)(a b:Nat):hy 126 [.int .u8 c.toNat,.list none 2 [.agg [.int .u8 a,.int .u8 b]]]=some (.bool (jn c [(a,b)])):=by
 simp[hy]
theorem at0(c:UInt8)(a b d e f g:Nat):hy 126 [.int .u8 c.toNat,.list none 2 [.agg [.int .u8 a,.int .u8 b],.agg [.int .u8 d,.int .u8 e],.agg [.int .u8 f,.int .u8 g]]]=some (.bool (jn c [(a,b),(d,e),(f,g)])):=by
 simp[hy]
theorem aaN(s:aj)(a b c d e f:Nat):aF ν aB 96 [.str s,.agg [.int .u8 a,.int .u8 b,.int .u8 c,.int .u8 d,.int .u8 e,.int .u8 f]] (.bool (oh s (a,b) (c,d) (e,f))):=by
 refine aF.intro (D:=hy) atj rfl rfl ?_;unfold YU;by_cases u:s.length=0
 ·have j:decide ((s.length:Int)<1)=true:=decide_eq_true (by omega);simp only[go_sem,j,YV];rw[aKk u];simp only[oh]
 obtain⟨x,r,ah⟩:∃x r,s=x::r:=by cases s with|nil=>simp at u|cons x r=>exact⟨x,r,rfl⟩
 have v:s[0]?=some x:=by rw[ah];rfl
 have g:oh s (a,b) (c,d) (e,f)=(decide (s.length<=16)&&jn x [(a,b)]&&s.all fun y=>jn y [(a,b),(c,d),(e,f)]):=by rw[ah];simp only[oh]
 clear ah;have j:decide ((s.length:Int)<1)=false:=decide_eq_false (by omega);by_cases w:s.length<=16
 ·have k:decide ((s.length:Int)>16)=false:=decide_eq_false (by omega);have l:=atZ x a b;have cv:aF ν aB 126 [.int .u8 x.toNat,.list none 2 [.agg [.int .u8 a,.int .u8 b]]] (.bool (jn x [(a,b)])):=aaM x [(a,b)] (by simp);rw[decide_eq_true w,aKl]at g;cases U:jn x [(a,b)]with
  |false =>
   rw[U]at l cv;rw[U,aKo]at g;simp only[go_sem,v,j,k,l,cv,YV];rw[g]
  |true =>
   rw[U]at l cv;rw[U,aKl]at g;simp only[go_sem,v,j,k,l,cv];refine b9 (fun i:Nat=>⟨N [(0,.v (.str s)),(3,.v (.db [.int .u8 a,.int .u8 b,.int .u8 c,.int .u8 d,.int .u8 e,.int .u8 f])),(5,.v (.int .i64 i))],[]⟩)
    (fun i=>i<=s.length/\(s.take i).all (fun y=>jn y [(a,b),(c,d),(e,f)])=true) (fun i=>s.length-i) 0 ⟨by omega,by(exact mO)⟩ (by(try simp only[go_sem])<;>(exact mO)) ?_
   rintro i ⟨ak,ao⟩;by_cases h:i<s.length
   ·have m:decide ((i:Int)<(s.length:Int))=true:=decide_eq_true (by omega);have n:s[i]?=some s[i]:=aKg h;have z:IntKind.i64.wrap ((i:Int)+1)=((i+1:Nat):Int):=by rw[wrap64]<;>omega
    have A:(0:Int)<=i:=by omega
    have o:=at0 s[i] a b c d e f;have q:aF ν aB 126 [.int .u8 s[i].toNat,.list none 2 [.agg [.int .u8 a,.int .u8 b],.agg [.int .u8 c,.int .u8 d],.agg [.int .u8 e,.int .u8 f]]] (.bool (jn s[i] [(a,b),(c,d),(e,f)])):=aaM s[i] [(a,b),(c,d),(e,f)] (by simp);cases t:jn s[i] [(a,b),(c,d),(e,f)]with
    |false =>
     rw[t]at o q;simp only[go_sem,m,n,A,o,q,YV];rw[g,HO n t]
    |true =>
     rw[t]at o q;simp only[go_sem,m,n,z,A,o,q];exact⟨i+1,⟨by omega,by rw[Nu n,ao,t];rfl⟩,by omega,by(exact mO)⟩
   ·have m:decide ((i:Int)<(s.length:Int))=false:=decide_eq_false (by omega);unfold aad;simp only[go_sem,m,YV];rw[aKi (by omega)]at ao;rw[g,ao]
 ·have k:decide ((s.length:Int)>16)=true:=decide_eq_true (by omega);simp only[go_sem,j,k,YV];rw[g,decide_eq_false w,aKo,aKo]
theorem aaO(s:aj)(a b c d e f:Nat):hy 96 [.str s,.agg [.int .u8 a,.int .u8 b,.int .u8 c,.int .u8 d,.int .u8 e,.int .u8 f]]=some (.bool (oh s (a,b) (c,d) (e,f))):=by
 simp[hy]
theorem Nz(s:aj):aF ν aB 98 [.str s] (.bool (e9 s)):=by
 refine aF.intro (D:=hy) atl rfl rfl ?_;have q:hy 96 [.str s,.agg [.int .u8 65,.int .u8 90,.int .u8 97,.int .u8 122,.int .u8 48,.int .u8 57]]=_:=aaO s 65 90 97 122 48 57;have w:aF ν aB 96 [.str s,.agg [.int .u8 65,.int .u8 90,.int .u8 97,.int .u8 122,.int .u8 48,.int .u8 57]] _:=aaN s 65 90 97 122 48 57;unfold YY;simp only[go_sem,q,w,Bp,e9]
theorem aaP(s:aj):aF ν aB 58 [.str s] (.bool (fo s)):=by
 refine aF.intro (D:=hy) asQ rfl rfl ?_;have q:hy 96 [.str s,.agg [.int .u8 97,.int .u8 122,.int .u8 48,.int .u8 57,.int .u8 45,.int .u8 45]]=_:=aaO s 97 122 48 57 45 45;have w:aF ν aB 96 [.str s,.agg [.int .u8 97,.int .u8 122,.int .u8 48,.int .u8 57,.int .u8 45,.int .u8 45]] _:=aaN s 97 122 48 57 45 45;unfold Xv;unfold fo;generalize oh s (97,122) (48,57) (45,45)=b at q w;cases b
 ·simp only[go_sem,q,w,DY]
 ·cases a:s==[105,102]
  ·cases U:s==[97,110,100]<;>simp only[go_sem,q,w,a,U,DY]
  ·simp only[go_sem,q,w,a,DY]
theorem aaQ(s:aj):hy 127 [.str s]=some (l8 s):=by simp[hy]
theorem NA(s:aj):aF ν aB 127 [.str s] (l8 s):=by
 refine aF.intro (D:=hy) atI rfl rfl ?_;unfold ZS;by_cases A:s.length=0
 ·have d:decide ((s.length:Int)<1)=true:=decide_eq_true (by omega);simp only[go_sem,d,ZT];rw[aKk A];rfl
 obtain⟨x,r,ah⟩:∃x r,s=x::r:=by cases s with|nil=>simp at A|cons x r=>exact⟨x,r,rfl⟩
 have n:s[0]?=some x:=by rw[ah];rfl
 have d:decide ((s.length:Int)<1)=false:=decide_eq_false (by omega);have o:hh s=if s.length<=4/\¬(x=48/\s.length>1)/\s.all hv=true then some (kb s 0)else none:=by
  rw[ah];have:(r≠[])↔(x::r).length>1:=by cases r<;>simp
  simp only[hh,this]
 clear ah;by_cases B:s.length<=4
 ·have g:decide ((s.length:Int)>4)=false:=decide_eq_false (by omega);by_cases U:x=48/\s.length>1
  ·have E:((x.toNat:Int)==48)=true:=by rw[U.1];rfl
   have F:decide ((s.length:Int)>1)=true:=decide_eq_true (by omega);simp only[go_sem,n,d,g,E,F,ZT];rw[l8,o,if_neg (by simp[U])];rfl
  ·have start:∀b,(((x.toNat:Int)==48)=b)->decide ((s.length:Int)>1)=false\/b=false:=fun b ae=>by
    by_cases G:s.length>1
    ·right;rw[<-ae];by_cases j:(x.toNat:Int)=48
     ·exact absurd ⟨UInt8.toNat_inj.1 (by show x.toNat=48;omega),G⟩ U
     ·simpa using j
    ·left;exact decide_eq_false (by omega)
   have u:s.all hv=true->l8 s=.a8 [.int .i64 (kb s 0:Nat),.bool true]:=fun h=>Nw (by rw[o,if_pos ⟨B,U,h⟩]);have l:s.all hv=false->l8 s=.a8 [.int .i64 0,.bool false]:=fun h=>Nv (by rw[o,if_neg (by rw[h];simp)]);have loop:∀(q:an)Q,(({ q with env:=q.env.close [2,3,23,27,39] }:an)=⟨N [(0,.v (.str s)),(4,.v (.int .i64 0)),(5,.v (.int .i64 0))],[]⟩)->(∀i:Int,s.all hv=true->Q (.exit 0) ⟨N [(27,.v (.bool false)),(0,.v (.str s)),(4,.v (.int .i64 (kb s 0:Nat))),(5,.v (.int .i64 i))],[]⟩)->(∀a,s.all hv=false->Env.get a.env 2=some (.v (.int .i64 0))->Env.get a.env 3=some (.v (.bool false))->Q .ret a) ->
     jx ν aB hy (.loop agH) q Q ⟨⟩:=by
    intro q Q H J C;refine b9 (fun i:Nat=>⟨N [(0,.v (.str s)),(4,.v (.int .i64 (kb (s.take i) 0:Nat))),(5,.v (.int .i64 i))],[]⟩)
     (fun i=>i<=s.length/\(s.take i).all hv=true) (fun i=>s.length-i) 0 ⟨by omega,rfl⟩ (H.trans rfl) ?_
    rintro i ⟨ak,ao⟩;by_cases h:i<s.length
    ·have m:decide ((i:Int)<(s.length:Int))=true:=decide_eq_true (by omega);have c:s[i]?=some s[i]:=aKg h;have v:IntKind.i64.wrap ((i:Int)+1)=((i+1:Nat):Int):=by rw[wrap64]<;>omega
     have w:(0:Int)<=i:=by omega
     have R:=aaJ ao (by rw[List.length_take];omega);have S:s[i].toNat<256:=UInt8.toNat_lt _;by_cases e:48<=s[i].toNat
     ·have t:decide ((s[i].toNat:Int)<48)=false:=decide_eq_false (by omega);by_cases f:s[i].toNat<=57
      ·have y:decide ((s[i].toNat:Int)>57)=false:=decide_eq_false (by omega);have K:IntKind.u8.wrap ((s[i].toNat:Int)-48)=((s[i].toNat-48:Nat):Int):=by simp only[IntKind.wrap,IntKind.signed,IntKind.bits];simp;omega
       have L:IntKind.i64.wrap ((s[i].toNat-48:Nat):Int)=((s[i].toNat-48:Nat):Int):=by rw[wrap64]<;>omega
       have O:IntKind.i64.wrap (10*((kb (s.take i) 0:Nat):Int))=((10*kb (s.take i) 0:Nat):Int):=by rw[wrap64]<;>omega
       have P:IntKind.i64.wrap (((10*kb (s.take i) 0:Nat):Int)+((s[i].toNat-48:Nat):Int))=((kb (s.take (i+1)) 0:Nat):Int):=by
        rw[Nt c,aaI,wrap64]<;>omega
       have hd:hv s[i]=true:=by simp[hv,e,f]
       simp only[go_sem,m,c,v,w,t,y,K,L,O,P];exact⟨i+1,⟨by omega,by rw[Nu c,ao,hd];rfl⟩,by omega,by(exact mO)⟩
      ·have y:decide ((s[i].toNat:Int)>57)=true:=decide_eq_true (by omega);have hd:hv s[i]=false:=by simp[hv,f]
       simp only[go_sem,m,c,w,t,y];exact C _ (HO c hd) (by simp only[go_sem]) (by simp only[go_sem])
     ·have t:decide ((s[i].toNat:Int)<48)=true:=decide_eq_true (by omega);have hd:hv s[i]=false:=by simp[hv,e]
      simp only[go_sem,m,c,w,t];exact C _ (HO c hd) (by simp only[go_sem]) (by simp only[go_sem])
    ·have m:decide ((i:Int)<(s.length:Int))=false:=decide_eq_false (by omega);rw[aKi (by omega)]at ao;simp only[go_sem,m];rw[aKi (by omega)];exact J _ ao
   have fin:∀i:Int,s.all hv=true->jx ν aB hy Vz ⟨N [(27,.v (.bool false)),(0,.v (.str s)),(4,.v (.int .i64 (kb s 0:Nat))),(5,.v (.int .i64 i))],[]⟩ (yQ fun a=>ts a.env ZT=some (l8 s)) ⟨⟩:=fun i h=>by
    have k:decide (((kb s 0:Nat):Int)<=9999)=true:=decide_eq_true (by have:=aaJ h B;omega);unfold Vz;simp only[go_sem,k,ZT,u h]
   cases j:((x.toNat:Int)==48)with
   |false =>
    simp only[go_sem,n,d,g,j];refine loop _ _ (by(try simp only[go_sem])<;>(exact mO)) (fun i h=>fin i h) (fun a h e f=>?_);simp only[go_sem,e,f,ZT,l h]
   |true =>
    rcases start _ j with z|z
    ·simp only[go_sem,n,d,g,j,z];refine loop _ _ (by(try simp only[go_sem])<;>(exact mO)) (fun i h=>fin i h) (fun a h e f=>?_);simp only[go_sem,e,f,ZT,l h]
    ·cases z
 ·have g:decide ((s.length:Int)>4)=true:=decide_eq_true (by omega);simp only[go_sem,d,g,ZT];rw[l8,o,if_neg (by omega)];rfl
theorem at2(s:aj):aF ν aB 97 [.str s] (.bool (hh s).isSome):=by
 refine aF.intro (D:=hy) atk rfl rfl ?_;have q:=aaQ s;have w:=NA s;unfold YW;unfold l8 at q w;simp only[go_sem,q,w,YX]
theorem at3(s:aj):hy 58 [.str s]=some (.bool (fo s)):=by simp[hy]
theorem aaS(s:aj):hy 98 [.str s]=some (.bool (e9 s)):=by simp[hy]
theorem at4(s:aj):hy 97 [.str s]=some (.bool (hh s).isSome):=by simp[hy]
theorem NC(t:I)(n:Nat)(v:Bool):hy 59 [t.enc,.int .i64 n,.bool v]=some (.bool (ct n t v)):=by simp[hy,Bd]
theorem ND:∀(n:Nat)(t:I)(v:Bool),n<=1000->aF ν aB 59 [t.enc,.int .i64 n,.bool v] (.bool (ct n t v))
 |0,.mk a ck,v,_=>by
  refine aF.intro (D:=hy) aau (by rw[aKh,I.arg];rfl) rfl ?_;simp only[I.enc];unfold M9;have b:decide (((0:Nat):Int)<1)=true:=by decide
  simp only[go_sem,Xx,ct]
 |n+1,.mk a ck,v,L=>by
  refine aF.assume (B:=(I.mk a ck).eM) (fun γ vs h=>by cases h with|cons _ _ _ _ h _=>exact I.kx h) fun ae=>?_;simp only[I.eM]at ae;have O:=ae.2.1;have P:M=1099511627776:=rfl;refine aF.intro (D:=hy) aau (by rw[aKh,I.arg];rfl) rfl ?_;simp only[I.enc];unfold M9;have b:decide (((n+1:Nat):Int)<1)=false:=decide_eq_false (by omega);have c:=at3 a;have y:=aaP a;have k:=at4 a;have l:=at2 a;have m:=aaS a;have o:=Nz a;by_cases z:ck.length<=4
  ·have f:decide ((ck.length:Int)>4)=false:=decide_eq_false (by omega);by_cases U:ck.length=0
   ·have q:((ck.length:Int)==0)=true:=by rw[U];rfl
    have r:ct (n+1) (.mk a ck) v=(fo a||(hh a).isSome||(v&&e9 a)):=by simp[ct,I.args,I.name,U]
    rw[r];generalize fo a=G at *;generalize (hh a).isSome=H at *;generalize e9 a=Q at *;simp only[go_sem,bC,b,f,q,c,y,kv];cases G
    ·simp only[go_sem,bC,k,l];cases H
     ·simp only[go_sem];cases v
      ·simp only[go_sem,Xx]
      ·simp only[go_sem,bC,m,o,Xx]
     ·simp only[go_sem,Xx]
    ·simp only[go_sem,Xx]
   ·have q:((ck.length:Int)==0)=false:=by rw[beq_eq_false_iff_ne];omega
    have r:ct (n+1) (.mk a ck) v=(ck.all (fun u=>ct n u v)&&fo a):=by simp[ct,I.args,I.name,z,U]
    rw[r];simp only[go_sem,bC,b,f,q,kv];refine b9 (fun i:Nat=>⟨N [(1,.v (.int .i64 (n+1:Nat))),(2,.v (.bool v)),(3,.v (.db [.str a,.list none 2 (eA ck)])),(38,.v (.list none 2 (eA ck))),(39,.v (.int .i64 ck.length)),(40,.v (.int .i64 i))],[]⟩)
     (fun i=>i<=ck.length/\(ck.take i).all (fun u=>ct n u v)=true) (fun i=>ck.length-i) 0 ⟨by omega,by(exact mO)⟩ (by(try simp only[go_sem])<;>(exact mO)) ?_
    rintro i ⟨ak,ao⟩;by_cases h:i<ck.length
    ·have g:decide ((i:Int)<(ck.length:Int))=true:=decide_eq_true (by omega);have s:ck[i]?=some ck[i]:=aKg h;have w:(eA ck)[i]?=some ck[i].enc:=by rw[Bb,s];rfl
     have A:IntKind.i64.wrap ((i:Int)+1)=((i+1:Nat):Int):=by rw[wrap64]<;>omega
     have C:(0:Int)<=i:=by omega
     have E:(i:Int)<ck.length:=by omega
     have F:IntKind.i64.wrap (((n+1:Nat):Int)-1)=(n:Int):=by rw[wrap64]<;>omega
     have d:=NC ck[i] n v;have e:=ND n ck[i] v (by omega);generalize ah:ck[i]=x at *;obtain⟨J,K⟩:=x;simp only[I.enc]at w d e;cases j:ct n (.mk J K) v with
     |false =>
      rw[j]at d e;simp only[go_sem,bC,bz,w,C,E,F,d,e,kv,Xx];rw[HO s j,aKo]
     |true =>
      rw[j]at d e;simp only[go_sem,bC,bz,w,A,C,E,F,d,e,kv];exact⟨i+1,⟨by omega,by rw[Nu s,ao,j];rfl⟩,by omega,by(exact mO)⟩
    ·have g:decide ((i:Int)<(ck.length:Int))=false:=decide_eq_false (by omega);rw[aKi (by omega)]at ao;unfold Xw;simp only[go_sem,bC,g,c,y,Xx];rw[ao,aKl]
  ·have f:decide ((ck.length:Int)>4)=true:=decide_eq_true (by omega);simp only[go_sem,bC,b,f,kv,Xx];simp[ct,I.args,z]
theorem aub(t:I):aF ν aB 57 [t.enc] (.bool (ct 4 t true)):=by
 refine aF.intro (D:=hy) asP (by rw[aKh,I.arg];rfl) rfl ?_;have q:hy 59 [t.enc,.int .i64 4,.bool true]=_:=NC t 4 true;have w:aF ν aB 59 [t.enc,.int .i64 4,.bool true] _:=ND 4 t true (by decide);obtain⟨a,ck⟩:=t;simp only[I.enc]at q w ⊢;unfold Xu;simp only[go_sem,bC,q,w,M8]
theorem auc(t:I):aF ν aB 29 [t.enc] (.bool (ct 4 t false)):=by
 refine aF.intro (D:=hy) asx (by rw[aKh,I.arg];rfl) rfl ?_;have q:hy 59 [t.enc,.int .i64 4,.bool false]=_:=NC t 4 false;have w:aF ν aB 59 [t.enc,.int .i64 4,.bool false] _:=ND 4 t false (by decide);obtain⟨a,ck⟩:=t;simp only[I.enc]at q w ⊢;unfold Wn;simp only[go_sem,bC,q,w,Wo]
def jT(f:Nat)(xs:List AV):Option AV :=
 if f=110 then(match xs with|[x]=>(rD x).map fun t=>xp (hx t)|_=>none)
 else if f=112 then(match xs with|[.int .i64 a,.int .i64 b]=>some (.int .i64 (hU a.toNat b.toNat))|_=>none)
 else if f=113 then(match xs with|[.str a,.str b]=>some (.int .i64 (dk a b))|_=>none)
 else if f=136 then(match xs with|[.str a,.str b]=>some (.int .i64 (dk a b))|_=>none)
 else if f=80 then(match xs with|[x,y]=>(match rD x,rD y with|some t,some u=>some (.int .i64 (cf t u))|_,_=>none)|_=>none)
 else if f=111 then(match xs with|[x,y]=>(match DJ x,DJ y with|some t,some u=>some (.int .i64 (fy t u))|_,_=>none)|_=>none)
 else hy f xs
theorem aud(s:aj):jT 127 [.str s]=some (l8 s):=by simp[jT,aaQ]
theorem aue(s:aj):jT 98 [.str s]=some (.bool (e9 s)):=by simp[jT,aaS]
theorem aaU(t:I):jT 110 [t.enc]=some (xp (hx t)):=by simp[jT,Bd]
theorem HP(a b:Nat):jT 112 [.int .i64 a,.int .i64 b]=some (.int .i64 (hU a b)):=by simp[jT]
theorem auf(a b:aj):jT 113 [.str a,.str b]=some (.int .i64 (dk a b)):=by simp[jT]
theorem aug(a b:aj):jT 136 [.str a,.str b]=some (.int .i64 (dk a b)):=by simp[jT]
theorem auh(t u:I):jT 80 [t.enc,u.enc]=some (.int .i64 (cf t u)):=by simp[jT,Bd]
theorem aui(t u:List I):jT 111 [jw t,jw u]=some (.int .i64 (fy t u)):=by simp[jT,Vj]
theorem HQ(a b:Nat):aF ν aB 112 [.int .i64 a,.int .i64 b] (.int .i64 (hU a b)):=by
 refine aF.intro (D:=jT) atv rfl rfl ?_;unfold Zm;by_cases d:a<b
 ·have c:decide ((a:Int)<b)=true:=decide_eq_true (by omega);simp only[go_sem,c,Zn,hU,d]
 ·have c:decide ((a:Int)<b)=false:=decide_eq_false (by omega);by_cases U:b<a
  ·have e:decide ((a:Int)>b)=true:=decide_eq_true (by omega);simp only[go_sem,c,e,Zn,hU,d,U]
  ·have e:decide ((a:Int)>b)=false:=decide_eq_false (by omega);simp only[go_sem,c,e,Zn,hU,d,U]
theorem auj(a b:aj):aF ν aB 136 [.str a,.str b] (.int .i64 (dk a b)):=by
 refine aF.intro (D:=jT) aJt rfl rfl ?_;unfold aqM;simp only[go_sem,VA]
theorem aaV(a b:aj):aF ν aB 113 [.str a,.str b] (.int .i64 (dk a b)):=by
 refine aF.intro (D:=jT) atw rfl rfl ?_;have q:=aug a b;have w:=auj a b;unfold Zo;simp only[go_sem,q,w,Zp]
theorem aaW(t:I):aF ν aB 110 [t.enc] (xp (hx t)):=by
 refine aF.intro (D:=jT) atu (by rw[aKh,I.arg];rfl) rfl ?_;obtain⟨a,ck⟩:=t;simp only[I.enc];unfold Zk;by_cases c:ck.length>0
 ·have b:decide ((ck.length:Int)>0)=true:=decide_eq_true (by omega);have hk:hx (.mk a ck)=(3,0,ck.length,a):=by simp[hx,I.args,I.name,c]
  simp only[go_sem,bC,bz,b,kv,hk,xp,Zl]
 ·have b:decide ((ck.length:Int)>0)=false:=decide_eq_false (by omega);have q:=aud a;have w:=NA a;cases U:hh a with
  |some n =>
   have hk:hx (.mk a ck)=(0,n,0,[]):=by simp[hx,I.args,I.name,c,U]
   rw[Nw U]at q w;simp only[go_sem,bC,bz,b,kv,hk,q,w,xp,Zl]
  |none =>
   rw[Nv U]at q w;have d:=aue a;have e:=Nz a;cases f:e9 a with
   |true =>
    have hk:hx (.mk a ck)=(2,0,0,a):=by simp[hx,I.args,I.name,c,U,f]
    rw[f]at d e;simp only[go_sem,bC,bz,b,kv,hk,q,w,d,e,xp,Zl]
   |false =>
    have hk:hx (.mk a ck)=(1,0,0,a):=by simp[hx,I.args,I.name,c,U,f]
    rw[f]at d e;simp only[go_sem,bC,bz,b,kv,hk,q,w,d,e,xp,Zl]
theorem auk(l m:List I)(h:∀t∈l,∀u,aF ν aB 80 [t.enc,u.enc] (.int .i64 (cf t u))):aF ν aB 111 [jw l,jw m] (.int .i64 (fy l m)):=by
 refine aF.assume (B:=l.length<=M/\m.length<=M) (fun γ vs h=>by cases h with|cons _ _ _ _ h v=>cases v with|cons _ _ _ _ U _=>exact⟨(DI h).1,(DI U).1⟩) fun ae=>?_;have H:M=1099511627776:=rfl;refine aF.intro (D:=jT) aJo rfl rfl ?_;unfold ae0;simp only[jw];simp only[go_sem];refine b9 (fun i:Nat=>⟨N [(0,.v (.list none 2 (eA l))),(1,.v (.list none 2 (eA m))),(5,.v (.int .i64 i))],[]⟩)
  (fun i=>i<=l.length/\i<=m.length/\fy (l.drop i) (m.drop i)=fy l m) (fun i=>l.length-i) 0 ⟨by omega,by omega,rfl⟩ (by(try simp only[go_sem])<;>(exact mO)) ?_
 rintro i ⟨ak,z,ao⟩;have fin:l.length<=i\/m.length<=i->jT 112 [.int .i64 l.length,.int .i64 m.length]=some (.int .i64 (fy l m))/\aF ν aB 112 [.int .i64 l.length,.int .i64 m.length] (.int .i64 (fy l m)):=fun J=>by
  have q:=HP l.length m.length;have w:=HQ l.length m.length;rw[<-atU l m i ak z,<-atS (l.drop i) (m.drop i) (by simp only[List.length_drop];omega),ao]at q w;exact⟨q,w⟩
 by_cases A:i<l.length
 ·have a:decide ((i:Int)<(l.length:Int))=true:=decide_eq_true (by omega);by_cases U:i<m.length
  ·have b:decide ((i:Int)<(m.length:Int))=true:=decide_eq_true (by omega);have g:l[i]?=some l[i]:=aKg A;have j:m[i]?=some m[i]:=aKg U;have e:(eA l)[i]?=some l[i].enc:=by rw[Bb,g];rfl
   have f:(eA m)[i]?=some m[i].enc:=by rw[Bb,j];rfl
   have n:IntKind.i64.wrap ((i:Int)+1)=((i+1:Nat):Int):=by rw[wrap64]<;>omega
   have o:(0:Int)<=i:=by omega
   have r:(i:Int)<l.length:=by omega
   have s:(i:Int)<m.length:=by omega
   have q:=auh l[i] m[i];have w:=h l[i] (aKp _) m[i];have az:=atT g j;rw[ao]at az;generalize l[i]=x at *;generalize m[i]=y at *;obtain⟨C,E⟩:=x;obtain⟨F,G⟩:=y;simp only[I.enc]at e f q w;generalize cf (.mk C E) (.mk F G)=c at *;by_cases d:c=0
   ·have k:(c != 0)=false:=by simp[d]
    rw[if_pos d]at az;simp only[go_sem,bC,e,f,n,o,r,s,q,w,k,kv];exact⟨i+1,⟨by omega,by omega,az.symm⟩,by omega,by(exact mO)⟩
   ·have k:(c != 0)=true:=by simp[d]
    rw[if_neg d]at az;simp only[go_sem,bC,e,f,o,r,s,q,w,k,kv,Nn,az]
  ·have b:decide ((i:Int)<(m.length:Int))=false:=decide_eq_false (by omega);obtain⟨q,w⟩:=fin (.inr (by omega));unfold Vy;simp only[go_sem,a,b,kv,q,w,Nn]
 ·have a:decide ((i:Int)<(l.length:Int))=false:=decide_eq_false (by omega);obtain⟨q,w⟩:=fin (.inl (by omega));unfold Vy;simp only[go_sem,a,kv,q,w,Nn]
theorem aul(t u:I)(h:aF ν aB 111 [jw t.args,jw u.args] (.int .i64 (fy t.args u.args))):aF ν aB 80 [t.enc,u.enc] (.int .i64 (cf t u)):=by
 refine aF.intro (D:=jT) as4 (by simp only[aKh,aKm,I.arg];rfl) rfl ?_;have k:=aaU t;have cv:=aaW t;have l:=aaU u;have o:=aaW u;have C:=aui t.args u.args;have E:=aaK t u;rw[E];clear E;generalize hx t=x at *;generalize hx u=y at *;obtain⟨d,e,f,q⟩:=x;obtain⟨g,i,j,r⟩:=y;have F:=HP d g;have G:=HQ d g;have H:=HP e i;have J:=HQ e i;have K:=HP f j;have L:=HQ f j;have O:=auf q r;have P:=aaV q r;obtain⟨n,a⟩:=t;obtain⟨m,b⟩:=u;simp only[I.enc,I.args,jw,xp]at k cv l o C h ⊢;unfold Yn;have c:uy [0,0,0,1] [.int .i64 (d:Int),.int .i64 (e:Int),.int .i64 (f:Int),.str q] [.int .i64 (g:Int),.int .i64 (i:Int),.int .i64 (j:Int),.str r]=some (decide ((d,e,f,q)=(g,i,j,r))):=by
  simp only[uy,nd,qj,if_true,Option.some.injEq,Prod.mk.injEq];rw[Bool.eq_iff_iff];simp only[Bool.and_eq_true,beq_iff_eq,decide_eq_true_eq,Int.natCast_inj,and_true]
 by_cases v:(d,e,f,q)=(g,i,j,r)
 ·rw[decide_eq_true v]at c;rw[if_pos v];simp only[go_sem,bC,bz,k,cv,l,o,C,h,c,Yo]
 ·rw[decide_eq_false v]at c;rw[if_neg v];by_cases z:d=g
  ·have s:((d:Int) != g)=false:=by simp[z]
   rw[if_neg (by simp[z])];by_cases U:e=i
   ·have w:((e:Int) != i)=false:=by simp[U]
    rw[if_neg (by simp[U])];by_cases A:f=j
    ·have B:((f:Int) != j)=false:=by simp[A]
     rw[if_neg (by simp[A])];simp only[go_sem,bC,bz,k,cv,l,o,c,s,w,B,O,P,Yo]
    ·have B:((f:Int) != j)=true:=by simp;omega
     rw[if_pos A];simp only[go_sem,bC,bz,k,cv,l,o,c,s,w,B,K,L,Yo]
   ·have w:((e:Int) != i)=true:=by simp;omega
    rw[if_pos U];simp only[go_sem,bC,bz,k,cv,l,o,c,s,w,H,J,Yo]
  ·have s:((d:Int) != g)=true:=by simp;omega
   rw[if_pos z];simp only[go_sem,bC,bz,k,cv,l,o,c,s,F,G,Yo]
mutual
theorem NG:∀(t u:I),aF ν aB 80 [t.enc,u.enc] (.int .i64 (cf t u))
 |.mk n a,u=>aul (.mk n a) u (auk a u.args fun t b u=>aaX a t b u)
theorem aaX:∀(l:List I),∀t∈l,∀u,aF ν aB 80 [t.enc,u.enc] (.int .i64 (cf t u))
 |[],_,h,_=>by cases h|s::r,t,h,u=>by
  rcases List.mem_cons.1 h with e|h
  ·rw[e];exact NG s u
  ·exact aaX r t h u
end
def vA(f:Nat)(xs:List AV):Option AV :=
 if f=34 then(match xs with|[x,y]=>(match rD x,rD y with|some t,some u=>some (.bool (hi t u))|_,_=>none)|_=>none)
 else if f=10 then(match xs with|[x,y]=>(match DJ x,DJ y with|some t,some u=>some (.bool (fS t u))|_,_=>none)|_=>none)
 else if f=83 then(match xs with|[x]=>(rD x).map I.enc|_=>none)
 else jT f xs
theorem aum(t u:I):vA 34 [t.enc,u.enc]=some (.bool (hi t u)):=by simp[vA,Bd]
theorem aun(t u:List I):vA 10 [jw t,jw u]=some (.bool (fS t u)):=by simp[vA,Vj]
theorem auo(t:I):vA 83 [t.enc]=some t.enc:=by simp[vA,Bd]
theorem aaY(l m:List I)(h:∀t∈l,∀u,aF ν aB 34 [t.enc,u.enc] (.bool (hi t u))):aF ν aB 10 [jw l,jw m] (.bool (fS l m)):=by
 refine aF.assume (B:=l.length<=M/\m.length<=M) (fun γ vs h=>by cases h with|cons _ _ _ _ h s=>cases s with|cons _ _ _ _ U _=>exact⟨(DI h).1,(DI U).1⟩) fun ae=>?_;have F:M=1099511627776:=rfl;refine aF.intro (D:=vA) asg rfl rfl ?_;unfold VC;simp only[jw];by_cases f:l.length=m.length
 ·have b:((l.length:Int) != m.length)=false:=by simp[f]
  simp only[go_sem,kv,b];refine b9 (fun i:Nat=>⟨N [(0,.v (.list none 2 (eA l))),(1,.v (.list none 2 (eA m))),(12,.v (.int .i64 l.length)),(13,.v (.int .i64 i))],[]⟩)
   (fun i=>i<=l.length/\fS (l.drop i) (m.drop i)=fS l m) (fun i=>l.length-i) 0 ⟨by omega,rfl⟩ (by(try simp only[go_sem])<;>(exact mO)) ?_
  rintro i ⟨ak,ao⟩;by_cases v:i<l.length
  ·have U:i<m.length:=by omega
   have a:decide ((i:Int)<(l.length:Int))=true:=decide_eq_true (by omega);have g:l[i]?=some l[i]:=aKg v;have j:m[i]?=some m[i]:=aKg U;have d:(eA l)[i]?=some l[i].enc:=by rw[Bb,g];rfl
   have e:(eA m)[i]?=some m[i].enc:=by rw[Bb,j];rfl
   have k:IntKind.i64.wrap ((i:Int)+1)=((i+1:Nat):Int):=by rw[wrap64]<;>omega
   have n:(0:Int)<=i:=by omega
   have o:(i:Int)<l.length:=by omega
   have r:(i:Int)<m.length:=by omega
   have q:=aum l[i] m[i];have w:=h l[i] (aKp _) m[i];have az:=atW g j;rw[ao]at az;generalize l[i]=x at *;generalize m[i]=y at *;obtain⟨z,A⟩:=x;obtain⟨C,E⟩:=y;simp only[I.enc]at d e q w;generalize hi (.mk z A) (.mk C E)=c at *;cases c
   ·simp only[go_sem,bC,d,e,n,o,r,q,w,kv,VD,az]
   ·simp only[go_sem,bC,d,e,k,n,o,r,q,w,kv];exact⟨i+1,⟨by omega,by rw[az];rfl⟩,by omega,by(exact mO)⟩
  ·have a:decide ((i:Int)<(l.length:Int))=false:=decide_eq_false (by omega);have:fS l m=true:=by rw[<-ao,List.drop_eq_nil_of_le (by omega),List.drop_eq_nil_of_le (by omega)];rfl
   unfold Wu;simp only[go_sem,a,this,VD]
 ·have b:((l.length:Int) != m.length)=true:=by simp;omega
  simp only[go_sem,kv,b,atV f,VD]
theorem aup(t u:I)(h:aF ν aB 10 [jw t.args,jw u.args] (.bool (fS t.args u.args))):aF ν aB 34 [t.enc,u.enc] (.bool (hi t u)):=by
 refine aF.intro (D:=vA) asA (by simp only[aKh,aKm,I.arg];rfl) rfl ?_;have q:=aun t.args u.args;obtain⟨n,a⟩:=t;obtain⟨m,b⟩:=u;simp only[I.enc,I.args,jw]at q h ⊢;unfold WG;cases c:n==m<;>simp only[go_sem,bC,c,q,h,hi,WH]
mutual
theorem NH:∀(t u:I),aF ν aB 34 [t.enc,u.enc] (.bool (hi t u))
 |.mk n a,u=>aup (.mk n a) u (aaY a u.args fun t b u=>aaZ a t b u)
theorem aaZ:∀(l:List I),∀t∈l,∀u,aF ν aB 34 [t.enc,u.enc] (.bool (hi t u))
 |[],_,h,_=>by cases h|s::r,t,h,u=>by
  rcases List.mem_cons.1 h with e|h
  ·rw[e];exact NH s u
  ·exact aaZ r t h u
end
theorem auq(l m:List I):aF ν aB 10 [jw l,jw m] (.bool (fS l m)):=aaY l m fun t _ u=>NH t u
theorem aur{l:List I}{i:Nat}{t:I}(h:l[i]?=some t):eA (l.take (i+1))=eA (l.take i)++[t.enc]:=by
 rw[Nt h,vj,vj,List.map_append];rfl
theorem aus(t:I)(h:∀u∈t.args,aF ν aB 83 [u.enc] u.enc):aF ν aB 83 [t.enc] t.enc:=by
 refine aF.assume (B:=t.eM) (fun γ vs h=>by cases h with|cons _ _ _ _ h _=>exact I.kx h) fun ae=>?_;obtain⟨m,ck⟩:=t;simp only[I.eM]at ae;simp only[I.args]at h;have y:=ae.2.1;have z:M=1099511627776:=rfl;refine aF.jl (D:=vA) as7 (by simp only[aKh,aKm,I.arg];rfl) (I.res _) (I.jP _) ?_;simp only[I.enc];unfold Yu;simp only[go_sem,bC,bz,kv,Yv];refine b9 (fun i:Nat=>⟨N [(2,.b [.str [],.aV 2]),(3,.v (.ptr 0 0)),(10,.v (.list none 2 (eA ck))),(11,.v (.int .i64 ck.length)),(12,.v (.int .i64 i))],[.cells [.str m,if i=0 then .aV 2 else .list (some 32) 2 (eA (ck.take i))]]⟩)
  (fun i=>i<=ck.length) (fun i=>ck.length-i) 0 (by omega) (by(try simp only[go_sem])<;>(exact mO)) ?_
 intro i ak;by_cases n:i<ck.length
 ·have c:decide ((i:Int)<(ck.length:Int))=true:=decide_eq_true (by omega);have e:ck[i]?=some ck[i]:=aKg n;have d:(eA ck)[i]?=some ck[i].enc:=by rw[Bb,e];rfl
  have f:IntKind.i64.wrap ((i:Int)+1)=((i+1:Nat):Int):=by rw[wrap64]<;>omega
  have g:(0:Int)<=i:=by omega
  have j:(i:Int)<ck.length:=by omega
  have q:=auo ck[i];have w:=h ck[i] (aKp _);have az:=aur e;generalize ck[i]=x at *;obtain⟨o,r⟩:=x;simp only[I.enc]at d q w az;have l:(if i+1=0 then(AV.aV 2)else .list (some 32) 2 (eA (ck.take (i+1))))=.list (some 32) 2 (eA (ck.take (i+1))):=if_neg (by omega);by_cases b:i=0
  ·have a:(if i=0 then(AV.aV 2)else .list (some 32) 2 (eA (ck.take i)))=.aV 2:=if_pos b;have s:eA (ck.take (i+1))=[.agg [.str o,.list none 2 (eA r)]]:=by rw[az,b,List.take_zero];simp only[eA,List.nil_append]
   have k:1<=M:=by omega
   simp only[go_sem,bC,bz,d,f,g,j,q,w,kv,a,k];exact⟨i+1,by omega,by omega,by(simp only[cj,List.foldr_cons,List.foldr_nil,Env.ins,s,go_sem])⟩
  ·have a:(if i=0 then(AV.aV 2)else .list (some 32) 2 (eA (ck.take i)))=.list (some 32) 2 (eA (ck.take i)):=if_neg b;have k:(ck.take i).length+1<=M:=by rw[List.length_take];omega
   simp only[go_sem,bC,bz,d,f,g,j,q,w,kv,a,k];exact⟨i+1,by omega,by omega,by(simp only[cj,List.foldr_cons,List.foldr_nil,Env.ins,az,go_sem])⟩
 ·have c:decide ((i:Int)<(ck.length:Int))=false:=decide_eq_false (by omega);have v:i=ck.length:=by omega
  unfold ZK;by_cases b:i=0
  ·have a:(if i=0 then(AV.aV 2)else .list (some 32) 2 (eA (ck.take i)))=.aV 2:=if_pos b;simp only[go_sem,bC,bz,c,a];refine⟨_,rfl,bQ.agg (.cons (bQ.refl _) (.cons ?_ .nil))⟩;have:ck=[]:=aKk (by omega);rw[this];simp only[eA];exact bQ.aV 2
  ·have a:(if i=0 then(AV.aV 2)else .list (some 32) 2 (eA (ck.take i)))=.list (some 32) 2 (eA (ck.take i)):=if_neg b;simp only[go_sem,bC,bz,c,a];refine⟨_,rfl,bQ.agg (.cons (bQ.refl _) (.cons ?_ .nil))⟩;rw[v,List.take_length];exact bQ.refl _
mutual
theorem aa0:∀(t:I),aF ν aB 83 [t.enc] t.enc
 |.mk n a=>aus (.mk n a) fun u b=>aa1 a u b
theorem aa1:∀(l:List I),∀t∈l,aF ν aB 83 [t.enc] t.enc
 |[],_,h=>by cases h|s::r,t,h=>by
  rcases List.mem_cons.1 h with e|h
  ·rw[e];exact aa0 s
  ·exact aa1 r t h
end
def q0(c:UInt8):Bool:=decide (97<=c.toNat)&&decide (c.toNat<=122)
def mj(c:UInt8):Bool:=decide (65<=c.toNat)&&decide (c.toNat<=90)
def ij(f:Nat)(xs:List AV):Option AV :=
 if f=129 then(match xs with|[.int .u8 c]=>some (.bool (q0 (aKj c.toNat)))|_=>none)
 else if f=128 then(match xs with|[.int .u8 c]=>some (.bool (mj (aKj c.toNat)))|_=>none)
 else if f=130 then(match xs with|[.int .u8 c]=>some (.bool (hv (aKj c.toNat)))|_=>none)
 else if f=104 then(match xs with|[.str s]=>some (l8 s)|_=>none)
 else if f=102 then(match xs with|[.str s]=>some (.bool (hh s).isSome)|_=>none)
 else if f=68 then(match xs with|[.str s]=>some (.int .i64 (rH s))|_=>none)
 else if f=103 then(match xs with|[.str s]=>some (.bool (e9 s))|_=>none)
 else if f=67 then(match xs with|[x]=>(rD x).map fun t=>.int .i64 (kA t)|_=>none)
 else if f=66 then(match xs with|[.int .i64 a,.int .i64 b]=>some (.int .i64 (hU a.toNat b.toNat))|_=>none)
 else if f=69 then(match xs with|[.str a,.str b]=>some (.int .i64 (dk a b))|_=>none)
 else if f=33 then(match xs with|[x,y]=>(match rD x,rD y with|some t,some u=>some (.int .i64 (cf t u))|_,_=>none)|_=>none)
 else if f=70 then(match xs with|[x,y]=>(match DJ x,DJ y with|some t,some u=>some (.int .i64 (fy t u))|_,_=>none)|_=>none)
 else vA f xs
theorem aJF(c:UInt8):aF ν aB 129 [.int .u8 c.toNat] (.bool (q0 c)):=by
 refine aF.intro (D:=ij) atK rfl rfl ?_;unfold ZW;by_cases b:97<=c.toNat
 ·have a:decide ((c.toNat:Int)>=97)=true:=decide_eq_true (by omega);by_cases U:c.toNat<=122
  ·have d:decide ((c.toNat:Int)<=122)=true:=decide_eq_true (by omega);simp only[go_sem,a,d,b,U,q0,ZX]
  ·have d:decide ((c.toNat:Int)<=122)=false:=decide_eq_false (by omega);simp only[go_sem,a,d,b,U,q0,ZX]
 ·have a:decide ((c.toNat:Int)>=97)=false:=decide_eq_false (by omega);simp only[go_sem,a,b,q0,ZX]
theorem arJ(c:UInt8):aF ν aB 128 [.int .u8 c.toNat] (.bool (mj c)):=by
 refine aF.intro (D:=ij) atJ rfl rfl ?_;unfold ZU;by_cases b:65<=c.toNat
 ·have a:decide ((c.toNat:Int)>=65)=true:=decide_eq_true (by omega);by_cases U:c.toNat<=90
  ·have d:decide ((c.toNat:Int)<=90)=true:=decide_eq_true (by omega);simp only[go_sem,a,d,b,U,mj,ZV]
  ·have d:decide ((c.toNat:Int)<=90)=false:=decide_eq_false (by omega);simp only[go_sem,a,d,b,U,mj,ZV]
 ·have a:decide ((c.toNat:Int)>=65)=false:=decide_eq_false (by omega);simp only[go_sem,a,b,mj,ZV]
theorem arK(c:UInt8):aF ν aB 130 [.int .u8 c.toNat] (.bool (hv c)):=by
 refine aF.intro (D:=ij) aJp rfl rfl ?_;unfold agI;by_cases b:48<=c.toNat
 ·have a:decide ((c.toNat:Int)>=48)=true:=decide_eq_true (by omega);by_cases U:c.toNat<=57
  ·have d:decide ((c.toNat:Int)<=57)=true:=decide_eq_true (by omega);simp only[go_sem,a,d,b,U,hv,Ja]
  ·have d:decide ((c.toNat:Int)<=57)=false:=decide_eq_false (by omega);simp only[go_sem,a,d,b,U,hv,Ja]
 ·have a:decide ((c.toNat:Int)>=48)=false:=decide_eq_false (by omega);simp only[go_sem,a,b,hv,Ja]
theorem aJG(c:UInt8):ij 129 [.int .u8 c.toNat]=some (.bool (q0 c)):=by simp[ij]
theorem arL(c:UInt8):ij 128 [.int .u8 c.toNat]=some (.bool (mj c)):=by simp[ij]
theorem arP(c:UInt8):ij 130 [.int .u8 c.toNat]=some (.bool (hv c)):=by simp[ij]
theorem Nq(a b:Nat):aF ν aB 66 [.int .i64 a,.int .i64 b] (.int .i64 (hU a b)):=by
 refine aF.intro (D:=ij) asT rfl rfl ?_;unfold XL;by_cases d:a<b
 ·have c:decide ((a:Int)<b)=true:=decide_eq_true (by omega);simp only[go_sem,c,XM,hU,d]
 ·have c:decide ((a:Int)<b)=false:=decide_eq_false (by omega);by_cases U:b<a
  ·have e:decide ((a:Int)>b)=true:=decide_eq_true (by omega);simp only[go_sem,c,e,XM,hU,d,U]
  ·have e:decide ((a:Int)>b)=false:=decide_eq_false (by omega);simp only[go_sem,c,e,XM,hU,d,U]
def arQ(c:UInt8):Bool:=q0 c||hv c||decide (c.toNat=45)
theorem aKc(c:UInt8):jn c [(97,122),(48,57),(45,45)]=arQ c:=by
 simp only[jn,arQ,q0,hv,List.any_cons,List.any_nil,Bool.or_false,<-Bool.or_assoc];congr 1
 rw[Bool.eq_iff_iff];simp;omega
def HH(c:UInt8):Bool:=mj c||q0 c||hv c
theorem aJH(c:UInt8):jn c [(65,90),(97,122),(48,57)]=HH c:=by
 simp only[jn,HH,mj,q0,hv,List.any_cons,List.any_nil,Bool.or_false,<-Bool.or_assoc]
theorem aJI{s:aj}{x:UInt8}(h:s[0]?=some x):e9 s=(decide (s.length<=16)&&mj x&&s.all HH):=by
 have a:jn x [(65,90)]=mj x:=by simp only[jn,mj,List.any_cons,List.any_nil,Bool.or_false]
 have U:(fun y=>jn y [(65,90),(97,122),(48,57)])=HH:=funext aJH;cases s with
 |nil=>simp at h|cons y r =>
  simp only[List.getElem?_cons_zero,Option.some.injEq]at h;subst h;simp only[e9,oh,a,U]
theorem aJJ(s:aj):aF ν aB 103 [.str s] (.bool (e9 s)):=by
 refine aF.intro (D:=ij) aaD rfl rfl ?_;unfold Y5;by_cases y:s.length=0
 ·have d:decide ((s.length:Int)<1)=true:=decide_eq_true (by omega);simp only[go_sem,d,Y6];rw[aKk y];rfl
 obtain⟨x,o⟩:∃x,s[0]?=some x:=⟨s[0],aKg (by omega)⟩;rw[aJI o];have d:decide ((s.length:Int)<1)=false:=decide_eq_false (by omega);by_cases t:s.length<=16
 ·have q:decide ((s.length:Int)>16)=false:=decide_eq_false (by omega);have u:=arL x;have cv:=arJ x;rw[decide_eq_true t,aKl];generalize mj x=z at *;cases z
  ·simp only[go_sem,o,d,q,u,cv,Y6]
  rw[aKl];simp only[go_sem,o,d,q,u,cv];refine b9 (fun i:Nat=>⟨N [(0,.v (.str s)),(19,.v (.int .i64 s.length)),(20,.v (.int .i64 i))],[]⟩)
   (fun i=>i<=s.length/\(s.take i).all HH=true) (fun i=>s.length-i) 0 ⟨by omega,rfl⟩ (by(try simp only[go_sem])<;>(exact mO)) ?_
  rintro i ⟨ak,ao⟩;by_cases h:i<s.length
  ·have b:decide ((i:Int)<(s.length:Int))=true:=decide_eq_true (by omega);have a:s[i]?=some s[i]:=aKg h;have e:IntKind.i64.wrap ((i:Int)+1)=((i+1:Nat):Int):=by rw[wrap64]<;>omega
   have f:(0:Int)<=i:=by omega
   have g:=aJG s[i];have j:=aJF s[i];have k:=arP s[i];have l:=arK s[i];have m:=arL s[i];have n:=arJ s[i];have c:HH s[i]=(mj s[i]||q0 s[i]||hv s[i]):=rfl;generalize q0 s[i]=v at *;generalize hv s[i]=w at *;generalize mj s[i]=r at *;cases ae:(r||v||w)with
   |false =>
    simp only[Bool.or_eq_false_iff]at ae;obtain⟨⟨rfl,rfl⟩,rfl⟩:=ae;simp only[go_sem,b,a,f,g,j,k,l,m,n,Y6];rw[HO a c]
   |true =>
    rw[ae]at c;cases v
    ·cases r
     ·cases w
      ·cases ae
      ·simp only[go_sem,b,a,e,f,g,j,k,l,m,n];exact⟨i+1,⟨by omega,by rw[Nu a,ao,c];rfl⟩,by omega,by(exact mO)⟩
     ·simp only[go_sem,b,a,e,f,g,j,m,n];exact⟨i+1,⟨by omega,by rw[Nu a,ao,c];rfl⟩,by omega,by(exact mO)⟩
    ·cases r
     ·simp only[go_sem,b,a,e,f,g,j];exact⟨i+1,⟨by omega,by rw[Nu a,ao,c];rfl⟩,by omega,by(exact mO)⟩
     ·simp only[go_sem,b,a,e,f,g,j];exact⟨i+1,⟨by omega,by rw[Nu a,ao,c];rfl⟩,by omega,by(exact mO)⟩
  ·have b:decide ((i:Int)<(s.length:Int))=false:=decide_eq_false (by omega);rw[aKi (by omega)]at ao;unfold aae;simp only[go_sem,b,ao,Y6]
 ·have q:decide ((s.length:Int)>16)=true:=decide_eq_true (by omega);simp only[go_sem,d,q,t,Y6]
theorem arR(s:aj):aF ν aB 104 [.str s] (l8 s):=by
 refine aF.intro (D:=ij) atp rfl rfl ?_;unfold Y7;by_cases v:s.length=0
 ·have b:decide ((s.length:Int)<1)=true:=decide_eq_true (by omega);simp only[go_sem,b,Y8];rw[aKk v];rfl
 obtain⟨x,r,ah⟩:∃x r,s=x::r:=by cases s with|nil=>simp at v|cons x r=>exact⟨x,r,rfl⟩
 have g:s[0]?=some x:=by rw[ah];rfl
 have b:decide ((s.length:Int)<1)=false:=decide_eq_false (by omega);have j:hh s=if s.length<=4/\¬(x=48/\s.length>1)/\s.all hv=true then some (kb s 0)else none:=by
  rw[ah];have:(r≠[])↔(x::r).length>1:=by cases r<;>simp
  simp only[hh,this]
 clear ah;by_cases z:s.length<=4
 ·have c:decide ((s.length:Int)>4)=false:=decide_eq_false (by omega);by_cases U:x=48/\s.length>1
  ·have q:((x.toNat:Int)==48)=true:=by rw[U.1];rfl
   have d:decide ((s.length:Int)>1)=true:=decide_eq_true (by omega);simp only[go_sem,g,b,c,q,d,Y8];rw[l8,j,if_neg (by simp[U])];rfl
  ·have t:s.all hv=true->l8 s=.a8 [.int .i64 (kb s 0:Nat),.bool true]:=fun h=>Nw (by rw[j,if_pos ⟨z,U,h⟩]);have e:s.all hv=false->l8 s=.a8 [.int .i64 0,.bool false]:=fun h=>Nv (by rw[j,if_neg (by rw[h];simp)]);have loop:∀(k:an)Q,(({ k with env:=k.env.close [2,3,5,23,27,33] }:an)=⟨N [(0,.v (.str s)),(4,.v (.int .i64 0)),(25,.v (.int .i64 s.length)),(26,.v (.int .i64 0))],[]⟩) ->
     (∀i:Int,s.all hv=true->Q (.exit 0) ⟨N [(27,.v (.bool false)),(0,.v (.str s)),(4,.v (.int .i64 (kb s 0:Nat))),(25,.v (.int .i64 s.length)),(26,.v (.int .i64 i))],[]⟩)->(∀a,s.all hv=false->Env.get a.env 2=some (.v (.int .i64 0))->Env.get a.env 3=some (.v (.bool false))->Q .ret a) ->
     jx ν aB ij (.loop aaf) k Q ⟨⟩:=by
    intro k Q A B C;refine b9 (fun i:Nat=>⟨N [(0,.v (.str s)),(4,.v (.int .i64 (kb (s.take i) 0:Nat))),(25,.v (.int .i64 s.length)),(26,.v (.int .i64 i))],[]⟩)
     (fun i=>i<=s.length/\(s.take i).all hv=true) (fun i=>s.length-i) 0 ⟨by omega,rfl⟩ (A.trans rfl) ?_
    rintro i ⟨ak,ao⟩;by_cases h:i<s.length
    ·have l:decide ((i:Int)<(s.length:Int))=true:=decide_eq_true (by omega);have f:s[i]?=some s[i]:=aKg h;have w:IntKind.i64.wrap ((i:Int)+1)=((i+1:Nat):Int):=by rw[wrap64]<;>omega
     have y:(0:Int)<=i:=by omega
     have K:=aaJ ao (by rw[List.length_take];omega);have L:s[i].toNat<256:=UInt8.toNat_lt _;have m:=arP s[i];have n:=arK s[i];cases hd:hv s[i]with
     |true =>
      rw[hd]at m n;have o:48<=s[i].toNat/\s[i].toNat<=57:=by simpa[hv]using hd
      have E:IntKind.u8.wrap ((s[i].toNat:Int)-48)=((s[i].toNat-48:Nat):Int):=by simp only[IntKind.wrap,IntKind.signed,IntKind.bits];simp;omega
      have F:IntKind.i64.wrap ((s[i].toNat-48:Nat):Int)=((s[i].toNat-48:Nat):Int):=by rw[wrap64]<;>omega
      have G:IntKind.i64.wrap (10*((kb (s.take i) 0:Nat):Int))=((10*kb (s.take i) 0:Nat):Int):=by rw[wrap64]<;>omega
      have H:IntKind.i64.wrap (((10*kb (s.take i) 0:Nat):Int)+((s[i].toNat-48:Nat):Int))=((kb (s.take (i+1)) 0:Nat):Int):=by
       rw[Nt f,aaI,wrap64]<;>omega
      simp only[go_sem,l,f,w,y,m,n,E,F,G,H];exact⟨i+1,⟨by omega,by rw[Nu f,ao,hd];rfl⟩,by omega,by(exact mO)⟩
     |false =>
      rw[hd]at m n;simp only[go_sem,l,f,y,m,n];exact C _ (HO f hd) (by simp only[go_sem]) (by simp only[go_sem])
    ·have l:decide ((i:Int)<(s.length:Int))=false:=decide_eq_false (by omega);rw[aKi (by omega)]at ao;simp only[go_sem,l];rw[aKi (by omega)];exact B _ ao
   have fin:∀i:Int,s.all hv=true->jx ν aB ij Vx ⟨N [(27,.v (.bool false)),(0,.v (.str s)),(4,.v (.int .i64 (kb s 0:Nat))),(25,.v (.int .i64 s.length)),(26,.v (.int .i64 i))],[]⟩ (yQ fun a=>ts a.env Y8=some (l8 s)) ⟨⟩:=fun i h=>by
    unfold Vx;simp only[go_sem,Y8,t h]
   by_cases J:s.length>1
   ·have d:decide ((s.length:Int)>1)=true:=decide_eq_true (by omega);have q:((x.toNat:Int)==48)=false:=by
     rw[beq_eq_false_iff_ne];intro O;exact U ⟨UInt8.toNat_inj.1 (by show x.toNat=48;omega),J⟩
    simp only[go_sem,g,b,c,q,d];refine loop _ _ (by(try simp only[go_sem])<;>(exact mO)) (fun i h=>fin i h) (fun a h o u=>?_);simp only[go_sem,o,u,Y8,e h]
   ·have d:decide ((s.length:Int)>1)=false:=decide_eq_false (by omega);simp only[go_sem,b,c,d];refine loop _ _ (by(try simp only[go_sem])<;>(exact mO)) (fun i h=>fin i h) (fun a h o u=>?_);simp only[go_sem,o,u,Y8,e h]
 ·have c:decide ((s.length:Int)>4)=true:=decide_eq_true (by omega);simp only[go_sem,b,c,Y8];rw[l8,j,if_neg (by omega)];rfl
theorem arS(s:aj):ij 104 [.str s]=some (l8 s):=by simp[ij]
theorem aJK(s:aj):ij 102 [.str s]=some (.bool (hh s).isSome):=by simp[ij]
theorem arT(s:aj):ij 68 [.str s]=some (.int .i64 (rH s)):=by simp[ij]
theorem aJL(s:aj):ij 103 [.str s]=some (.bool (e9 s)):=by simp[ij]
theorem arV(t:I):ij 67 [t.enc]=some (.int .i64 (kA t)):=by simp[ij,Bd]
theorem Ra(a b:Nat):ij 66 [.int .i64 a,.int .i64 b]=some (.int .i64 (hU a b)):=by simp[ij]
theorem aJM(a b:aj):ij 69 [.str a,.str b]=some (.int .i64 (dk a b)):=by simp[ij]
theorem aJN(t u:I):ij 33 [t.enc,u.enc]=some (.int .i64 (cf t u)):=by simp[ij,Bd]
theorem aJO(t u:List I):ij 70 [jw t,jw u]=some (.int .i64 (fy t u)):=by simp[ij,Vj]
theorem aJP(s:aj):aF ν aB 102 [.str s] (.bool (hh s).isSome):=by
 refine aF.intro (D:=ij) aaC rfl rfl ?_;have q:=arS s;have w:=arR s;unfold Nk;unfold l8 at q w;simp only[go_sem,q,w,Y4]
theorem arW(s:aj):aF ν aB 68 [.str s] (.int .i64 (rH s)):=by
 refine aF.intro (D:=ij) asV rfl rfl ?_;have q:=arS s;have w:=arR s;unfold XR;unfold l8 at q w;simp only[go_sem,q,w,XS,rH]
theorem arX(t:I):aF ν aB 67 [t.enc] (.int .i64 (kA t)):=by
 refine aF.intro (D:=ij) asU (by simp only[aKh,aKm,I.arg];rfl) rfl ?_;obtain⟨a,ck⟩:=t;simp only[I.enc,kA,I.args,I.name];have d:=aJK a;have cv:=aJP a;have g:=aJL a;have h:=aJJ a;unfold XO;by_cases e:ck.length>0
 ·have c:decide ((ck.length:Int)>0)=true:=decide_eq_true (by omega);simp only[go_sem,bC,c,kv,e,XP]
 ·have c:decide ((ck.length:Int)>0)=false:=decide_eq_false (by omega);obtain⟨j,f⟩:∃b,(hh a).isSome=b:=⟨_,rfl⟩;obtain⟨k,i⟩:∃b,e9 a=b:=⟨_,rfl⟩;rw[f]at d cv;rw[i]at g h;cases j
  ·cases k<;>simp only[go_sem,bC,c,kv,e,f,i,d,cv,g,h,XP]
  ·simp only[go_sem,bC,c,kv,e,f,d,cv,XP]
theorem aJQ(a b:aj):aF ν aB 69 [.str a,.str b] (.int .i64 (dk a b)):=by
 refine aF.intro (D:=ij) asW rfl rfl ?_;have h:=HR a b;have U:Op.bytesLess b a=true\/Op.bytesLess b a=false:=by cases Op.bytesLess b a<;>simp
 have i:Op.bytesLess a b=false->(!(Op.bytesLess a b||a==b))=Op.bytesLess b a:=fun g=>by
  have j:=HR b a;have c:dk a b=0↔a=b:=mP;rw[h,g]at c;simp only[Bool.false_eq_true,if_false]at c;rw[g,Bool.false_or];cases ae:Op.bytesLess b a with
  |true=>rw[ae]at c;simp at c;simp[c]|false=>rw[ae]at c;simp at c;simp[c]
 unfold XU;rw[h];cases d:Op.bytesLess a b with
 |true=>simp only[go_sem,d,XV]|false =>
  have e:=i d;rw[d,Bool.false_or]at e;cases ae:Op.bytesLess b a with
  |true =>
   rw[ae]at e;have f:(a==b)=false:=by simpa using e
   simp only[go_sem,d,f,XV]
  |false =>
   rw[ae]at e;have f:(a==b)=true:=by simpa using e
   simp only[go_sem,d,f,XV]
theorem aJR(l m:List I)(h:∀t∈l,∀u,aF ν aB 33 [t.enc,u.enc] (.int .i64 (cf t u))):aF ν aB 70 [jw l,jw m] (.int .i64 (fy l m)):=by
 refine aF.assume (B:=l.length<=M/\m.length<=M) (fun γ vs h=>by cases h with|cons _ _ _ _ h v=>cases v with|cons _ _ _ _ U _=>exact⟨(DI h).1,(DI U).1⟩) fun ae=>?_;have H:M=1099511627776:=rfl;refine aF.intro (D:=ij) asX rfl rfl ?_;unfold XX;simp only[jw];simp only[go_sem];refine b9 (fun i:Nat=>⟨N [(0,.v (.list none 2 (eA l))),(1,.v (.list none 2 (eA m))),(5,.v (.int .i64 i))],[]⟩)
  (fun i=>i<=l.length/\i<=m.length/\fy (l.drop i) (m.drop i)=fy l m) (fun i=>l.length-i) 0 ⟨by omega,by omega,rfl⟩ (by(try simp only[go_sem])<;>(exact mO)) ?_
 rintro i ⟨ak,z,ao⟩;have fin:l.length<=i\/m.length<=i->ij 66 [.int .i64 l.length,.int .i64 m.length]=some (.int .i64 (fy l m))/\aF ν aB 66 [.int .i64 l.length,.int .i64 m.length] (.int .i64 (fy l m)):=fun J=>by
  have q:=Ra l.length m.length;have w:=Nq l.length m.length;rw[<-atU l m i ak z,<-atS (l.drop i) (m.drop i) (by simp only[List.length_drop];omega),ao]at q w;exact⟨q,w⟩
 by_cases A:i<l.length
 ·have a:decide ((i:Int)<(l.length:Int))=true:=decide_eq_true (by omega);by_cases U:i<m.length
  ·have b:decide ((i:Int)<(m.length:Int))=true:=decide_eq_true (by omega);have g:l[i]?=some l[i]:=aKg A;have j:m[i]?=some m[i]:=aKg U;have e:(eA l)[i]?=some l[i].enc:=by rw[Bb,g];rfl
   have f:(eA m)[i]?=some m[i].enc:=by rw[Bb,j];rfl
   have n:IntKind.i64.wrap ((i:Int)+1)=((i+1:Nat):Int):=by rw[wrap64]<;>omega
   have o:(0:Int)<=i:=by omega
   have r:(i:Int)<l.length:=by omega
   have s:(i:Int)<m.length:=by omega
   have q:=aJN l[i] m[i];have w:=h l[i] (aKp _) m[i];have az:=atT g j;rw[ao]at az;generalize l[i]=x at *;generalize m[i]=y at *;obtain⟨C,E⟩:=x;obtain⟨F,G⟩:=y;simp only[I.enc]at e f q w;generalize cf (.mk C E) (.mk F G)=c at *;by_cases d:c=0
   ·have k:(c != 0)=false:=by simp[d]
    rw[if_pos d]at az;simp only[go_sem,bC,e,f,n,o,r,s,q,w,k,kv];exact⟨i+1,⟨by omega,by omega,az.symm⟩,by omega,by(exact mO)⟩
   ·have k:(c != 0)=true:=by simp[d]
    rw[if_neg d]at az;simp only[go_sem,bC,e,f,o,r,s,q,w,k,kv,XY,az]
  ·have b:decide ((i:Int)<(m.length:Int))=false:=decide_eq_false (by omega);obtain⟨q,w⟩:=fin (.inr (by omega));unfold XW;simp only[go_sem,a,b,kv,q,w,XY]
 ·have a:decide ((i:Int)<(l.length:Int))=false:=decide_eq_false (by omega);obtain⟨q,w⟩:=fin (.inl (by omega));unfold XW;simp only[go_sem,a,kv,q,w,XY]
theorem aJS(t u:I)(h:aF ν aB 70 [jw t.args,jw u.args] (.int .i64 (fy t.args u.args))):aF ν aB 33 [t.enc,u.enc] (.int .i64 (cf t u)):=by
 refine aF.intro (D:=ij) asz (by simp only[aKh,aKm,I.arg];rfl) rfl ?_;have e:=arV t;have cv:=arX t;have f:=arV u;have i:=arX u;have G:=aJO t.args u.args;have j:=D2 t u;obtain⟨n,a⟩:=t;obtain⟨m,b⟩:=u;simp only[I.enc,I.args,I.name,jw]at e cv f i G h j ⊢;generalize cf (.mk n a) (.mk m b)=R at *;generalize kA (.mk n a)=x at *;generalize kA (.mk m b)=y at *;have k:=Ra x y;have l:=Nq x y;have H:=arT n;have J:=arW n;have K:=arT m;have L:=arW m;have O:=Ra (rH n) (rH m);have P:=Nq (rH n) (rH m);have Q:=Ra a.length b.length;have S:=Nq a.length b.length;have z:=aJM n m;have A:=aJQ n m;unfold WC;by_cases o:x=y
 ·have B:hU x y=0:=by rw[o];simp[hU]
  rw[B]at k l;have r:((0:Int) != 0)=false:=rfl;by_cases U:x=0
  ·have q:((x:Int)==0)=true:=by rw[U];rfl
   have d:R=hU (rH n) (rH m):=by rw[j,Bq,if_neg (fun g=>g o),if_pos U]
   rw[d];simp only[go_sem,bC,e,cv,f,i,k,l,r,q,H,J,K,L,O,P,WD]
  ·have q:((x:Int)==0)=false:=by rw[beq_eq_false_iff_ne];omega
   by_cases s:a.length=b.length
   ·have v:((a.length:Int) != b.length)=false:=by simp[s]
    have C:∃c,dk n m=c:=⟨_,rfl⟩;obtain⟨c,E⟩:=C;rw[E]at z A;by_cases w:c=0
    ·have d:R=fy a b:=by rw[j,E,Bq,if_neg (fun g=>g o),if_neg U,if_neg (fun g=>g s),if_neg (fun g=>g w)]
     rw[d];have F:(c != 0)=false:=by simp[w]
     simp only[go_sem,bC,e,cv,f,i,k,l,r,q,v,z,A,F,G,h,kv,WD]
    ·have d:R=c:=by rw[j,E,Bq,if_neg (fun g=>g o),if_neg U,if_neg (fun g=>g s),if_pos w]
     rw[d];have F:(c != 0)=true:=by simp[w]
     simp only[go_sem,bC,e,cv,f,i,k,l,r,q,v,z,A,F,kv,WD]
   ·have d:R=hU a.length b.length:=by rw[j,Bq,if_neg (fun g=>g o),if_neg U,if_pos s]
    rw[d];have v:((a.length:Int) != b.length)=true:=by simp;omega
    simp only[go_sem,bC,e,cv,f,i,k,l,r,q,v,Q,S,kv,WD]
 ·have d:R=hU x y:=by rw[j,Bq,if_pos o]
  rw[d];have B:(hU x y != 0)=true:=by
   simp only[hU];by_cases g:x<y
   ·simp[g]
   ·have:y<x:=by omega
    simp[g,this]
  simp only[go_sem,bC,e,cv,f,i,k,l,B,WD]
mutual
theorem arY:∀(t u:I),aF ν aB 33 [t.enc,u.enc] (.int .i64 (cf t u))
 |.mk n a,u=>aJS (.mk n a) u (aJR a u.args fun t b u=>arZ a t b u)
theorem arZ:∀(l:List I),∀t∈l,∀u,aF ν aB 33 [t.enc,u.enc] (.int .i64 (cf t u))
 |[],_,h,_=>by cases h|s::r,t,h,u=>by
  rcases List.mem_cons.1 h with e|h
  ·rw[e];exact arY s u
  ·exact arZ r t h u
end
end AM
