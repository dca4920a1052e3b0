/- What functions of the given program do, as calls of the machine. Conditions: names and lists are bounded where that is said. -/
import Derived.Test.YtljpaghckmbmlaaGreatDoorE1
import Derived.Test.YtljpaghckmbmlaaGreatDoorAm10
import Derived.Test.YtljpaghckmbmlaaGreatDoorE52
set_option linter.unusedSimpArgs false
set_option maxRecDepth 100000
set_option maxHeartbeats 4000000
set_option linter.unusedVariables false
namespace AM
open List renaming map_append -> aqt,map_nil -> aqv,length_map -> aqw,foldr_cons -> aqx,foldr_nil -> aqB,take_zero -> aqT,map_cons -> aqU,set_set -> avO,length_cons -> avP,all_eq_true -> avR
open Int renaming natCast_add -> aqE,natCast_one -> aqH,natCast_zero -> aqI
open Nat renaming le_refl -> aqV
open Bool renaming false_eq_true -> avQ
open Option renaming isSome_iff_exists -> avS
open Go Go.Proofs
open Tryz renaming prog -> ν
open Enc (enc)
variable {H:List ay}{x:Nat}
theorem aMT{o:ay}(h:H[x]?=some o):H.set x o=H:=by
 obtain⟨a,b⟩:=List.getElem?_eq_some_iff.1 h;rw[<-b];exact List.set_getElem_self a
variable {s r:ak}
theorem amk(h:H[x]?=some (ep s r))(ax:r <:+ s)(n:s.length<=M) :
  bB ν aD 102 [.ptr x 0] H λv H'=>v=.bg []/\H'=H.set x (ep s (q3 r)):=by
 have o:M=1099511627776:=rfl;have ah:=dq h;refine bB.intro (D:=na) ayY ?_;unfold abC
 (repeat' first|refine ag ?_|(refine ao ?_ ?_<;>intro))
 refine bQ (λq:ak=>⟨N [(0,.v (.ptr x 0))],H.set x (ep s q)⟩) (λq=>q <:+ s/\q3 q=q3 r) (λq=>q.length) r ⟨ax,rfl⟩ (rm (aMT h)) ?_;rintro q ⟨k,a⟩;cases q with
 |nil =>
  have b:s.length-([]:ak).length=s.length:=rfl
  (repeat' first|simp(disch:=first|exact ai|fail) only[go_sem,ep,b]|(refine ao ?_ ?_<;>intro))
  exact⟨_,rfl,rfl,by rw[<-a];rfl⟩
 |cons c q =>
  obtain⟨p,e,l,f⟩:=Ui k;obtain⟨j,g⟩:∃j,j=s.length-(q.length+1):=⟨_,rfl⟩;have b:s.length-(q.length+1)=j:=g.symm;rw[<-g]at e f;rw[q3]at a;have i:l6 c=true->∃d,(d <:+ s/\q3 d=q3 r)/\d.length<(c::q).length/\(⟨N [(0,.v (.ptr x 0))],(H.set x (.cells [.str s,.int .i64 (j:Int)])).set x (.cells [.str s,.int .i64 ((j:Int)+1)])⟩:au)=⟨N [(0,.v (.ptr x 0))],H.set x (.cells [.str s,.int .i64 ((s.length-d.length:Nat):Int)])⟩:=λm=>by
   rw[if_pos m]at a;exact⟨q,⟨l,a⟩,be,by rw[avO,<-f];rfl⟩
  (repeat' first|simp(disch:=first|exact ai|fail) only[go_sem,ep,b,e]|(refine ao ?_ ?_<;>intro))
  ·exact i (by simp[l6];omega)
  ·exact i (by simp[l6];omega)
  ·rw[if_neg (by simp[l6];omega)]at a;exact⟨_,rfl,rfl,by rw[<-a,avP,b]⟩
theorem aMU(h:H[x]?=some (ep s r))(ax:r <:+ s)(k:s.length<=M)(c:Nat) :
  bB ν aD 63 [.ptr x 0,.int .u8 c] H λv H'=>v=.bool (hJ c r).1/\H'=H.set x (ep s (hJ c r).2):=by
 have l:M=1099511627776:=rfl;have ah:=dq h;have t:=amk h ax k;have e:=(Hn r).trans ax;refine bB.intro (D:=na) ayD ?_;unfold aai;cases ae:q3 r with
 |nil =>
  have b:s.length-([]:ak).length=s.length:=rfl;have a:hJ c r=(false,[]):=by rw[hJ,ae]
  rw[ae]at t
  (repeat' first|simp(disch:=first|exact ai|fail) only[go_sem,ep,b]|(refine ao ?_ ?_<;>intro)|refine cA t ?_)
  exact⟨_,rfl,by rw[a],by rw[a];rfl⟩
 |cons d q =>
  rw[ae]at t e;obtain⟨m,f,n,g⟩:=Ui e;obtain⟨j,i⟩:∃j,j=s.length-(q.length+1):=⟨_,rfl⟩;have b:s.length-(q.length+1)=j:=i.symm;rw[<-i]at f g
  (repeat' first|simp(disch:=first|exact ai|fail) only[go_sem,ep,b,f]|(refine ao ?_ ?_<;>intro)|refine cA t ?_)
  ·have a:hJ c r=(true,q):=by rw[hJ,ae];exact if_pos am
   exact⟨_,rfl,by rw[a],by rw[a,avO];show _=H.set x (.cells [.str s,.int .i64 ((s.length-q.length:Nat):Int)]);rw[<-g];rfl⟩
  ·have a:hJ c r=(false,d::q):=by rw[hJ,ae];exact if_neg am
   exact⟨_,rfl,by rw[a],by rw[a];show _=H.set x (.cells [.str s,.int .i64 ((s.length-(q.length+1):Nat):Int)]);rw[b]⟩
theorem aMV(h:H[x]?=some (ep s r))(ax:r <:+ s)(z:s.length<=M) :
  bB ν aD 60 [.ptr x 0] H λv H'=>v=.str (lq r).1/\H'=H.set x (ep s (lq r).2):=by
 have L:M=1099511627776:=rfl;have ah:=dq h;have t:=amk h ax z;have l:=(Hn r).trans ax;obtain⟨b,ae⟩:∃b,b=q3 r:=⟨_,rfl⟩;have A:lq r=(sX b,sY b):=by rw[lq,ae]
 rw[A];rw[<-ae]at t l;obtain⟨i,al⟩:∃i,i=s.length-b.length:=⟨_,rfl⟩;have O:=Ho l;refine bB.intro (D:=na) ayA ?_;unfold aaa
 (repeat' first|simp(disch:=first|exact ai|fail) only[go_sem,ep,<-al]|(refine ao ?_ ?_<;>intro)|refine cA t ?_)
 refine bQ (λq:ak=>⟨N [(0,.v (.ptr x 0)),(3,.v (.int .i64 i))],H.set x (ep s q)⟩) (λq=>q <:+ b/\sY q=sY b/\b.take (b.length-q.length)++sX q=sX b) (λq=>q.length) b ⟨List.suffix_rfl,rfl,be⟩ (by(try simp(disch:=first|exact ai|fail) only[go_sem])<;>(first|rfl|(simp(disch:=first|exact aX|fail) only[b7,aqx,aqB,Env.ins,cp,cq,cr,ct,cu,cv,cw,cx,I.b0,aqw,aqE,aqH,aqI,aqT,bL,aqt,aqU,aqv,cy,cz,go_sem,ep,al];try rfl))) ?_;rintro q ⟨m,d,e⟩;have o:=m.trans l;have df:=Ho m;have bI:∀k,k<=b.length->(s.take (i+k)).drop i=b.take k:=λk hk=>by
  obtain⟨p,rfl⟩:=l;have:i=p.length:=by rw[al];simp
  subst this;rw[List.take_add,List.take_left,List.drop_left,List.drop_left]
 cases q with
 |nil =>
  have f:s.length-([]:ak).length=s.length:=rfl;have B:sX b=b:=by rw[<-e];simp[sX]
  have C:(s.take s.length).drop i=b:=by
   have:=bI b.length (aqV _);rwa[show i+b.length=s.length by omega,List.take_of_length_le (aqV b.length)]at this
  (repeat' first|simp(disch:=first|exact ai|fail) only[go_sem,ep,f,C,Nat.sub_zero]|(refine ao ?_ ?_<;>intro))
  exact⟨_,rfl,by rw[B],by rw[<-d];rfl⟩
 |cons c q =>
  obtain⟨P,u,Q,w⟩:=Ui o;obtain⟨j,y⟩:∃j,j=s.length-(q.length+1):=⟨_,rfl⟩;have f:s.length-(q.length+1)=j:=y.symm;rw[<-y]at u w;have E:q <:+ b:=(List.suffix_cons c q).trans m;have F:Bg c=true->∃a,(a <:+ b/\sY a=sY b/\b.take (b.length-a.length)++sX a=sX b)/\a.length<(c::q).length/\(⟨N [(0,.v (.ptr x 0)),(3,.v (.int .i64 i))],(H.set x (.cells [.str s,.int .i64 (j:Int)])).set x (.cells [.str s,.int .i64 ((j:Int)+1)])⟩:au)=⟨N [(0,.v (.ptr x 0)),(3,.v (.int .i64 i))],H.set x (.cells [.str s,.int .i64 ((s.length-a.length:Nat):Int)])⟩:=λg=>by
   rw[sY,if_pos g]at d;rw[sX,if_pos g]at e;refine⟨q,⟨E,d,?_⟩,be,by rw[avO,<-w];rfl⟩;rw[<-e];obtain⟨p,rfl⟩:=m;rw[show(p++c::q).length-q.length=(p++[c]).length by simp only[List.length_append,avP,List.length_nil];omega,show(p++c::q).length-(c::q).length=p.length by simp,List.take_left,show p++c::q=(p++[c])++q by simp,List.take_left];simp
  have fin:Bg c=false->(s.take j).drop i=sX b/\ep s (sY b)=.cells [.str s,.int .i64 (j:Int)]:=λg=>by
   rw[sY,if_neg (by rw[g];simp)]at d;rw[sX,if_neg (by rw[g];simp),List.append_nil]at e;rw[avP]at df;refine⟨?_,by rw[<-d,ep,avP,f]⟩;have:=bI (b.length-(q.length+1)) am;rw[show i+(b.length-(q.length+1))=j by omega]at this;rw[this];exact e
  cases n:Bg c with
  |true =>
   have G:=F n
   (repeat' first|simp(disch:=first|exact ai|fail) only[go_sem,ep,f,u]|(refine ao ?_ ?_<;>intro))
   all_goals first
    |exact G|(exfalso;simp[Bg]at n;omega)
  |false =>
   obtain⟨J,K⟩:=fin n;have R:i<=j:=by rw[avP]at df;omega
   have S:j<=s.length:=by omega
   (repeat' first|simp(disch:=first|exact ai|fail) only[go_sem,ep,f,u,J]|(refine ao ?_ ?_<;>intro))
   all_goals first
    |(exfalso;simp[Bg]at n;omega)|exact⟨_,rfl,rfl,by rw[<-K];rfl⟩
section
variable {H:List ay}{x:Nat}{s r:ak}(ah:x<H.length)(ax:r <:+ s)(bw:s.length<=M)
include ah ax bw
theorem DT(c:Nat):bB ν aD 63 [.ptr x 0,.int .u8 c] (H.set x (ep s r)) λv H'=>v=.bool (hJ c r).1/\H'=H.set x (ep s (hJ c r).2):=by
 have t:=aMU (H:=H.set x (ep s r)) (dV ah) ax bw c;rw[avO]at t;exact t
theorem DU:bB ν aD 60 [.ptr x 0] (H.set x (ep s r)) λv H'=>v=.str (lq r).1/\H'=H.set x (ep s (lq r).2):=by
 have t:=aMV (H:=H.set x (ep s r)) (dV ah) ax bw;rw[avO]at t;exact t
end
variable {n:ak}{v:AV}
theorem DV{l:List I}(h:bx v (.list none 2 (l.map I.enc))):bx (.agg [.str n,v]) (enc (I.mk n l)):=by
 have e:(enc (I.mk n l):AV)=.agg [.str n,.list none 2 (l.map I.enc)]:=by show(I.mk n l).enc=_;rw[I.qC];rfl
 rw[e];exact bx.agg (.cons (bx.refl _) (.cons h .nil))
theorem aMX(e:Nat)(l:List I):(vu e l=.aS 2/\l=[])\/vu e l=.list (some e) 2 (l.map I.enc):=by
 unfold vu;split
 ·rename_i h;exact .inl ⟨rfl,h⟩
 ·exact .inr rfl
theorem aml(e:Nat)(l:List I)(t:I):vu e (l++[t])=.list (some e) 2 (l.map I.enc++[t.enc]):=by
 rw[vu,if_neg be,aqt];rfl
theorem Hp:∀(k f:Nat),f<=k->k<=1000000->∀{n r:ak}{t:I}{q:ak}{H:List ay}{x:Nat}{s:ak},zg f n r=some (t,q)->x<H.length->r <:+ s->s.length<=M ->
  bB ν aD 62 [.ptr x 0,.str n] (H.set x (ep s r)) λv H'=>v=enc t/\H'=H.set x (ep s q)
 |k,0,_,_,n,r,t,q,H,x,s,h,_,_,_=>by cases h|0,f+1,hk,_,n,r,t,q,H,x,s,h,_,_,_=>by omega|k+1,f+1,hk,hp,n,r,t,q,H,x,s,h,ah,ax,m=>by
  have cP:M=1099511627776:=rfl;have y:=DT ah ax m 40;have V:=(um 40 r).trans ax;rw[zg]at h;refine bB.kX (bB.intro (D:=na) ayC ?_);unfold aag;cases K:(hJ 40 r).1 with
  |false =>
   rw[K]at h y;simp only[avQ,if_false,Option.some.injEq,Prod.mk.injEq]at h;obtain⟨rfl,rfl⟩:=h
   (repeat' first|simp(disch:=first|exact ai|fail) only[go_sem]|(refine ao ?_ ?_<;>intro)|refine cA y ?_)
   exact⟨_,rfl,enc (I.mk n []),DV (bx.aS 2),Enc.iI _,d9⟩
  |true =>
   rw[K]at h y;rw[if_pos rfl]at h;split at h
   ·cases h
   ·rename_i L Q e;simp only[Option.some.injEq,Prod.mk.injEq]at h;obtain⟨rfl,rfl⟩:=h
    (repeat' first|simp(disch:=first|exact ai|fail) only[go_sem]|(refine ao ?_ ?_<;>intro)|refine cA y ?_)
    refine bQ (λi:Nat×List I×ak=>⟨N [(0,.v (.ptr x 0)),(4,.b [.str [],.aS 2]),(5,.b [.str n,vu 31 i.2.1])],H.set x (ep s i.2.2)⟩) (λi=>DR i.1 i.2.1 i.2.2=some (L,Q)/\i.1<=f/\i.2.1.length+i.1<=f/\i.2.2 <:+ s) (λi=>i.1) (f,[],(hJ 40 r).2) ⟨e,aqV _,be,V⟩ (by(try simp(disch:=first|exact ai|fail) only[go_sem])<;>(first|rfl|(simp(disch:=first|exact aX|fail) only[b7,aqx,aqB,Env.ins,cp,cq,cr,ct,cu,cv,cw,cx,I.b0,aqw,aqE,aqH,aqI,aqT,bL,aqt,aqU,aqv,cy,cz,go_sem,vu];try rfl))) ?_;rintro⟨g,l,p⟩ ⟨a,W,X,u⟩;simp only at a W X u;cases g with
    |zero=>cases a|succ g =>
     rw[DR]at a;obtain⟨j,w⟩:∃j,j=s.length-p.length:=⟨_,rfl⟩;obtain⟨c,z⟩:∃c,c=vu 31 l:=⟨_,rfl⟩;have A:=aMX 31 l;rw[<-z]at A;have G:=aMR 31 l;rw[<-z]at G;have vS:=Ho u;by_cases ar:p=[]
     ·rw[if_pos ar]at a;simp only[Option.some.injEq,Prod.mk.injEq]at a;obtain⟨rfl,rfl⟩:=a;subst ar;have d:=DT ah u m 41;have Y:s.length-([]:ak).length=s.length:=rfl;rw[<-z];rcases A with⟨b,B⟩|b
      all_goals rw[b]at G ⊢
      all_goals (repeat' first|simp(disch:=first|exact ai|fail) only[go_sem,ep,Y,Nat.sub_zero]|(refine ao ?_ ?_<;>intro)|refine cA d ?_)
      all_goals exact⟨_,rfl,enc (I.mk n l),(by first|exact DV G|exact DV (bx.refl _)),Enc.iI _,d9⟩
     ·rw[if_neg ar]at a;have C:decide ((j:Int)<s.length)=true:=decide_eq_true ms;split at a
      ·cases a
      ·rename_i o E O;have ba:=DU ah u m;rw[show ep s p=.cells [.str s,.int .i64 (j:Int)] by rw[ep,w]]at ba;have P:=(xC p).trans u;have F:=Hp k g am am O ah P m;have R:=(zh O).trans P;have d:=DT ah R m 44;have J:=(um 44 E).trans R;have S:=DT ah J m 41;rw[<-z];cases T:(hJ 44 E).1 with
       |true =>
        rw[T]at a d;rw[if_pos rfl]at a;rcases A with⟨b,B⟩|b
        ·rw[b]
         (repeat' first|simp(disch:=first|exact ai|fail) only[go_sem,ep,<-w,C]|(refine ao ?_ ?_<;>intro)|refine cA ba ?_|refine cA F ?_|refine cA d ?_)
         exact⟨(g,l++[o],(hJ 44 E).2),⟨a,am,dl,J⟩,be,by(first|rfl|(simp(disch:=first|exact aX|fail) only[b7,aqx,aqB,Env.ins,cp,cq,cr,ct,cu,cv,cw,cx,I.b0,aqw,aqE,aqH,aqI,aqT,bL,aqt,aqU,aqv,cy,cz,go_sem,aml,B,ep,List.nil_append];try rfl))⟩
        ·rw[b]
         (repeat' first|simp(disch:=first|exact ai|fail) only[go_sem,ep,<-w,C]|(refine ao ?_ ?_<;>intro)|refine cA ba ?_|refine cA F ?_|refine cA d ?_)
         exact⟨(g,l++[o],(hJ 44 E).2),⟨a,am,dl,J⟩,be,by(first|rfl|(simp(disch:=first|exact aX|fail) only[b7,aqx,aqB,Env.ins,cp,cq,cr,ct,cu,cv,cw,cx,I.b0,aqw,aqE,aqH,aqI,aqT,bL,aqt,aqU,aqv,cy,cz,go_sem,aml,ep];try rfl))⟩
       |false =>
        rw[T]at a d;simp only[avQ,if_false,Option.some.injEq,Prod.mk.injEq]at a;obtain⟨rfl,rfl⟩:=a;have Z:bx (.list (some 31) 2 (l.map I.enc++[o.enc])) (.list none 2 ((l++[o]).map I.enc)):=by rw[aqt];exact bx.disown _ _ _
        rcases A with⟨b,B⟩|b
        ·rw[b]
         (repeat' first|simp(disch:=first|exact ai|fail) only[go_sem,ep,<-w,C]|(refine ao ?_ ?_<;>intro)|refine cA ba ?_|refine cA F ?_|refine cA d ?_|refine cA S ?_)
         exact⟨_,rfl,enc (I.mk n (l++[o])),DV (by rw[B];exact bx.refl _),Enc.iI _,d9⟩
        ·rw[b]
         (repeat' first|simp(disch:=first|exact ai|fail) only[go_sem,ep,<-w,C]|(refine ao ?_ ?_<;>intro)|refine cA ba ?_|refine cA F ?_|refine cA d ?_|refine cA S ?_)
         exact⟨_,rfl,enc (I.mk n (l++[o])),(by first|exact DV Z|exact DV (by rw[aqt];exact bx.refl _)),Enc.iI _,d9⟩
open Enc (enc)
theorem aMY(e:Nat)(l:List AV):(uo e l=.aS 3/\l=[])\/uo e l=.list (some e) 3 l:=by
 unfold uo;split
 ·rename_i h;exact .inl ⟨rfl,h⟩
 ·exact .inr rfl
theorem Hq(e:Nat)(l:List AV)(t:AV):uo e (l++[t])=.list (some e) 3 (l++[t]):=by
 rw[uo,if_neg be]
theorem amm(e:Nat)(t:AV):uo e [t]=.list (some e) 3 [t]:=Hq e [] t
theorem zi{t:I}{b:List Lit}(h:bx v (.list none 3 (b.map Lit.enc))):bx (.agg [.str t.name,.list none 2 (t.args.map I.enc),v]) (enc (aU.mk t b)) :=
 bx.agg (.cons (bx.refl _) (.cons (bx.refl _) (.cons h .nil)))
theorem aMZ(f:Nat)(aW:f<=1000000){y:aU}{q:ak}(h:Hm f n r=some (y,q))(ah:x<H.length)(ax:r <:+ s)(w:s.length<=M) :
  bB ν aD 61 [.ptr x 0,.str n] (H.set x (ep s r)) λv H'=>v=enc y/\H'=H.set x (ep s q):=by
 have cP:M=1099511627776:=rfl;unfold Hm at h;split at h
 ·cases h
 rename_i t aj Z;split at h
 ·cases h
 rename_i b av aR;simp only[Option.some.injEq,Prod.mk.injEq]at h;obtain⟨rfl,rfl⟩:=h;have t1:=Hp f f (aqV _) aW Z ah ax w;have s1:=(zh Z).trans ax;refine bB.kX (bB.intro (D:=na) ayB ?_);unfold aad
 (repeat' first|simp(disch:=first|exact ai|fail) only[go_sem]|(refine ao ?_ ?_<;>intro)|refine cA t1 ?_)
 refine bQ (λi:Nat×List Lit×ak=>⟨N [(0,.v (.ptr x 0)),(4,.b [.str [],.aS 2,.aS 3]),(5,.b [.str t.name,.list none 2 (t.args.map I.enc),uo 80 (i.2.1.map Lit.enc)])],H.set x (ep s i.2.2)⟩) (λi=>DS i.1 i.2.1 i.2.2=some (b,av)/\i.2.1.length+i.1<=f/\i.2.2 <:+ s) (λi=>i.1) (f,[],aj) ⟨aR,be,s1⟩ (by(try simp(disch:=first|exact ai|fail) only[go_sem])<;>(first|rfl|(simp(disch:=first|exact aX|fail) only[b7,aqx,aqB,Env.ins,cp,cq,cr,ct,cu,cv,cw,cx,I.b0,aqw,aqE,aqH,aqI,aqT,bL,aqt,aqU,aqv,cy,cz,go_sem,uo,aqv];try rfl))) ?_;rintro⟨g,l,p⟩ ⟨a,i3,R⟩;simp only at a i3 R;cases g with
 |zero=>cases a|succ g =>
  rw[DS]at a;obtain⟨j,u⟩:∃j,j=s.length-p.length:=⟨_,rfl⟩;obtain⟨c,S⟩:∃c,c=uo 80 (l.map Lit.enc):=⟨_,rfl⟩;have z:=aMY 80 (l.map Lit.enc);rw[<-S]at z;have k:=aMS 80 (l.map Lit.enc);rw[<-S]at k;have vS:=Ho R;rw[<-S];by_cases ar:p=[]
  ·rw[if_pos ar]at a;simp only[Option.some.injEq,Prod.mk.injEq]at a;obtain⟨rfl,rfl⟩:=a;subst ar;have e0:s.length-([]:ak).length=s.length:=rfl;rcases z with⟨d,A⟩|d
   all_goals rw[d]at k ⊢
   all_goals (repeat' first|simp(disch:=first|exact ai|fail) only[go_sem,ep,e0,Nat.sub_zero]|(refine ao ?_ ?_<;>intro))
   all_goals exact⟨_,rfl,enc (aU.mk t l),io,Enc.iI _,d9⟩
  ·rw[if_neg ar]at a;have B:decide ((j:Int)<s.length)=true:=decide_eq_true ms;have e:=DT ah R w 46;have s2:=(um 46 p).trans R;rw[show ep s p=.cells [.str s,.int .i64 (j:Int)] by rw[ep,u]]at e;cases aF:(hJ 46 p).1 with
   |true =>
    rw[aF]at a e;simp only[if_true,Option.some.injEq,Prod.mk.injEq]at a;obtain⟨rfl,rfl⟩:=a;rcases z with⟨d,A⟩|d
    all_goals rw[d]at k ⊢
    all_goals (repeat' first|simp(disch:=first|exact ai|fail) only[go_sem,ep,<-u,B]|(refine ao ?_ ?_<;>intro)|refine cA e ?_)
    all_goals exact⟨_,rfl,enc (aU.mk t l),io,Enc.iI _,d9⟩
   |false =>
    rw[aF]at a e;simp only[avQ,if_false]at a;have ba:=DU ah s2 w;have j2:=(xC (hJ 46 p).2).trans s2;have C:=DU ah j2 w;have rl:=(xC (lq (hJ 46 p).2).2).trans j2;have E:=(ami (xA p)).trans rl;obtain⟨W,eY⟩:∃W,W=xA p:=⟨_,rfl⟩;have J:=DU ah rl w;rw[show lq (lq (hJ 46 p).2).2=W from eY.symm]at C J;rw[<-eY]at a E;obtain⟨V,T⟩:∃V,V=xB W:=⟨_,rfl⟩;rw[<-T]at a E;by_cases G:W.1=[110,111,116]
    ·have X:V=lq W.2:=by rw[T,xB,if_pos G]
     rw[<-X]at J;have F:(W.1==([110,111,116]:ak))=true:=by rw[G];rfl
     rw[show decide (W.1=[110,111,116])=true from decide_eq_true G]at a;by_cases m:V.1=[]
     ·have o:(V.1==([]:ak))=true:=by rw[m];rfl
      rw[if_pos m]at a;simp only[Option.some.injEq,Prod.mk.injEq]at a;obtain⟨rfl,rfl⟩:=a;rcases z with⟨d,A⟩|d
      all_goals rw[d]at k ⊢
      all_goals (repeat' first|simp(disch:=first|exact ai|fail) only[go_sem,ep,<-u,B,F,o]|(refine ao ?_ ?_<;>intro)|refine cA e ?_|refine cA ba ?_|refine cA C ?_|refine cA J ?_)
      all_goals exact⟨_,rfl,enc (aU.mk t l),io,Enc.iI _,d9⟩
     ·have o:(V.1==([]:ak))=false:=beq_eq_false_iff_ne.2 m;rw[if_neg m]at a;split at a
      ·cases a
      ·rename_i K L O;have P:=Hp g g (aqV _) am O ah E w;have Q:=(zh O).trans E;have Y:(l.map Lit.enc).length<=1000000:=by rw[aqw];omega
       rcases z with⟨d,A⟩|d
       ·rw[d]
        (repeat' first|simp(disch:=first|exact ai|fail) only[go_sem,ep,<-u,B,F,o]|(refine ao ?_ ?_<;>intro)|refine cA e ?_|refine cA ba ?_|refine cA C ?_|refine cA J ?_|refine cA P ?_)
        exact⟨(g,l++[⟨true,K⟩],L),⟨a,dl,Q⟩,be,by(first|rfl|(simp(disch:=first|exact aX|fail) only[b7,aqx,aqB,Env.ins,cp,cq,cr,ct,cu,cv,cw,cx,I.b0,aqw,aqE,aqH,aqI,aqT,bL,aqt,aqU,aqv,cy,cz,go_sem,Hq,amm,A,Lit.enc,ep,List.nil_append];try rfl))⟩
       ·rw[d]
        (repeat' first|simp(disch:=first|exact ai|fail) only[go_sem,ep,<-u,B,F,o]|(refine ao ?_ ?_<;>intro)|refine cA e ?_|refine cA ba ?_|refine cA C ?_|refine cA J ?_|refine cA P ?_)
        exact⟨(g,l++[⟨true,K⟩],L),⟨a,dl,Q⟩,be,by(first|rfl|(simp(disch:=first|exact aX|fail) only[b7,aqx,aqB,Env.ins,cp,cq,cr,ct,cu,cv,cw,cx,I.b0,aqw,aqE,aqH,aqI,aqT,bL,aqt,aqU,aqv,cy,cz,go_sem,Hq,Lit.enc,ep];try rfl))⟩
    ·have X:V=W:=by rw[T,xB,if_neg G]
     rw[X]at a E;have F:(W.1==([110,111,116]:ak))=false:=beq_eq_false_iff_ne.2 G;rw[show decide (W.1=[110,111,116])=false from decide_eq_false G]at a;by_cases m:W.1=[]
     ·have o:(W.1==([]:ak))=true:=by rw[m];rfl
      rw[if_pos m]at a;simp only[Option.some.injEq,Prod.mk.injEq]at a;obtain⟨rfl,rfl⟩:=a;rcases z with⟨d,A⟩|d
      all_goals rw[d]at k ⊢
      all_goals (repeat' first|simp(disch:=first|exact ai|fail) only[go_sem,ep,<-u,B,F,o]|(refine ao ?_ ?_<;>intro)|refine cA e ?_|refine cA ba ?_|refine cA C ?_)
      all_goals exact⟨_,rfl,enc (aU.mk t l),io,Enc.iI _,d9⟩
     ·have o:(W.1==([]:ak))=false:=beq_eq_false_iff_ne.2 m;rw[if_neg m]at a;split at a
      ·cases a
      ·rename_i K L O;have P:=Hp g g (aqV _) am O ah E w;have Q:=(zh O).trans E;have Y:(l.map Lit.enc).length<=1000000:=by rw[aqw];omega
       rcases z with⟨d,A⟩|d
       ·rw[d]
        (repeat' first|simp(disch:=first|exact ai|fail) only[go_sem,ep,<-u,B,F,o]|(refine ao ?_ ?_<;>intro)|refine cA e ?_|refine cA ba ?_|refine cA C ?_|refine cA P ?_)
        exact⟨(g,l++[⟨false,K⟩],L),⟨a,dl,Q⟩,be,by(first|rfl|(simp(disch:=first|exact aX|fail) only[b7,aqx,aqB,Env.ins,cp,cq,cr,ct,cu,cv,cw,cx,I.b0,aqw,aqE,aqH,aqI,aqT,bL,aqt,aqU,aqv,cy,cz,go_sem,Hq,amm,A,Lit.enc,ep,List.nil_append];try rfl))⟩
       ·rw[d]
        (repeat' first|simp(disch:=first|exact ai|fail) only[go_sem,ep,<-u,B,F,o]|(refine ao ?_ ?_<;>intro)|refine cA e ?_|refine cA ba ?_|refine cA C ?_|refine cA P ?_)
        exact⟨(g,l++[⟨false,K⟩],L),⟨a,dl,Q⟩,be,by(first|rfl|(simp(disch:=first|exact aX|fail) only[b7,aqx,aqB,Env.ins,cp,cq,cr,ct,cu,cv,cw,cx,I.b0,aqw,aqE,aqH,aqI,aqT,bL,aqt,aqU,aqv,cy,cz,go_sem,Hq,Lit.enc,ep];try rfl))⟩
theorem aM0(f:Nat)(w:f<=1000000){L:List aU}(h:Bh f [] s=some L):aA ν aD 21 [enc s] (enc L):=by
 refine aA.h4 λb=>?_;have z:M=1099511627776:=rfl;have b:s.length<=M:=b;refine aA.gK (D:=na) aya cX rfl (Enc.iI _) ?_;unfold YK;refine ag ?_;refine bQ (λi:Nat×List aU×ak=>⟨N [(3,.v (.ptr 0 0)),(4,.v (.list (some 43) 3 (i.2.1.map aU.enc)))],[ep s i.2.2]⟩) (λi=>Bh i.1 i.2.1 i.2.2=some L/\i.2.1.length+i.1<=f/\i.2.2 <:+ s) (λi=>i.1) (f,[],s) ⟨h,be,List.suffix_rfl⟩ (by(try simp(disch:=first|exact ai|fail) only[go_sem])<;>(first|rfl|(simp(disch:=first|exact aX|fail) only[b7,aqx,aqB,Env.ins,cp,cq,cr,ct,cu,cv,cw,cx,I.b0,aqw,aqE,aqH,aqI,aqT,bL,aqt,aqU,aqv,cy,cz,go_sem,aqv,ep,Nat.sub_self];try rfl))) ?_;rintro⟨g,l,p⟩ ⟨a,o,d⟩;simp only at a o d;cases g with
 |zero=>cases a|succ g =>
  rw[Bh]at a;have ba:=DU (H:=[ay.dead]) (x:=0) dw d b;have j:=(xC p).trans d;obtain⟨W,t⟩:∃W,W=lq p:=⟨_,rfl⟩;rw[<-t]at a ba j;simp only[List.set_cons_zero]at ba;by_cases c:W.1=[]
  ·have k:(W.1==([]:ak))=true:=by rw[c];rfl
   rw[if_pos c]at a;simp only[Option.some.injEq]at a;subst a
   (repeat' first|simp(disch:=first|exact ai|fail) only[go_sem,k]|(refine ao ?_ ?_<;>intro)|refine cA ba ?_)
   exact⟨_,rfl,i9⟩
  ·have k:(W.1==([]:ak))=false:=beq_eq_false_iff_ne.2 c;rw[if_neg c]at a;split at a
   ·cases a
   ·rename_i y q e;have m:=aMZ g am (H:=[ay.dead]) (x:=0) e dw j b;simp only[List.set_cons_zero]at m;have u:=(aMQ e).trans j
    (repeat' first|simp(disch:=first|exact ai|fail) only[go_sem,k]|(refine ao ?_ ?_<;>intro)|refine cA ba ?_|refine cA m ?_)
    exact⟨(g,l++[y],q),⟨a,dl,u⟩,be,by(first|rfl|(simp(disch:=first|exact aX|fail) only[b7,aqx,aqB,Env.ins,cp,cq,cr,ct,cu,cv,cw,cx,I.b0,aqw,aqE,aqH,aqI,aqT,bL,aqt,aqU,aqv,cy,cz,go_sem,ep];try rfl))⟩
theorem aM1(f:Nat)(C:f<=1000000){L:List I}(h:Bi f [] s=some L):aA ν aD 22 [enc s] (enc L):=by
 refine aA.h4 λb=>?_;have E:M=1099511627776:=rfl;have b:s.length<=M:=b;refine aA.gK (D:=na) ayb cX rfl (Enc.iI _) ?_;unfold YN;refine ag ?_;refine bQ (λi:Nat×List I×ak=>⟨N [(3,.v (.ptr 0 0)),(4,.v (.list (some 31) 2 (i.2.1.map I.enc)))],[ep s i.2.2]⟩) (λi=>Bi i.1 i.2.1 i.2.2=some L/\i.2.1.length+i.1<=f/\i.2.2 <:+ s) (λi=>i.1) (f,[],s) ⟨h,be,List.suffix_rfl⟩ (by(try simp(disch:=first|exact ai|fail) only[go_sem])<;>(first|rfl|(simp(disch:=first|exact aX|fail) only[b7,aqx,aqB,Env.ins,cp,cq,cr,ct,cu,cv,cw,cx,I.b0,aqw,aqE,aqH,aqI,aqT,bL,aqt,aqU,aqv,cy,cz,go_sem,aqv,ep,Nat.sub_self];try rfl))) ?_;rintro⟨g,l,p⟩ ⟨a,z,d⟩;simp only at a z d;cases g with
 |zero=>cases a|succ g =>
  rw[Bi]at a;obtain⟨j,k⟩:∃j,j=s.length-p.length:=⟨_,rfl⟩;have F:=Ho d;by_cases ar:p=[]
  ·rw[if_pos ar]at a;simp only[Option.some.injEq]at a;subst a;subst ar;have A:s.length-([]:ak).length=s.length:=rfl
   (repeat' first|simp(disch:=first|exact ai|fail) only[go_sem,ep,A,Nat.sub_zero]|(refine ao ?_ ?_<;>intro))
   exact⟨_,rfl,i9⟩
  ·rw[if_neg ar]at a;have o:decide ((j:Int)<s.length)=true:=decide_eq_true ms;have ba:=DU (H:=[ay.dead]) (x:=0) dw d b;have t:=(xC p).trans d;rw[show ep s p=.cells [.str s,.int .i64 (j:Int)] by rw[ep,k]]at ba;split at a
   ·cases a
   ·rename_i y q e;have m:=Hp g g (aqV _) am (H:=[ay.dead]) (x:=0) e dw t b;have u:=(zh e).trans t;have c:=DT (H:=[ay.dead]) (x:=0) dw u b 44;have B:=(um 44 q).trans u;simp only[List.set_cons_zero]at m ba c;cases w:(hJ 44 q).1 with
    |true =>
     rw[w]at a c;rw[if_pos rfl]at a
     (repeat' first|simp(disch:=first|exact ai|fail) only[go_sem,ep,<-k,o]|(refine ao ?_ ?_<;>intro)|refine cA ba ?_|refine cA m ?_|refine cA c ?_)
     exact⟨(g,l++[y],(hJ 44 q).2),⟨a,dl,B⟩,be,by(first|rfl|(simp(disch:=first|exact aX|fail) only[b7,aqx,aqB,Env.ins,cp,cq,cr,ct,cu,cv,cw,cx,I.b0,aqw,aqE,aqH,aqI,aqT,bL,aqt,aqU,aqv,cy,cz,go_sem,ep];try rfl))⟩
    |false =>
     rw[w]at a c;simp only[avQ,if_false,Option.some.injEq]at a;subst a
     (repeat' first|simp(disch:=first|exact ai|fail) only[go_sem,ep,<-k,o]|(refine ao ?_ ?_<;>intro)|refine cA ba ?_|refine cA m ?_|refine cA c ?_)
     exact⟨_,rfl,by first|exact bx.disown _ _ _|(rw[I.sB,aqt];first|exact bx.disown _ _ _|exact bx.refl _)|(show bx _ (.list none 2 ((l++[y]).map I.enc));rw[aqt];first|exact bx.disown _ _ _|exact bx.refl _)⟩
open Enc (enc)
def gu(s:ak):List aU:=(Bh 99 [] s).getD []
def fZ(s:ak):List I:=(Bi 99 [] s).getD []
def iB:ak:=[112,40,88,41,32,105,102,32,116,114,117,101,40,88,41,32,97,110,100,32,110,111,116,32,113,40,88,41,46,32,113,40,97,41,46]
def zj:ak:=[116,114,117,101,40,98,41,44,32,116,114,117,101,40,97,41]
def vv:ak:=[116,114,117,101,40,97,41,44,32,116,114,117,101,40,98,41]
def uq:ak:=[112,32,105,102,32,110,111,116,32,113,46]
def zk:ak:=[113,40,98,41]
def vw:ak:=[110,40,102,40,88,41,41,32,105,102,32,110,40,88,41,46,32,110,40,97,41,46]
def xE:ak:=[99]
def xF:ak:=[109,44,32,110]
def xG:ak:=[120]
def r2:ak:=[112,40,98,41,44,32,113,40,97,41,44,32,116,114,117,101,40,97,41,44,32,116,114,117,101,40,98,41]
def Bj:ak:=[112]
def Bk:ak:=[116,114,117,101,40,99,41,44,32,100,111,101,115,40,120,44,32,109,41]
theorem aM2:[zj,vv,zk,xE,xF,xG,r2,Bj,Bk].all (λs=>(Bi 99 [] s).isSome&&decide ((fZ s).length<=1000)&&decide (kh (fZ s)<=1000))=true:=by kernel_rfl
theorem aM3:[iB,uq,vw].all (λs=>(Bh 99 [] s).isSome&&(gu s).all λr=>(dx r).all λa=>decide (cc a<=1000000))=true:=by kernel_rfl
theorem amn:iz (gu iB) (fZ zj)=some (fZ r2,0):=by kernel_rfl
theorem Uk:iz (gu iB) (fZ vv)=some (fZ r2,0):=by kernel_rfl
theorem amo:iz (gu iB) (fZ zk)=some ([],13):=by kernel_rfl
theorem amp:iz (gu vw) []=some ([],3):=by kernel_rfl
theorem aM4:sO (iz (gu iB) []) (gu iB)[1]!.head=(true,0):=by kernel_rfl
theorem aM5:(iz (gu iB) []).isSome=true:=by kernel_rfl
theorem aM6:decide (((iz (gu iB) []).getD ([],0)).1.length<=M)=true:=by kernel_rfl
theorem aM7:pf (gu uq) []=(fZ Bj,0):=by kernel_rfl
theorem aM8:decide ((eB (gu uq) (hI [])).length<=1000000)=true:=by kernel_rfl
theorem aM9:wS (fZ xE) (fZ xF) (fZ xG)=fZ Bk:=by kernel_rfl
theorem aNa:(fZ r2).all (λa=>(sU (gu iB)[0]!.head a []).isSome)=true:=by kernel_rfl
theorem aNb:(fZ r2).filter (λa=>((sU (gu iB)[0]!.head a []).getD ([],false)).2)=(fZ r2).take 1:=by kernel_rfl
theorem aNc:ug (gu iB)[0]!.head=true:=by kernel_rfl
theorem Hr(h:s∈[zj,vv,zk,xE,xF,xG,r2,Bj,Bk]):Bi 99 [] s=some (fZ s)/\(fZ s).length<=1000/\kh (fZ s)<=1000:=by
 have:=avR.1 aM2 s h;simp only[Bool.and_eq_true,decide_eq_true_eq]at this;obtain⟨⟨a,b⟩,c⟩:=this;obtain⟨x,ah⟩:=avS.1 a;exact⟨by rw[fZ,ah];rfl,b,c⟩
theorem LK(h:s∈[iB,uq,vw]):Bh 99 [] s=some (gu s)/\∀r∈gu s,∀a∈dx r,cc a<=1000000:=by
 have:=avR.1 aM3 s h;simp only[Bool.and_eq_true,avR,decide_eq_true_eq]at this;obtain⟨b,c⟩:=this;obtain⟨x,ah⟩:=avS.1 b;exact⟨by rw[gu,ah];rfl,c⟩
def DX(l:List aU)(g:List I)(p:I):AV:=.bg [enc (((iz l g).getD ([],0)).1.filter λa=>((sU p a []).getD ([],false)).2),.int .i64 0]
noncomputable def amq:List iZ:=[(21,eh λ(s:ak)=>enc (gu s)),
 (22,eh λ(s:ak)=>enc (fZ s)),
 (14,qF λ(l:List aU)(g:List I)(p:I)=>DX l g p)]
noncomputable def mB:bj:=ij e7 (e1 amq)
instance aPB{D:bj}[h:bt D mB]:bt D e7:=h.ke
theorem Ul{f:Nat}{F:List AV->Option AV}(h:∀xs,e1 amq f xs=F xs)(hk:al4.contains f=false:=by rfl):∀xs,mB f xs=F xs:=λxs=>by rw[<-h];exact kg aL8 hk
variable {D:bj}{x1:AV}{K:AV->Prop}{tg:aN K}
theorem aNd[bt D mB][aT x1 s](h:aA ν aD 21 [enc s] (enc (gu s))):b1 ν aD D 21 [x1] K tg=K (enc (gu s)):=ec (D':=mB) (F:=λ(s:ak)=>enc (gu s)) (Ul λ_=>rfl) h
theorem aNe[bt D mB][aT x1 s](h:aA ν aD 22 [enc s] (enc (fZ s))):b1 ν aD D 22 [x1] K tg=K (enc (fZ s)):=ec (D':=mB) (F:=λ(s:ak)=>enc (fZ s)) (Ul λ_=>rfl) h
theorem aNf[bt D mB]{x2 x3:AV}{l:List aU}{g:List I}{p:I}[aT x1 l][aT x2 g][aT x3 p](h:aA ν aD 14 [enc l,enc g,enc p] (DX l g p)):b1 ν aD D 14 [x1,x2,x3] K tg=K (DX l g p):=u2 (D':=mB) (F:=λ(l:List aU)(g:List I)(p:I)=>DX l g p) (Ul λ_=>rfl) h
theorem aNg:aA ν aD 7 [] (enc true):=by
 have aG:∀(s:ak)(L:List I),s∈[zj,vv,zk,xE,xF,xG,r2,Bj,Bk]->fZ s=L->∀(K:AV->Prop)(tg:aN K),b1 ν aD mB 22 [.str s] K tg=K (enc L):=λs L h e K tg=>e▸aNe (D:=mB) (x1:=.str s) (aM1 99 am (Hr h).1);have f:∀(s:ak)(L:List aU),s∈[iB,uq,vw]->gu s=L->∀(K:AV->Prop)(tg:aN K),b1 ν aD mB 21 [.str s] K tg=K (enc L):=λs L h e K tg=>e▸aNd (D:=mB) (x1:=.str s) (aM0 99 am (LK h).1);have d:=(LK (s:=iB) be).2;have i:=λ{K:AV->Prop}{tg:aN K}=>K5 (D:=mB) (K:=K) (tg:=tg) (x1:=enc (gu iB)) (x2:=enc (fZ zj)) (Lg _ _ d (by rw[amn];rfl));have j:=λ{K:AV->Prop}{tg:aN K}=>K5 (D:=mB) (K:=K) (tg:=tg) (x1:=enc (gu iB)) (x2:=enc (fZ zk)) (Lg _ _ d (by rw[amo];rfl));have k:=λ{K:AV->Prop}{tg:aN K}=>K5 (D:=mB) (K:=K) (tg:=tg) (x1:=enc (gu vw)) (x2:=.aS 2) (l:=gu vw) (a:=[]) (Lg _ [] (LK (s:=vw) be).2 (by rw[amp];rfl));have m:=λ{K:AV->Prop}{tg:aN K}=>aJe (D:=mB) (K:=K) (tg:=tg) (x1:=enc (gu iB)) (x2:=.aS 2) (x3:=(gu iB)[1]!.head.enc) (l:=gu iB) (g:=[]) (a:=(gu iB)[1]!.head) (aJj _ [] _ d aM5 (λA e h=>by have:=of_decide_eq_true aM6;rw[h]at this;exact this));have o:=λ{K:AV->Prop}{tg:aN K}=>aki (D:=mB) (K:=K) (tg:=tg) (x1:=enc (gu uq)) (x2:=.aS 2) (l:=gu uq) (a:=[]) (akj _ [] (LK (s:=uq) be).2 (of_decide_eq_true aM8));have q:=λ{K:AV->Prop}{tg:aN K}=>aNf (D:=mB) (K:=K) (tg:=tg) (x1:=enc (gu iB)) (x2:=enc (fZ vv)) (x3:=(gu iB)[0]!.head.enc) (l:=gu iB) (g:=fZ vv) (p:=(gu iB)[0]!.head) (by
  have:=aML (gu iB) (fZ vv) (gu iB)[0]!.head d Uk (Nat.le_trans (Hr (s:=r2) be).2.1 dw) aNc (R:=λa=>(sU (gu iB)[0]!.head a []).getD ([],false)) (λa aG=>by
   obtain⟨x,ah⟩:=avS.1 (avR.1 aNa a aG);rw[ah];rfl)
  rw[DX,Uk];exact this)
 have t:=λ{K:AV->Prop}{tg:aN K}=>aEw (D:=mB) (K:=K) (tg:=tg) (x1:=enc (fZ xE)) (x2:=enc (fZ xF)) (x3:=enc (fZ xG)) (aEA (fZ xE) (fZ xF) (fZ xG) (Hr be).2 (Hr be).2 (Hr be).2);simp only[DX,amn,Uk,amo,amp,aM4,aM7,aM9,aNb,j8,Option.getD_some]at i j k m o q t;have w:=f iB _ be rfl;have y:=f uq _ be rfl;have z:=f vw _ be rfl;have B:=aG zj _ be rfl;have C:=aG vv _ be rfl;have E:=aG zk _ be rfl;have F:=aG xE _ be rfl;have G:=aG xF _ be rfl;have J:=aG xG _ be rfl;have O:=aG r2 _ be rfl;have b:=aG Bj _ be rfl;have c:=aG Bk _ be rfl;have P:(gu iB).length=2:=by kernel_rfl
 have Q:(fZ r2).length=4:=by kernel_rfl
 have S:∀L:List I,gD L L=true:=λL=>(FN L L).2 rfl;generalize gu iB=T,gu uq=V,gu vw=W,fZ zj=oB,fZ vv=zD,fZ zk=X,fZ xE=Y,fZ xF=Z,fZ xG=aPJ,fZ r2=xj,fZ Bj=aPK,fZ Bk=aPL at *;unfold iB at w;unfold uq at y;unfold vw at z;unfold zj at B;unfold vv at C;unfold zk at E;unfold xE at F;unfold xF at G;unfold xG at J;unfold r2 at O;unfold Bj at b;unfold Bk at c;have u:(1:Int)<=(xj.length:Int):=by omega
 have Ub:∀R:List aU,(enc R:AV)=.list none 3 (R.map aU.enc):=λ_=>rfl;have Uc:∀R:List I,(enc R:AV)=.list none 2 (R.map I.enc):=λ_=>rfl;simp only[Ub,Uc]at i j k m o q t;refine aA.intro (D:=mB) ax3 rfl rfl ?_;unfold Yj
 (repeat' first|simp(disch:=first|exact ai|fail) only[go_sem,w,y,z,B,C,E,F,G,J,O,b,c,i,j,k,m,o,q,t,P,u,S]|(refine ao ?_ ?_<;>intro))
end AM
