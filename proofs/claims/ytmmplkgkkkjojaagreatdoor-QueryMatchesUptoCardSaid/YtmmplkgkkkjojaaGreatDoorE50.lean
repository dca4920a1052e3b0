/- What functions of the given program do, as calls of the machine. Conditions: names and lists are bounded where that is said. -/
import Derived.Test.YtmmplkgkkkjojaaGreatDoorE1
import Derived.Test.YtmmplkgkkkjojaaGreatDoorAm9
import Derived.Test.YtmmplkgkkkjojaaGreatDoorE82
set_option linter.unusedSimpArgs false
set_option maxRecDepth 100000
set_option maxHeartbeats 4000000
set_option linter.unusedVariables false
namespace AM
open List renaming map_append -> aKQ,map_nil -> aKR,length_map -> aKS,foldr_cons -> aKT,foldr_nil -> aKU,take_zero -> aKY,map_cons -> aKZ,length_cons -> aK1,set_set -> aK3,suffix_rfl -> aK4,length_pos_iff -> aK6,set_cons_zero -> aK7,all_eq_true -> aK8,take_of_length_le -> aLa
open Int renaming natCast_add -> aKV,natCast_one -> aKW,natCast_zero -> aKX
open Nat renaming le_refl -> aK0
open Bool renaming and_eq_true -> aK2,false_eq_true -> aK5
open Option renaming isSome_iff_exists -> aK9
open Go Go.Proofs
open Tryz renaming prog -> ν
open Enc (enc)
variable {H:List ay}{x:Nat}
theorem aMT{o:ay}(h:H[x]?=some o):H.set x o=H:=by
 obtain⟨a,b⟩:=List.getElem?_eq_some_iff.1 h;rw[<-b];exact List.set_getElem_self a
variable {s r:ak}
theorem amk(h:H[x]?=some (ep s r))(ax:r <:+ s)(n:s.length<=M) :
  bB ν aD 101 [.ptr x 0] H λv H'=>v=.bg []/\H'=H.set x (ep s (q3 r)):=by
 have o:M=1099511627776:=rfl;have ah:=dq h;refine bB.intro (D:=na) afk ?_;unfold Pr
 (repeat' first|refine ag ?_|(refine ao ?_ ?_<;>intro))
 refine bQ (λq:ak=>⟨N [(0,.v (.ptr x 0))],H.set x (ep s q)⟩) (λq=>q <:+ s/\q3 q=q3 r) (λq=>q.length) r ⟨ax,rfl⟩ (rm (aMT h)) ?_;rintro q ⟨k,a⟩;cases q with
 |nil =>
  have b:s.length-([]:ak).length=s.length:=rfl
  (repeat' first|simp(disch:=first|exact ai|fail) only[go_sem,ep,b]|(refine ao ?_ ?_<;>intro))
  exact⟨_,rfl,rfl,by rw[<-a];rfl⟩
 |cons c q =>
  obtain⟨p,e,l,f⟩:=Ui k;obtain⟨j,g⟩:∃j,j=s.length-(q.length+1):=⟨_,rfl⟩;have b:s.length-(q.length+1)=j:=g.symm;rw[<-g]at e f;rw[q3]at a;have i:l6 c=true->∃d,(d <:+ s/\q3 d=q3 r)/\d.length<(c::q).length/\(⟨N [(0,.v (.ptr x 0))],(H.set x (.cells [.str s,.int .i64 (j:Int)])).set x (.cells [.str s,.int .i64 ((j:Int)+1)])⟩:au)=⟨N [(0,.v (.ptr x 0))],H.set x (.cells [.str s,.int .i64 ((s.length-d.length:Nat):Int)])⟩:=λm=>by
   rw[if_pos m]at a;exact⟨q,⟨l,a⟩,be,by rw[aK3,<-f];rfl⟩
  (repeat' first|simp(disch:=first|exact ai|fail) only[go_sem,ep,b,e]|(refine ao ?_ ?_<;>intro))
  ·exact i (by simp[l6];omega)
  ·exact i (by simp[l6];omega)
  ·rw[if_neg (by simp[l6];omega)]at a;exact⟨_,rfl,rfl,by rw[<-a,aK1,b]⟩
theorem aMU(h:H[x]?=some (ep s r))(ax:r <:+ s)(k:s.length<=M)(c:Nat) :
  bB ν aD 65 [.ptr x 0,.int .u8 c] H λv H'=>v=.bool (hJ c r).1/\H'=H.set x (ep s (hJ c r).2):=by
 have l:M=1099511627776:=rfl;have ah:=dq h;have t:=amk h ax k;have e:=(Hn r).trans ax;refine bB.intro (D:=na) ayE ?_;unfold aan;cases ae:q3 r with
 |nil =>
  have b:s.length-([]:ak).length=s.length:=rfl;have a:hJ c r=(false,[]):=by rw[hJ,ae]
  rw[ae]at t
  (repeat' first|simp(disch:=first|exact ai|fail) only[go_sem,ep,b]|(refine ao ?_ ?_<;>intro)|refine cA t ?_)
  exact⟨_,rfl,by rw[a],by rw[a];rfl⟩
 |cons d q =>
  rw[ae]at t e;obtain⟨m,f,n,g⟩:=Ui e;obtain⟨j,i⟩:∃j,j=s.length-(q.length+1):=⟨_,rfl⟩;have b:s.length-(q.length+1)=j:=i.symm;rw[<-i]at f g
  (repeat' first|simp(disch:=first|exact ai|fail) only[go_sem,ep,b,f]|(refine ao ?_ ?_<;>intro)|refine cA t ?_)
  ·have a:hJ c r=(true,q):=by rw[hJ,ae];exact if_pos am
   exact⟨_,rfl,by rw[a],by rw[a,aK3];show _=H.set x (.cells [.str s,.int .i64 ((s.length-q.length:Nat):Int)]);rw[<-g];rfl⟩
  ·have a:hJ c r=(false,d::q):=by rw[hJ,ae];exact if_neg am
   exact⟨_,rfl,by rw[a],by rw[a];show _=H.set x (.cells [.str s,.int .i64 ((s.length-(q.length+1):Nat):Int)]);rw[b]⟩
theorem aMV(h:H[x]?=some (ep s r))(ax:r <:+ s)(z:s.length<=M) :
  bB ν aD 62 [.ptr x 0] H λv H'=>v=.str (lq r).1/\H'=H.set x (ep s (lq r).2):=by
 have L:M=1099511627776:=rfl;have ah:=dq h;have t:=amk h ax z;have l:=(Hn r).trans ax;obtain⟨b,ae⟩:∃b,b=q3 r:=⟨_,rfl⟩;have A:lq r=(sX b,sY b):=by rw[lq,ae]
 rw[A];rw[<-ae]at t l;obtain⟨i,al⟩:∃i,i=s.length-b.length:=⟨_,rfl⟩;have O:=Ho l;refine bB.intro (D:=na) ayC ?_;unfold aag
 (repeat' first|simp(disch:=first|exact ai|fail) only[go_sem,ep,<-al]|(refine ao ?_ ?_<;>intro)|refine cA t ?_)
 refine bQ (λq:ak=>⟨N [(0,.v (.ptr x 0)),(3,.v (.int .i64 i))],H.set x (ep s q)⟩) (λq=>q <:+ b/\sY q=sY b/\b.take (b.length-q.length)++sX q=sX b) (λq=>q.length) b ⟨aK4,rfl,be⟩ (by(try simp(disch:=first|exact ai|fail) only[go_sem])<;>(first|rfl|(simp(disch:=first|exact aX|fail) only[b7,aKT,aKU,Env.ins,cp,cq,cr,ct,cu,cv,cw,cx,I.b0,aKS,aKV,aKW,aKX,aKY,bL,aKQ,aKZ,aKR,cy,cz,go_sem,ep,al];try rfl))) ?_;rintro q ⟨m,d,e⟩;have o:=m.trans l;have df:=Ho m;have bI:∀k,k<=b.length->(s.take (i+k)).drop i=b.take k:=λk hk=>by
  obtain⟨p,rfl⟩:=l;have:i=p.length:=by rw[al];simp
  subst this;rw[List.take_add,List.take_left,List.drop_left,List.drop_left]
 cases q with
 |nil =>
  have f:s.length-([]:ak).length=s.length:=rfl;have B:sX b=b:=by rw[<-e];simp[sX]
  have C:(s.take s.length).drop i=b:=by
   have:=bI b.length (aK0 _);rwa[show i+b.length=s.length by omega,aLa (aK0 b.length)]at this
  (repeat' first|simp(disch:=first|exact ai|fail) only[go_sem,ep,f,C,Nat.sub_zero]|(refine ao ?_ ?_<;>intro))
  exact⟨_,rfl,by rw[B],by rw[<-d];rfl⟩
 |cons c q =>
  obtain⟨P,u,Q,w⟩:=Ui o;obtain⟨j,y⟩:∃j,j=s.length-(q.length+1):=⟨_,rfl⟩;have f:s.length-(q.length+1)=j:=y.symm;rw[<-y]at u w;have E:q <:+ b:=(List.suffix_cons c q).trans m;have F:Bg c=true->∃a,(a <:+ b/\sY a=sY b/\b.take (b.length-a.length)++sX a=sX b)/\a.length<(c::q).length/\(⟨N [(0,.v (.ptr x 0)),(3,.v (.int .i64 i))],(H.set x (.cells [.str s,.int .i64 (j:Int)])).set x (.cells [.str s,.int .i64 ((j:Int)+1)])⟩:au)=⟨N [(0,.v (.ptr x 0)),(3,.v (.int .i64 i))],H.set x (.cells [.str s,.int .i64 ((s.length-a.length:Nat):Int)])⟩:=λg=>by
   rw[sY,if_pos g]at d;rw[sX,if_pos g]at e;refine⟨q,⟨E,d,?_⟩,be,by rw[aK3,<-w];rfl⟩;rw[<-e];obtain⟨p,rfl⟩:=m;rw[show(p++c::q).length-q.length=(p++[c]).length by simp only[List.length_append,aK1,List.length_nil];omega,show(p++c::q).length-(c::q).length=p.length by simp,List.take_left,show p++c::q=(p++[c])++q by simp,List.take_left];simp
  have fin:Bg c=false->(s.take j).drop i=sX b/\ep s (sY b)=.cells [.str s,.int .i64 (j:Int)]:=λg=>by
   rw[sY,if_neg (by rw[g];simp)]at d;rw[sX,if_neg (by rw[g];simp),List.append_nil]at e;rw[aK1]at df;refine⟨?_,by rw[<-d,ep,aK1,f]⟩;have:=bI (b.length-(q.length+1)) am;rw[show i+(b.length-(q.length+1))=j by omega]at this;rw[this];exact e
  cases n:Bg c with
  |true =>
   have G:=F n
   (repeat' first|simp(disch:=first|exact ai|fail) only[go_sem,ep,f,u]|(refine ao ?_ ?_<;>intro))
   all_goals first
    |exact G|(exfalso;simp[Bg]at n;omega)
  |false =>
   obtain⟨J,K⟩:=fin n;have R:i<=j:=by rw[aK1]at df;omega
   have S:j<=s.length:=by omega
   (repeat' first|simp(disch:=first|exact ai|fail) only[go_sem,ep,f,u,J]|(refine ao ?_ ?_<;>intro))
   all_goals first
    |(exfalso;simp[Bg]at n;omega)|exact⟨_,rfl,rfl,by rw[<-K];rfl⟩
section
variable {H:List ay}{x:Nat}{s r:ak}(ah:x<H.length)(ax:r <:+ s)(bw:s.length<=M)
include ah ax bw
theorem DT(c:Nat):bB ν aD 65 [.ptr x 0,.int .u8 c] (H.set x (ep s r)) λv H'=>v=.bool (hJ c r).1/\H'=H.set x (ep s (hJ c r).2):=by
 have t:=aMU (H:=H.set x (ep s r)) (dV ah) ax bw c;rw[aK3]at t;exact t
theorem DU:bB ν aD 62 [.ptr x 0] (H.set x (ep s r)) λv H'=>v=.str (lq r).1/\H'=H.set x (ep s (lq r).2):=by
 have t:=aMV (H:=H.set x (ep s r)) (dV ah) ax bw;rw[aK3]at t;exact t
end
variable {n:ak}{v:AV}
theorem DV{l:List I}(h:bx v (.list none 2 (l.map I.enc))):bx (.agg [.str n,v]) (enc (I.mk n l)):=by
 have e:(enc (I.mk n l):AV)=.agg [.str n,.list none 2 (l.map I.enc)]:=by show(I.mk n l).enc=_;rw[I.qC];rfl
 rw[e];exact bx.agg (.cons (bx.refl _) (.cons h .nil))
theorem aMX(e:Nat)(l:List I):(vu e l=.aS 2/\l=[])\/vu e l=.list (some e) 2 (l.map I.enc):=by
 unfold vu;split
 ·rename_i h;exact .inl ⟨rfl,h⟩
 ·exact .inr rfl
theorem aml(e:Nat)(l:List I)(t:I):vu e (l++[t])=.list (some e) 2 (l.map I.enc++[t.enc]):=by
 rw[vu,if_neg be,aKQ];rfl
theorem Hp:∀(k f:Nat),f<=k->k<=1000000->∀{n r:ak}{t:I}{q:ak}{H:List ay}{x:Nat}{s:ak},zg f n r=some (t,q)->x<H.length->r <:+ s->s.length<=M ->
  bB ν aD 64 [.ptr x 0,.str n] (H.set x (ep s r)) λv H'=>v=enc t/\H'=H.set x (ep s q)
 |k,0,_,_,n,r,t,q,H,x,s,h,_,_,_=>by cases h|0,f+1,hk,_,n,r,t,q,H,x,s,h,_,_,_=>by omega|k+1,f+1,hk,Z,n,r,t,q,H,x,s,h,ah,ax,m=>by
  have cP:M=1099511627776:=rfl;have y:=DT ah ax m 40;have T:=(um 40 r).trans ax;rw[zg]at h;refine bB.kX (bB.intro (D:=na) afc ?_);unfold Pk;cases K:(hJ 40 r).1 with
  |false =>
   rw[K]at h y;simp only[aK5,if_false,Option.some.injEq,Prod.mk.injEq]at h;obtain⟨rfl,rfl⟩:=h
   (repeat' first|simp(disch:=first|exact ai|fail) only[go_sem]|(refine ao ?_ ?_<;>intro)|refine cA y ?_)
   exact⟨_,rfl,enc (I.mk n []),DV (bx.aS 2),Enc.iI _,dl⟩
  |true =>
   rw[K]at h y;rw[if_pos rfl]at h;split at h
   ·cases h
   ·rename_i L Q e;simp only[Option.some.injEq,Prod.mk.injEq]at h;obtain⟨rfl,rfl⟩:=h
    (repeat' first|simp(disch:=first|exact ai|fail) only[go_sem]|(refine ao ?_ ?_<;>intro)|refine cA y ?_)
    refine bQ (λi:Nat×List I×ak=>⟨N [(0,.v (.ptr x 0)),(4,.b [.str [],.aS 2]),(5,.b [.str n,vu 25 i.2.1])],H.set x (ep s i.2.2)⟩) (λi=>DR i.1 i.2.1 i.2.2=some (L,Q)/\i.1<=f/\i.2.1.length+i.1<=f/\i.2.2 <:+ s) (λi=>i.1) (f,[],(hJ 40 r).2) ⟨e,aK0 _,be,T⟩ (by(try simp(disch:=first|exact ai|fail) only[go_sem])<;>(first|rfl|(simp(disch:=first|exact aX|fail) only[b7,aKT,aKU,Env.ins,cp,cq,cr,ct,cu,cv,cw,cx,I.b0,aKS,aKV,aKW,aKX,aKY,bL,aKQ,aKZ,aKR,cy,cz,go_sem,vu];try rfl))) ?_;rintro⟨g,l,p⟩ ⟨a,V,W,u⟩;simp only at a V W u;cases g with
    |zero=>cases a|succ g =>
     rw[DR]at a;obtain⟨j,w⟩:∃j,j=s.length-p.length:=⟨_,rfl⟩;obtain⟨c,z⟩:∃c,c=vu 25 l:=⟨_,rfl⟩;have A:=aMX 25 l;rw[<-z]at A;have G:=aMR 25 l;rw[<-z]at G;have vS:=Ho u;by_cases ar:p=[]
     ·rw[if_pos ar]at a;simp only[Option.some.injEq,Prod.mk.injEq]at a;obtain⟨rfl,rfl⟩:=a;subst ar;have d:=DT ah u m 41;have X:s.length-([]:ak).length=s.length:=rfl;rw[<-z];rcases A with⟨b,B⟩|b
      all_goals rw[b]at G ⊢
      all_goals (repeat' first|simp(disch:=first|exact ai|fail) only[go_sem,ep,X,Nat.sub_zero]|(refine ao ?_ ?_<;>intro)|refine cA d ?_)
      all_goals exact⟨_,rfl,enc (I.mk n l),(by first|exact DV G|exact DV (bx.refl _)),Enc.iI _,dl⟩
     ·rw[if_neg ar]at a;have C:decide ((j:Int)<s.length)=true:=decide_eq_true (by have:=aK6.2 ar;omega);split at a
      ·cases a
      ·rename_i o E O;have ba:=DU ah u m;rw[show ep s p=.cells [.str s,.int .i64 (j:Int)] by rw[ep,w]]at ba;have P:=(xC p).trans u;have F:=Hp k g am am O ah P m;have R:=(zh O).trans P;have d:=DT ah R m 44;have J:=(um 44 E).trans R;have t3:=DT ah J m 41;rw[<-z];cases S:(hJ 44 E).1 with
       |true =>
        rw[S]at a d;rw[if_pos rfl]at a;rcases A with⟨b,B⟩|b
        ·rw[b]
         (repeat' first|simp(disch:=first|exact ai|fail) only[go_sem,ep,<-w,C]|(refine ao ?_ ?_<;>intro)|refine cA ba ?_|refine cA F ?_|refine cA d ?_)
         exact⟨(g,l++[o],(hJ 44 E).2),⟨a,am,dw,J⟩,be,by(first|rfl|(simp(disch:=first|exact aX|fail) only[b7,aKT,aKU,Env.ins,cp,cq,cr,ct,cu,cv,cw,cx,I.b0,aKS,aKV,aKW,aKX,aKY,bL,aKQ,aKZ,aKR,cy,cz,go_sem,aml,B,ep,List.nil_append];try rfl))⟩
        ·rw[b]
         (repeat' first|simp(disch:=first|exact ai|fail) only[go_sem,ep,<-w,C]|(refine ao ?_ ?_<;>intro)|refine cA ba ?_|refine cA F ?_|refine cA d ?_)
         exact⟨(g,l++[o],(hJ 44 E).2),⟨a,am,dw,J⟩,be,by(first|rfl|(simp(disch:=first|exact aX|fail) only[b7,aKT,aKU,Env.ins,cp,cq,cr,ct,cu,cv,cw,cx,I.b0,aKS,aKV,aKW,aKX,aKY,bL,aKQ,aKZ,aKR,cy,cz,go_sem,aml,ep];try rfl))⟩
       |false =>
        rw[S]at a d;simp only[aK5,if_false,Option.some.injEq,Prod.mk.injEq]at a;obtain⟨rfl,rfl⟩:=a;have Y:bx (.list (some 25) 2 (l.map I.enc++[o.enc])) (.list none 2 ((l++[o]).map I.enc)):=by rw[aKQ];exact bx.disown _ _ _
        rcases A with⟨b,B⟩|b
        ·rw[b]
         (repeat' first|simp(disch:=first|exact ai|fail) only[go_sem,ep,<-w,C]|(refine ao ?_ ?_<;>intro)|refine cA ba ?_|refine cA F ?_|refine cA d ?_|refine cA t3 ?_)
         exact⟨_,rfl,enc (I.mk n (l++[o])),DV (by rw[B];exact bx.refl _),Enc.iI _,dl⟩
        ·rw[b]
         (repeat' first|simp(disch:=first|exact ai|fail) only[go_sem,ep,<-w,C]|(refine ao ?_ ?_<;>intro)|refine cA ba ?_|refine cA F ?_|refine cA d ?_|refine cA t3 ?_)
         exact⟨_,rfl,enc (I.mk n (l++[o])),(by first|exact DV Y|exact DV (by rw[aKQ];exact bx.refl _)),Enc.iI _,dl⟩
open Enc (enc)
theorem aMY(e:Nat)(l:List AV):(uo e l=.aS 3/\l=[])\/uo e l=.list (some e) 3 l:=by
 unfold uo;split
 ·rename_i h;exact .inl ⟨rfl,h⟩
 ·exact .inr rfl
theorem Hq(e:Nat)(l:List AV)(t:AV):uo e (l++[t])=.list (some e) 3 (l++[t]):=by
 rw[uo,if_neg be]
theorem amm(e:Nat)(t:AV):uo e [t]=.list (some e) 3 [t]:=Hq e [] t
variable {t:I}
theorem zi{b:List Lit}(h:bx v (.list none 3 (b.map Lit.enc))):bx (.agg [.str t.name,.list none 2 (t.args.map I.enc),v]) (enc (aU.mk t b)) :=
 bx.agg (.cons (bx.refl _) (.cons (bx.refl _) (.cons h .nil)))
variable {q:ak}
theorem aMZ(f:Nat)(aW:f<=1000000){y:aU}(h:Hm f n r=some (y,q))(ah:x<H.length)(ax:r <:+ s)(w:s.length<=M) :
  bB ν aD 63 [.ptr x 0,.str n] (H.set x (ep s r)) λv H'=>v=enc y/\H'=H.set x (ep s q):=by
 have cP:M=1099511627776:=rfl;unfold Hm at h;split at h
 ·cases h
 rename_i t aj Z;split at h
 ·cases h
 rename_i b av aR;simp only[Option.some.injEq,Prod.mk.injEq]at h;obtain⟨rfl,rfl⟩:=h;have t1:=Hp f f (aK0 _) aW Z ah ax w;have s1:=(zh Z).trans ax;refine bB.kX (bB.intro (D:=na) ayD ?_);unfold aai
 (repeat' first|simp(disch:=first|exact ai|fail) only[go_sem]|(refine ao ?_ ?_<;>intro)|refine cA t1 ?_)
 refine bQ (λi:Nat×List Lit×ak=>⟨N [(0,.v (.ptr x 0)),(4,.b [.str [],.aS 2,.aS 3]),(5,.b [.str t.name,.list none 2 (t.args.map I.enc),uo 63 (i.2.1.map Lit.enc)])],H.set x (ep s i.2.2)⟩) (λi=>DS i.1 i.2.1 i.2.2=some (b,av)/\i.2.1.length+i.1<=f/\i.2.2 <:+ s) (λi=>i.1) (f,[],aj) ⟨aR,be,s1⟩ (by(try simp(disch:=first|exact ai|fail) only[go_sem])<;>(first|rfl|(simp(disch:=first|exact aX|fail) only[b7,aKT,aKU,Env.ins,cp,cq,cr,ct,cu,cv,cw,cx,I.b0,aKS,aKV,aKW,aKX,aKY,bL,aKQ,aKZ,aKR,cy,cz,go_sem,uo,aKR];try rfl))) ?_;rintro⟨g,l,p⟩ ⟨a,i3,R⟩;simp only at a i3 R;cases g with
 |zero=>cases a|succ g =>
  rw[DS]at a;obtain⟨j,u⟩:∃j,j=s.length-p.length:=⟨_,rfl⟩;obtain⟨c,S⟩:∃c,c=uo 63 (l.map Lit.enc):=⟨_,rfl⟩;have z:=aMY 63 (l.map Lit.enc);rw[<-S]at z;have k:=aMS 63 (l.map Lit.enc);rw[<-S]at k;have vS:=Ho R;rw[<-S];by_cases ar:p=[]
  ·rw[if_pos ar]at a;simp only[Option.some.injEq,Prod.mk.injEq]at a;obtain⟨rfl,rfl⟩:=a;subst ar;have e0:s.length-([]:ak).length=s.length:=rfl;rcases z with⟨d,A⟩|d
   all_goals rw[d]at k ⊢
   all_goals (repeat' first|simp(disch:=first|exact ai|fail) only[go_sem,ep,e0,Nat.sub_zero]|(refine ao ?_ ?_<;>intro))
   all_goals exact⟨_,rfl,enc (aU.mk t l),ip,Enc.iI _,dl⟩
  ·rw[if_neg ar]at a;have B:decide ((j:Int)<s.length)=true:=decide_eq_true (by have:=aK6.2 ar;omega);have e:=DT ah R w 46;have s2:=(um 46 p).trans R;rw[show ep s p=.cells [.str s,.int .i64 (j:Int)] by rw[ep,u]]at e;cases aF:(hJ 46 p).1 with
   |true =>
    rw[aF]at a e;simp only[if_true,Option.some.injEq,Prod.mk.injEq]at a;obtain⟨rfl,rfl⟩:=a;rcases z with⟨d,A⟩|d
    all_goals rw[d]at k ⊢
    all_goals (repeat' first|simp(disch:=first|exact ai|fail) only[go_sem,ep,<-u,B]|(refine ao ?_ ?_<;>intro)|refine cA e ?_)
    all_goals exact⟨_,rfl,enc (aU.mk t l),ip,Enc.iI _,dl⟩
   |false =>
    rw[aF]at a e;simp only[aK5,if_false]at a;have ba:=DU ah s2 w;have j2:=(xC (hJ 46 p).2).trans s2;have C:=DU ah j2 w;have rl:=(xC (lq (hJ 46 p).2).2).trans j2;have E:=(ami (xA p)).trans rl;obtain⟨W,eY⟩:∃W,W=xA p:=⟨_,rfl⟩;have J:=DU ah rl w;rw[show lq (lq (hJ 46 p).2).2=W from eY.symm]at C J;rw[<-eY]at a E;obtain⟨V,T⟩:∃V,V=xB W:=⟨_,rfl⟩;rw[<-T]at a E;by_cases G:W.1=[110,111,116]
    ·have X:V=lq W.2:=by rw[T,xB,if_pos G]
     rw[<-X]at J;have F:(W.1==([110,111,116]:ak))=true:=by rw[G];rfl
     rw[show decide (W.1=[110,111,116])=true from decide_eq_true G]at a;by_cases m:V.1=[]
     ·have o:(V.1==([]:ak))=true:=by rw[m];rfl
      rw[if_pos m]at a;simp only[Option.some.injEq,Prod.mk.injEq]at a;obtain⟨rfl,rfl⟩:=a;rcases z with⟨d,A⟩|d
      all_goals rw[d]at k ⊢
      all_goals (repeat' first|simp(disch:=first|exact ai|fail) only[go_sem,ep,<-u,B,F,o]|(refine ao ?_ ?_<;>intro)|refine cA e ?_|refine cA ba ?_|refine cA C ?_|refine cA J ?_)
      all_goals exact⟨_,rfl,enc (aU.mk t l),ip,Enc.iI _,dl⟩
     ·have o:(V.1==([]:ak))=false:=beq_eq_false_iff_ne.2 m;rw[if_neg m]at a;split at a
      ·cases a
      ·rename_i K L O;have P:=Hp g g (aK0 _) am O ah E w;have Q:=(zh O).trans E;have Y:(l.map Lit.enc).length<=1000000:=by rw[aKS];omega
       rcases z with⟨d,A⟩|d
       ·rw[d]
        (repeat' first|simp(disch:=first|exact ai|fail) only[go_sem,ep,<-u,B,F,o]|(refine ao ?_ ?_<;>intro)|refine cA e ?_|refine cA ba ?_|refine cA C ?_|refine cA J ?_|refine cA P ?_)
        exact⟨(g,l++[⟨true,K⟩],L),⟨a,dw,Q⟩,be,by(first|rfl|(simp(disch:=first|exact aX|fail) only[b7,aKT,aKU,Env.ins,cp,cq,cr,ct,cu,cv,cw,cx,I.b0,aKS,aKV,aKW,aKX,aKY,bL,aKQ,aKZ,aKR,cy,cz,go_sem,Hq,amm,A,Lit.enc,ep,List.nil_append];try rfl))⟩
       ·rw[d]
        (repeat' first|simp(disch:=first|exact ai|fail) only[go_sem,ep,<-u,B,F,o]|(refine ao ?_ ?_<;>intro)|refine cA e ?_|refine cA ba ?_|refine cA C ?_|refine cA J ?_|refine cA P ?_)
        exact⟨(g,l++[⟨true,K⟩],L),⟨a,dw,Q⟩,be,by(first|rfl|(simp(disch:=first|exact aX|fail) only[b7,aKT,aKU,Env.ins,cp,cq,cr,ct,cu,cv,cw,cx,I.b0,aKS,aKV,aKW,aKX,aKY,bL,aKQ,aKZ,aKR,cy,cz,go_sem,Hq,Lit.enc,ep];try rfl))⟩
    ·have X:V=W:=by rw[T,xB,if_neg G]
     rw[X]at a E;have F:(W.1==([110,111,116]:ak))=false:=beq_eq_false_iff_ne.2 G;rw[show decide (W.1=[110,111,116])=false from decide_eq_false G]at a;by_cases m:W.1=[]
     ·have o:(W.1==([]:ak))=true:=by rw[m];rfl
      rw[if_pos m]at a;simp only[Option.some.injEq,Prod.mk.injEq]at a;obtain⟨rfl,rfl⟩:=a;rcases z with⟨d,A⟩|d
      all_goals rw[d]at k ⊢
      all_goals (repeat' first|simp(disch:=first|exact ai|fail) only[go_sem,ep,<-u,B,F,o]|(refine ao ?_ ?_<;>intro)|refine cA e ?_|refine cA ba ?_|refine cA C ?_)
      all_goals exact⟨_,rfl,enc (aU.mk t l),ip,Enc.iI _,dl⟩
     ·have o:(W.1==([]:ak))=false:=beq_eq_false_iff_ne.2 m;rw[if_neg m]at a;split at a
      ·cases a
      ·rename_i K L O;have P:=Hp g g (aK0 _) am O ah E w;have Q:=(zh O).trans E;have Y:(l.map Lit.enc).length<=1000000:=by rw[aKS];omega
       rcases z with⟨d,A⟩|d
       ·rw[d]
        (repeat' first|simp(disch:=first|exact ai|fail) only[go_sem,ep,<-u,B,F,o]|(refine ao ?_ ?_<;>intro)|refine cA e ?_|refine cA ba ?_|refine cA C ?_|refine cA P ?_)
        exact⟨(g,l++[⟨false,K⟩],L),⟨a,dw,Q⟩,be,by(first|rfl|(simp(disch:=first|exact aX|fail) only[b7,aKT,aKU,Env.ins,cp,cq,cr,ct,cu,cv,cw,cx,I.b0,aKS,aKV,aKW,aKX,aKY,bL,aKQ,aKZ,aKR,cy,cz,go_sem,Hq,amm,A,Lit.enc,ep,List.nil_append];try rfl))⟩
       ·rw[d]
        (repeat' first|simp(disch:=first|exact ai|fail) only[go_sem,ep,<-u,B,F,o]|(refine ao ?_ ?_<;>intro)|refine cA e ?_|refine cA ba ?_|refine cA C ?_|refine cA P ?_)
        exact⟨(g,l++[⟨false,K⟩],L),⟨a,dw,Q⟩,be,by(first|rfl|(simp(disch:=first|exact aX|fail) only[b7,aKT,aKU,Env.ins,cp,cq,cr,ct,cu,cv,cw,cx,I.b0,aKS,aKV,aKW,aKX,aKY,bL,aKQ,aKZ,aKR,cy,cz,go_sem,Hq,Lit.enc,ep];try rfl))⟩
theorem aM0(f:Nat)(z:f<=1000000){L:List aU}(h:Bh f [] s=some L):aA ν aD 33 [enc s] (enc L):=by
 refine aA.h4 λb=>?_;have A:M=1099511627776:=rfl;have b:s.length<=M:=b;refine aA.gK (D:=na) V2 cX rfl (Enc.iI _) ?_;unfold tI;refine ag ?_;refine bQ (λi:Nat×List aU×ak=>⟨N [(3,.v (.ptr 0 0)),(4,.v (.list (some 61) 3 (i.2.1.map aU.enc)))],[ep s i.2.2]⟩) (λi=>Bh i.1 i.2.1 i.2.2=some L/\i.2.1.length+i.1<=f/\i.2.2 <:+ s) (λi=>i.1) (f,[],s) ⟨h,be,aK4⟩ (by(try simp(disch:=first|exact ai|fail) only[go_sem])<;>(first|rfl|(simp(disch:=first|exact aX|fail) only[b7,aKT,aKU,Env.ins,cp,cq,cr,ct,cu,cv,cw,cx,I.b0,aKS,aKV,aKW,aKX,aKY,bL,aKQ,aKZ,aKR,cy,cz,go_sem,aKR,ep,Nat.sub_self];try rfl))) ?_;rintro⟨g,l,p⟩ ⟨a,o,d⟩;simp only at a o d;cases g with
 |zero=>cases a|succ g =>
  rw[Bh]at a;have ba:=DU (H:=[ay.dead]) (x:=0) f8 d b;have j:=(xC p).trans d;obtain⟨W,u⟩:∃W,W=lq p:=⟨_,rfl⟩;rw[<-u]at a ba j;simp only[aK7]at ba;by_cases c:W.1=[]
  ·have k:(W.1==([]:ak))=true:=by rw[c];rfl
   rw[if_pos c]at a;simp only[Option.some.injEq]at a;subst a
   (repeat' first|simp(disch:=first|exact ai|fail) only[go_sem,k]|(refine ao ?_ ?_<;>intro)|refine cA ba ?_)
   exact⟨_,rfl,el⟩
  ·have k:(W.1==([]:ak))=false:=beq_eq_false_iff_ne.2 c;rw[if_neg c]at a;split at a
   ·cases a
   ·rename_i y q e;have m:=aMZ g am (H:=[ay.dead]) (x:=0) e f8 j b;simp only[aK7]at m;have w:=(aMQ e).trans j
    (repeat' first|simp(disch:=first|exact ai|fail) only[go_sem,k]|(refine ao ?_ ?_<;>intro)|refine cA ba ?_|refine cA m ?_)
    exact⟨(g,l++[y],q),⟨a,dw,w⟩,be,by(first|rfl|(simp(disch:=first|exact aX|fail) only[b7,aKT,aKU,Env.ins,cp,cq,cr,ct,cu,cv,cw,cx,I.b0,aKS,aKV,aKW,aKX,aKY,bL,aKQ,aKZ,aKR,cy,cz,go_sem,ep];try rfl))⟩
variable {L:List I}
theorem aM1(f:Nat)(E:f<=1000000)(h:Bi f [] s=some L):aA ν aD 34 [enc s] (enc L):=by
 refine aA.h4 λb=>?_;have F:M=1099511627776:=rfl;have b:s.length<=M:=b;refine aA.gK (D:=na) ayj cX rfl (Enc.iI _) ?_;unfold Zg;refine ag ?_;refine bQ (λi:Nat×List I×ak=>⟨N [(3,.v (.ptr 0 0)),(4,.v (.list (some 25) 2 (i.2.1.map I.enc)))],[ep s i.2.2]⟩) (λi=>Bi i.1 i.2.1 i.2.2=some L/\i.2.1.length+i.1<=f/\i.2.2 <:+ s) (λi=>i.1) (f,[],s) ⟨h,be,aK4⟩ (by(try simp(disch:=first|exact ai|fail) only[go_sem])<;>(first|rfl|(simp(disch:=first|exact aX|fail) only[b7,aKT,aKU,Env.ins,cp,cq,cr,ct,cu,cv,cw,cx,I.b0,aKS,aKV,aKW,aKX,aKY,bL,aKQ,aKZ,aKR,cy,cz,go_sem,aKR,ep,Nat.sub_self];try rfl))) ?_;rintro⟨g,l,p⟩ ⟨a,A,d⟩;simp only at a A d;cases g with
 |zero=>cases a|succ g =>
  rw[Bi]at a;obtain⟨j,k⟩:∃j,j=s.length-p.length:=⟨_,rfl⟩;have G:=Ho d;by_cases ar:p=[]
  ·rw[if_pos ar]at a;simp only[Option.some.injEq]at a;subst a;subst ar;have B:s.length-([]:ak).length=s.length:=rfl
   (repeat' first|simp(disch:=first|exact ai|fail) only[go_sem,ep,B,Nat.sub_zero]|(refine ao ?_ ?_<;>intro))
   exact⟨_,rfl,el⟩
  ·rw[if_neg ar]at a;have o:decide ((j:Int)<s.length)=true:=decide_eq_true (by have:=aK6.2 ar;omega);have ba:=DU (H:=[ay.dead]) (x:=0) f8 d b;have u:=(xC p).trans d;rw[show ep s p=.cells [.str s,.int .i64 (j:Int)] by rw[ep,k]]at ba;split at a
   ·cases a
   ·rename_i y q e;have m:=Hp g g (aK0 _) am (H:=[ay.dead]) (x:=0) e f8 u b;have w:=(zh e).trans u;have c:=DT (H:=[ay.dead]) (x:=0) f8 w b 44;have C:=(um 44 q).trans w;simp only[aK7]at m ba c;cases z:(hJ 44 q).1 with
    |true =>
     rw[z]at a c;rw[if_pos rfl]at a
     (repeat' first|simp(disch:=first|exact ai|fail) only[go_sem,ep,<-k,o]|(refine ao ?_ ?_<;>intro)|refine cA ba ?_|refine cA m ?_|refine cA c ?_)
     exact⟨(g,l++[y],(hJ 44 q).2),⟨a,dw,C⟩,be,by(first|rfl|(simp(disch:=first|exact aX|fail) only[b7,aKT,aKU,Env.ins,cp,cq,cr,ct,cu,cv,cw,cx,I.b0,aKS,aKV,aKW,aKX,aKY,bL,aKQ,aKZ,aKR,cy,cz,go_sem,ep];try rfl))⟩
    |false =>
     rw[z]at a c;simp only[aK5,if_false,Option.some.injEq]at a;subst a
     (repeat' first|simp(disch:=first|exact ai|fail) only[go_sem,ep,<-k,o]|(refine ao ?_ ?_<;>intro)|refine cA ba ?_|refine cA m ?_|refine cA c ?_)
     exact⟨_,rfl,by first|exact bx.disown _ _ _|(rw[I.sB,aKQ];first|exact bx.disown _ _ _|exact bx.refl _)|(show bx _ (.list none 2 ((l++[y]).map I.enc));rw[aKQ];first|exact bx.disown _ _ _|exact bx.refl _)⟩
open Enc (enc)
def gu(s:ak):List aU:=(Bh 99 [] s).getD []
def fZ(s:ak):List I:=(Bi 99 [] s).getD []
def eb(s:ak):I:=((zg 99 (lq s).1 (lq s).2).getD default).1
noncomputable def aeo:List iZ:=[(33,eh λ(s:ak)=>enc (gu s)),
 (34,eh λ(s:ak)=>enc (fZ s)),
 (35,eh λ(s:ak)=>enc (eb s)),
 (23,hj λ(l:List ak)(m:List ak)=>enc (decide (l=m)))]
noncomputable def iX:bj:=ij cM (e1 aeo)
instance aKr{D:bj}[h:bt D iX]:bt D cM:=h.ke
theorem Jf{f:Nat}{F:List AV->Option AV}(h:∀xs,e1 aeo f xs=F xs)(hk:adB.contains f=false:=by rfl):∀xs,iX f xs=F xs:=λxs=>by rw[<-h];exact kg axG hk
variable {D:bj}{x1:AV}{K:AV->Prop}{tg:aN K}
theorem aNd[bt D iX][aT x1 s](h:aA ν aD 33 [enc s] (enc (gu s))):b1 ν aD D 33 [x1] K tg=K (enc (gu s)):=ec (D':=iX) (F:=λ(s:ak)=>enc (gu s)) (Jf λ_=>rfl) h
theorem aNe[bt D iX][aT x1 s](h:aA ν aD 34 [enc s] (enc (fZ s))):b1 ν aD D 34 [x1] K tg=K (enc (fZ s)):=ec (D':=iX) (F:=λ(s:ak)=>enc (fZ s)) (Jf λ_=>rfl) h
theorem azX[bt D iX][aT x1 s](h:aA ν aD 35 [enc s] (enc (eb s))):b1 ν aD D 35 [x1] K tg=K (enc (eb s)):=ec (D':=iX) (F:=λ(s:ak)=>enc (eb s)) (Jf λ_=>rfl) h
theorem azY(f:Nat)(c:f<=1000000)(h:zg f (lq s).1 (lq s).2=some (t,q)):aA ν aD 35 [enc s] (enc t):=by
 refine aA.h4 λa=>?_;have e:M=1099511627776:=rfl;have a:s.length<=M:=a;have ba:=DU (H:=[ay.dead]) (x:=0) f8 (aK4 (l:=s)) a;have d:=xC s;have b:=Hp f f (aK0 _) c (H:=[ay.dead]) (x:=0) h f8 d a;rw[show ep s s=.cells [.str s,.int .i64 0] by rw[ep,Nat.sub_self];rfl]at ba;simp only[aK7]at ba b;refine aA.intro (D:=na) Fq cX c7 ?_;unfold kC;simp(disch:=first|exact ai|fail) only[go_sem]
 (repeat' first|simp(disch:=first|exact ai|fail) only[go_sem,ep]|(refine ao ?_ ?_<;>intro)|refine cA ba ?_|refine cA b ?_)
 all_goals rfl
theorem azZ(l m:List ak):aA ν aD 23 [enc l,enc m] (enc (decide (l=m))):=by
 refine aA.sy λc f=>?_;have g:M=1099511627776:=rfl;obtain⟨c,_⟩:=c;by_cases d:l.length=m.length
 ·have cG:((l.length:Int) != (m.length:Int))=false:=by rw[d];simp
  refine aA.intro (D:=cM) ayc cX c7 ?_;unfold YR;simp(disch:=first|exact ai|fail) only[go_sem]
  (repeat' first|simp(disch:=first|exact ai|fail) only[go_sem,cG]|(refine ao ?_ ?_<;>intro))
  refine bQ (λi:Nat=>⟨N [(0,.v (enc l)),(1,.v (enc m)),(12,.v (enc l.length)),(13,.v (enc i))],[]⟩) (λi=>i<=l.length/\l.take i=m.take i) (λi=>l.length-i) 0 ⟨Nat.zero_le _,rfl⟩ ci ?_;rintro i ⟨j,b⟩;rcases Nat.lt_or_ge i l.length with h|h
  ·cases a:l[i]! ==m[i]! with
   |true =>
    (repeat' first|simp(disch:=first|exact ai|fail) only[go_sem,a]|(refine ao ?_ ?_<;>intro))
    exact⟨i+1,⟨am,by rw[bL h,bL am,b,eq_of_beq a]⟩,am,co⟩
   |false =>
    have hd:decide (l=m)=false:=decide_eq_false λe=>by rw[e]at a;simp at a
    rw[hd]
    (repeat' first|simp(disch:=first|exact ai|fail) only[go_sem,a]|(refine ao ?_ ?_<;>intro))
    all_goals rfl
  ·have hd:decide (l=m)=true:=decide_eq_true (by rw[aLa h,aLa am]at b;exact b);rw[hd]
   (repeat' first|simp(disch:=first|exact ai|fail) only[go_sem]|(refine ao ?_ ?_<;>intro))
   all_goals rfl
 ·have hd:decide (l=m)=false:=decide_eq_false λe=>d (by rw[e]);have cG:((l.length:Int) != (m.length:Int))=true:=by simp;omega
  rw[hd];refine aA.intro (D:=cM) ayc cX c7 ?_;unfold YR;simp(disch:=first|exact ai|fail) only[go_sem]
  (repeat' first|simp(disch:=first|exact ai|fail) only[go_sem,cG]|(refine ao ?_ ?_<;>intro))
  all_goals rfl
theorem az0[bt D iX]{x2:AV}{l:List ak}{m:List ak}[aT x1 l][aT x2 m]  :b1 ν aD D 23 [x1,x2] K tg=K (enc (decide (l=m))):=ik (D':=iX) (F:=λ(l:List ak)(m:List ak)=>enc (decide (l=m))) (Jf λ_=>rfl) (azZ l m)
attribute [go_sem ↓ 2000] az0
def jI:ak:=[112,40,88,41,32,105,102,32,113,40,88,41,32,97,110,100,32,116,114,117,101,40,88,41,46,32,113,40,97,41,46,32,113,40,98,41,46,32,114,32,105,102,32,112,40,97,41,46]
def rZ:ak:=[116,114,117,101,40,97,41]
def uq:ak:=[112,40,97,41]
def r0:ak:=[116,114,117,101,40,98,41]
def oG:ak:=[112,40,88,41]
def jJ:ak:=[114]
def lT:bp:=mi (iB (gu jI)) (fZ rZ)
def xG:bp:=((hx lT (eb oG)).getD (lT,[],0)).1
def uI:bp:=((hx xG (eb jJ)).getD (lT,[],0)).1
def r2:bp:=mi uI (fZ r0)
def OX:bp:=((hx r2 (eb jJ)).getD (lT,[],0)).1
theorem OY{o:Option (bp×List I×Nat)}{d:bp×List I×Nat}{e:Nat}(f:o.isSome=true)(c:(o.getD d).2=(L,e)):o=some ((o.getD d).1,L,e):=by
 cases o with
 |none=>cases f|some x=>obtain⟨a,b⟩:=x;simp only[Option.getD_some]at c ⊢;rw[c]
theorem az1:((Bh 99 [] jI).isSome&&decide (jU (gu jI)=0)&&(gu jI).all λr=>(dx r).all λa=>decide (cc a<=1000000))=true:=by kernel_rfl
theorem az2:[rZ,uq,r0].all (λs=>(Bi 99 [] s).isSome&&decide ((fZ s).length<=1000))=true:=by kernel_rfl
theorem aep:[oG,jJ].all (λs=>(zg 99 (lq s).1 (lq s).2).isSome&&decide (dI (eb s)<=100)&&cD 4 (eb s) true)=true:=by kernel_rfl
theorem az3:iz [] (fZ rZ)=some (fZ rZ,0):=by kernel_rfl
theorem az4:iz [] (fZ r0)=some (fZ r0,0):=by kernel_rfl
theorem aAf:(hx lT (eb oG)).isSome=true:=by kernel_rfl
theorem aAg:((hx lT (eb oG)).getD (lT,[],0)).2=(fZ uq,0):=by kernel_rfl
theorem aA1:(hx xG (eb jJ)).isSome=true:=by kernel_rfl
theorem aA2:((hx xG (eb jJ)).getD (lT,[],0)).2=([eb jJ],0):=by kernel_rfl
theorem aA3:(hx r2 (eb jJ)).isSome=true:=by kernel_rfl
theorem aA4:((hx r2 (eb jJ)).getD (lT,[],0)).2=([],0):=by kernel_rfl
theorem aBB:uI.work=3/\OX.work=5:=⟨d6,d6⟩
theorem aCA:po uI=[[112],[113],[114]]/\po r2=[[113]]:=⟨d6,d6⟩
theorem aCE:cD 4 (eb jJ) false=true:=by kernel_rfl
open Enc (enc)
section
variable {H:List ay}{id mid:Nat}{q:bp}
theorem OZ(h:bm H id mid q)(ae:fU q){g A:List I}(cE:iz [] g=some (A,0)):kv ν aD 13 [.ptr id 0,enc g] H λr H'=>r=.int .i64 0/\mq (λi=>i=id\/i=mid) H H'/\bm H' id mid (mi q A):=by
 have d:M=1099511627776:=rfl;have e:=(wK cE).1;have f:=ae.g;obtain⟨b,c⟩:=And.intro (adf h g ae.e ae.h am cE am) (azW h A 0);refine⟨b.mono λr H' a=>?_,?_⟩
 ·rw[if_pos rfl]at a;exact⟨a.2.1,a.1,a.2.2⟩
 ·obtain⟨r,H',a⟩:=c;rw[if_pos rfl]at a;exact⟨r,H',a.2.1,a.1,a.2.2⟩
variable {hT:bp}{e:Nat}
theorem O0(h:bm H id mid q)(ae:fU q){p:I}(ar:dI p<=M)(de:hx q p=some (hT,L,e)):kv ν aD 14 [.ptr id 0,enc p] H λr H'=>r=.bg [enc L,.int .i64 (e:Int)]/\mq (λi=>i=id\/i=mid) H H'/\bm H' id mid hT :=
 ⟨adh h ae p ar de,Ly h p de⟩
theorem aeq(h:bm H id mid q)(ae:fU q){a:I}(aG:cD 4 a false=true)(de:hx q a=some (hT,L,e))(cf:L.length<=M):kv ν aD 18 [.ptr id 0,enc a] H λr H'=>r=.bg [.bool (decide (0<L.length)),.int .i64 (e:Int)]/\mq (λi=>i=id\/i=mid) H H'/\bm H' id mid hT:=by
 refine⟨axy h ae a (ax9 aG) (λ_=>de) (λh=>by rw[aG]at h;cases h) cf,?_⟩;obtain⟨_,H',-,b,c⟩:=Ly h a de;exact⟨_,H',rfl,b,c⟩
theorem mq.aC9{H':List ay}(h:mq (λ_=>False) H H')(a:bm H id mid q):bm H' id mid q:=by
 obtain⟨b,aE⟩:=a.o;obtain⟨jd,m,hm,_⟩:=a.m;exact a.of (h.2 _ (dq aE) (λh=>h)) (h.2 _ (dq hm) (λh=>h))
theorem aer(h:bm H id mid q)(ae:fU q){X:List ak}(bA:po q=X):kv ν aD 22 [.ptr id 0] H λr H'=>r=enc X/\mq (λ_=>False) H H'/\bm H' id mid q:=by
 subst bA;exact⟨(ax2 h ae.h).mono λr H' a=>⟨a.1,a.2,a.2.aC9 h⟩,_,H,rfl,mq.refl _ _,h⟩
end
theorem aNg:aA ν aD 11 [] (enc true):=by
 have cP:M=1099511627776:=rfl;have aK:=az1;simp only[aK2,decide_eq_true_eq,aK8]at aK;obtain⟨⟨c,d⟩,f⟩:=aK;have aG:∀s∈[rZ,uq,r0],∀(L:List I),fZ s=L->∀(K:AV->Prop)(tg:aN K),b1 ν aD iX 34 [.str s] K tg=K (enc L):=λs ax L e K tg=>by
  have:=aK8.1 az2 s ax;simp only[aK2]at this;obtain⟨x,ah⟩:=aK9.1 this.1;exact e▸aNe (D:=iX) (x1:=.str s) (by have h:=aM1 99 am ah;rw[show x=fZ s by rw[fZ,ah];rfl]at h;exact h)
 have o:∀s∈[oG,jJ],∀(t:I),eb s=t->∀(K:AV->Prop)(tg:aN K),b1 ν aD iX 35 [.str s] K tg=K (enc t):=λs ax t e K tg=>by
  have:=aK8.1 aep s ax;simp only[aK2]at this;obtain⟨⟨x,y⟩,ah⟩:=aK9.1 this.1.1;exact e▸azX (D:=iX) (x1:=.str s) (by have h:=azY 99 am ah;rw[show x=eb s by rw[eb,ah];rfl]at h;exact h)
 have ky:∀(K:AV->Prop)(tg:aN K),b1 ν aD iX 33 [.str jI] K tg=K (enc (gu jI)):=λK tg=>by
  obtain⟨x,ah⟩:=aK9.1 c;exact aNd (D:=iX) (x1:=.str jI) (by have h:=aM0 99 am ah;rw[show x=gu jI by rw[gu,ah];rfl]at h;exact h)
 have dL:=aG rZ be _ rfl;have a2:=aG uq be _ rfl;have a3:=aG r0 be _ rfl;have t4:=o oG be _ rfl;have t5:=o jJ be _ rfl;have p:∀s∈[oG,jJ],dI (eb s)<=M:=λs ax=>by
  have:=aK8.1 aep s ax;simp only[aK2,decide_eq_true_eq]at this;have:=this.1.2;omega
 have ts:=p oG be;have Rt:=p jJ be;have hd:∀r∈gu jI,∀a∈dx r,cc a<=1000000:=f;obtain⟨z6,-⟩:=aei d;have k:=fU.new z6 hd;have u:=az3;have w:=az4;have l:fU lT:=k.set (by have:=(wK u).1;omega);have z:hx lT (eb oG)=some (xG,fZ uq,0):=OY aAf aAg;have bh:(bz lT.rules).length<=100000:=l.h;obtain⟨A,g1,-,dN⟩:=l.ask (by have:lT.work=0:=rfl;omega) z;have B:hx xG (eb jJ)=some (uI,[eb jJ],0):=OY aA1 aA2;obtain⟨m,-,-,fu⟩:=A.ask (by have:lT.work=0:=rfl;rw[g1];omega) B;have C:fU r2:=m.set (by have:=(wK w).1;omega);have gv:hx r2 (eb jJ)=some (OX,[],0):=OY aA3 aA4;obtain⟨dZ,en⟩:=aBB;obtain⟨lD,uS⟩:=aCA;have WW:=aCE;have g:(gu jI).length<=100000:=k.r;have Bk:=ac6 (H:=[]) (gu jI) g hd;have uV:kv ν aD 12 [enc (gu jI)] [] λr b=>r=.bg [.ptr 1 0,.int .i64 0]/\bm b 1 0 (iB (gu jI)):=by
  have key:∀r b,G1 (gu jI) [] r b->r=.bg [.ptr 1 0,.int .i64 0]/\bm b 1 0 (iB (gu jI)):=λr b h=>by
   rcases h with⟨h,-⟩|⟨-,h1,-,ab⟩
   ·exact absurd d h
   ·exact⟨h1,ab⟩
  obtain⟨r,b,ah⟩:=aen [] (gu jI);exact⟨Bk.mono key,r,b,key r b ah⟩
 have E:∀{H:List ay},bm H 1 0 (iB (gu jI))->kv ν aD 13 [.ptr 1 0,enc (fZ rZ)] H λr b=>r=.int .i64 0/\mq (λi=>i=1\/i=0) H b/\bm b 1 0 lT:=λh=>OZ h k u;have F:∀{H:List ay},bm H 1 0 uI->kv ν aD 13 [.ptr 1 0,enc (fZ r0)] H λr b=>r=.int .i64 0/\mq (λi=>i=1\/i=0) H b/\bm b 1 0 r2:=λh=>OZ h m w;have G:=λ{H:List ay}(h:bm H 1 0 lT)=>O0 h l ts z;have J:=λ{H:List ay}(h:bm H 1 0 r2)=>O0 h C Rt gv;have O:=λ{H:List ay}(h:bm H 1 0 xG)=>aeq h A WW B (by simp only[aK1,List.length_nil];omega);have P:∀{H:List ay},bm H 1 0 uI->bB ν aD 21 [.ptr 1 0] H λr b=>r=.int .i64 3/\b=H:=λh=>by have:=adO h;rw[dZ]at this;exact this
 have Q:∀{H:List ay},bm H 1 0 OX->bB ν aD 21 [.ptr 1 0] H λr b=>r=.int .i64 5/\b=H:=λh=>by have:=adO h;rw[en]at this;exact this
 obtain⟨R,j⟩:∃R:List ak,R=[[112],[113],[114]]:=⟨_,rfl⟩;obtain⟨S,sr⟩:∃S:List ak,S=[[113]]:=⟨_,rfl⟩;rw[<-j]at lD;rw[<-sr]at uS;have T:=λ{H:List ay}(h:bm H 1 0 uI)=>aer h m lD;have V:=λ{H:List ay}(h:bm H 1 0 r2)=>aer h C uS;have W:decide (R=[[112],[113],[114]])=true:=decide_eq_true j;have X:decide (S=[[113]])=true:=decide_eq_true sr;have BK:∀L:List I,gD L L=true:=λL=>(FN L L).2 rfl;have Y:([eb jJ]:List I).length=1:=rfl;clear ts Rt p aG o hd Bk c f z6 g k u w l bh A m C z B gv g1 dN fu WW;generalize gu jI=aPD,fZ rZ=oB,fZ uq=zD,fZ r0=aKt,eb oG=aKu,eb jJ=aKw at *;unfold jI at ky;unfold rZ at dL;unfold uq at a2;unfold r0 at a3;unfold oG at t4;unfold jJ at t5;refine aA.intro (D:=iX) ax5 rfl rfl ?_;unfold Yp
 (repeat' first|simp(disch:=first|exact ai|fail) only[go_sem,ky,dL,a2,a3,t4,t5,W,X,BK,Y]|(refine ao ?_ ?_<;>intro)|(refine iJ uV ?_;(rintro r H1 ⟨rfl,aj⟩))|(refine iJ (E aj) ?_;(rintro r H2 ⟨rfl,-,av⟩))|(refine iJ (G av) ?_;(rintro r yM ⟨rfl,-,aQ⟩))|(refine iJ (O aQ) ?_;(rintro r pV ⟨rfl,-,bG⟩))|refine cA (P bG) ?_|(refine iJ (T bG) ?_;(rintro r oy ⟨rfl,-,ev⟩))|(refine iJ (F ev) ?_;(rintro r aKx ⟨rfl,-,py⟩))|(refine iJ (V py) ?_;(rintro r aKM ⟨rfl,-,v7⟩))|(refine iJ (J v7) ?_;(rintro r aKN ⟨rfl,-,Z⟩))|refine cA (Q Z) ?_|fail)
 all_goals rfl
open Enc (enc)
theorem aLX[bt D y9]{l:List I}[aT x1 l]  :b1 ν aD D 17 [x1] K tg=K (enc (fx l)):=ec (D':=y9) (F:=λ(l:List I)=>enc (fx l)) (aKm λ_=>rfl) (aKo l)
attribute [go_sem ↓ 2000] aLX
theorem aDv{p:I}(h:∀a∈L,(sU p a).2=true):mW L p=L:=by
 unfold mW;rw[List.filter_eq_self];intro a aG;rw[axF,axE];exact h a aG
theorem aL2(E:aA ν aD 11 [] (enc true))(l:List aU)(g:List I)(p:I)(T:∀r∈l,DJ r)(aF:∀a∈g,fH 1048576 a):aA ν aD 3 [enc l,enc g,enc p] (enc true):=by
 have cP:M=1099511627776:=rfl;have aG:=λ{K:AV->Prop}{tg:aN K}=>aKd (D:=iX) (K:=K) (tg:=tg) E;have ax:nh l 40=true->(kb l []).isSome=true:=λh=>alg (λr k=>⟨(T r k).1,((Hc h).2 r k).1⟩) (λa aG=>by cases aG);refine aA.intro (D:=iX) Fp cX c7 ?_;unfold kB;cases d:(nh l 40&&(kb l []).getD false)with
 |false =>
  (repeat' first|simp(disch:=first|exact ai|fail) only[go_sem,d,aG]|(refine ao ?_ ?_<;>intro))
  all_goals rfl
 |true =>
 cases f:qI 60 g with
 |false =>
  (repeat' first|simp(disch:=first|exact ai|fail) only[go_sem,d,f,aG]|(refine ao ?_ ?_<;>intro))
  all_goals rfl
 |true =>
 cases o:lM 60 p with
 |false =>
  (repeat' first|simp(disch:=first|exact ai|fail) only[go_sem,d,f,o,aG]|(refine ao ?_ ?_<;>intro))
  all_goals rfl
 |true =>
 have j:nh l 40=true:=by rw[aK2]at d;exact d.1
 obtain⟨b,ae⟩:=aK9.1 (alg (λr k=>⟨(T r k).1,((Hc j).2 r k).1⟩) (λa aG=>⟨aF a aG,(alj f).2 a aG⟩):(kb l g).isSome=true);have U3:=(Hc j).1;have x6:=(alj f).1;have u:=λ{K:AV->Prop}{tg:aN K}=>akM (D:=iX) (K:=K) (tg:=tg) (x1:=enc l) (x2:=enc g) (l:=l) (g:=g) (by
  have F:l.all p5=true:=by rw[nh,aK2]at j;exact j.2
  have hd:=akD l g b am (akN F) am ae;rw[show(kb l g).getD false=b by rw[ae];rfl];exact hd)
 rw[show(kb l g).getD false=b by rw[ae];rfl]at u;have Ub:∀R:List aU,(enc R:AV)=.list none 3 (R.map aU.enc):=λ_=>rfl;have Uc:∀R:List I,(enc R:AV)=.list none 2 (R.map I.enc):=λ_=>rfl;simp only[Ub,Uc]at u;cases b with
 |false =>
  (repeat' first|simp(disch:=first|exact ai|fail) only[go_sem,d,f,o,aG,u]|(refine ao ?_ ?_<;>intro))
  all_goals rfl
 |true =>
 have w:=aKg j;have G:dI p<=M:=by
  have:=TF (m:=60) am o;rw[adW];omega
 have V:=ac6 (H:=[]) l am w;by_cases J:jU l=0
 ·have y:kv ν aD 12 [enc l] [] λr c=>r=.bg [.ptr 1 0,.int .i64 0]/\bm c 1 0 (iB l):=by
   have key:∀r c,G1 l [] r c->r=.bg [.ptr 1 0,.int .i64 0]/\bm c 1 0 (iB l):=λr c h=>by
    rcases h with⟨h,-⟩|⟨-,j,-,O⟩
    ·exact absurd J h
    ·exact⟨j,O⟩
   obtain⟨r,c,ah⟩:=aen [] l;exact⟨V.mono key,r,c,key r c ah⟩
  obtain⟨W,-⟩:=aei J;have C:=fU.new W w;have z:=ay5 g;cases P:rO g with
  |false =>
   rw[P,if_neg be]at z;have st:∀{H:List ay},bm H 1 0 (iB l)->bB ν aD 13 [.ptr 1 0,enc g] H λr c=>r=.int .i64 13/\c=H:=λh =>
    (adf h g C.e C.h (show 0<=M from Nat.zero_le _) z (show 0<=M from Nat.zero_le _)).mono λr c k=>by
     rw[if_neg f8]at k;exact k.2
   (repeat' first|simp(disch:=first|exact ai|fail) only[go_sem,d,f,o,aG,u]|(refine ao ?_ ?_<;>intro)|(refine iJ y ?_;(rintro r X ⟨rfl,A⟩))|refine cA (st A) ?_|fail)
   all_goals rfl
  |true =>
  rw[P,if_pos rfl]at z;have st:∀{H:List ay},bm H 1 0 (iB l)->kv ν aD 13 [.ptr 1 0,enc g] H λr c=>r=.int .i64 0/\mq (λi=>i=1\/i=0) H c/\bm c 1 0 (mi (iB l) (fx g)):=λh=>OZ h C z;obtain⟨Q,L,e,f1,rq,f2,f3,f4⟩:=azy W ae P w p;have cF:fU (mi (iB l) (fx g)):=C.set (by have:=(wK z).1;omega);have B:=λ{H:List ay}(h:bm H 1 0 (mi (iB l) (fx g)))=>O0 h cF G f1;by_cases he:e=0
  ·subst he;obtain⟨cE,Y⟩:=f4 rfl;have bk:mW L p=L:=aDv λa aG=>(Y a aG).1;have ER:fx L=L:=(QJ cE λx=>Iff.rfl).symm;have BK:gD L L=true:=(FN L L).2 rfl;have cG:((L.length:Int) != (L.length:Int))=false:=by simp
   (repeat' first|simp(disch:=first|exact ai|fail) only[go_sem,d,f,o,aG,u,bk,ER,BK,cG]|(refine ao ?_ ?_<;>intro)|(refine iJ y ?_;(rintro r X ⟨rfl,A⟩))|(refine iJ (st A) ?_;(rintro r H2 ⟨rfl,-,S⟩))|(refine iJ (B S) ?_;(rintro r Z ⟨rfl,-,mg⟩))|fail)
   refine bQ (λi:Nat×List ay=>⟨N [(7,.v (.ptr 1 0)),(9,.v (enc L)),(11,.v (enc i.1))],i.2⟩) (λi=>i.1<=L.length/\bm i.2 1 0 Q) (λi=>L.length-i.1) (0,Z) ⟨Nat.zero_le _,mg⟩ ci ?_;rintro⟨i,H⟩ ⟨i1,i2⟩;simp only at i1 i2;rcases Nat.lt_or_ge i L.length with h|h
   ·obtain⟨-,vW,RU,bT,b8,c8⟩:=Y L[i]! (ek h);have bh:=aeq i2 rq vW bT am;have oU:decide (0<RU.length)=true:=decide_eq_true (aK6.2 b8);rw[oU]at bh
    (repeat' first|simp(disch:=first|exact ai|fail) only[go_sem]|(refine ao ?_ ?_<;>intro)|(refine iJ bh ?_;(rintro r pV ⟨rfl,-,Kw⟩))|fail)
    exact⟨(i+1,pV),⟨ap,Kw⟩,ap,co⟩
   ·(repeat' first|simp(disch:=first|exact ai|fail) only[go_sem,aG]|(refine ao ?_ ?_<;>intro))
    all_goals rfl
  ·obtain rfl:=f2 he;have wM:((e:Nat):Int)≠0:=by omega
   (repeat' first|simp(disch:=first|exact ai|fail) only[go_sem,d,f,o,aG,u]|(refine ao ?_ ?_<;>intro)|(refine iJ y ?_;(rintro r X ⟨rfl,A⟩))|(refine iJ (st A) ?_;(rintro r H2 ⟨rfl,-,S⟩))|(refine iJ (B S) ?_;(rintro r Z ⟨rfl,-,mg⟩))|fail)
   all_goals rfl
 ·have wM:((jU l:Nat):Int)≠0:=by omega
  have y:bB ν aD 12 [enc l] [] λr c=>r=.bg [.fl,.int .i64 (jU l:Int)]/\c=[]:=V.mono λr c h=>by
   rcases h with⟨-,j,O⟩|⟨h,-⟩
   ·exact⟨j,O⟩
   ·exact absurd h J
  (repeat' first|simp(disch:=first|exact ai|fail) only[go_sem,d,f,o,aG,u]|(refine ao ?_ ?_<;>intro)|refine cA y ?_)
  all_goals rfl
end AM
