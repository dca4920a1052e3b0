/- What functions of the given program do, as calls of the machine. Conditions: names and lists are bounded where that is said. -/
import Derived.Test.YtmmplkgkkkjojaaGreatDoorE1
import Derived.Test.YtmmplkgkkkjojaaGreatDoorAm10
import Derived.Test.YtmmplkgkkkjojaaGreatDoorE75
set_option linter.unusedSimpArgs false
set_option maxRecDepth 100000
set_option maxHeartbeats 4000000
set_option linter.unusedVariables false
namespace AM
open List renaming map_append -> aKB,map_nil -> aKC,length_map -> aKD,take_zero -> aKE,foldr_cons -> aKF,foldr_nil -> aKG,map_cons -> aKK,all_eq_true -> aKN,length_cons -> aKP,set_set -> aKU,length_append -> aKV,suffix_rfl -> aKX,take_of_length_le -> aKY,length_nil -> aKZ,set_cons_zero -> aK2,mem_append -> aK3,contains_iff_mem -> aK4,mem_append_left -> aK5
open Int renaming natCast_add -> aKH,natCast_one -> aKI,natCast_zero -> aKJ
open Bool renaming and_eq_true -> aKL,false_eq_true -> aKQ,false_and -> aKT
open Nat renaming le_refl -> aKM,le_trans -> aKO,zero_le -> aKS,lt_or_ge -> aKW
open Option renaming isSome_iff_exists -> aKR
open Go Go.Proofs
open Tryz renaming prog -> ν
open Enc (enc)
variable {H:List ay}{x:Nat}
theorem aMT{o:ay}(h:H[x]?=some o):H.set x o=H:=by
 obtain⟨a,b⟩:=List.getElem?_eq_some_iff.1 h;rw[<-b];exact List.set_getElem_self a
variable {s r:ak}
theorem amk(h:H[x]?=some (ep s r))(ax:r <:+ s)(n:s.length<=M) :
  bB ν aD 101 [.ptr x 0] H λv H'=>v=.bg []/\H'=H.set x (ep s (q3 r)):=by
 have o:M=1099511627776:=rfl;have ah:=dq h;refine bB.intro (D:=na) afk ?_;unfold Pr
 (repeat' first|refine ag ?_|(refine ao ?_ ?_<;>intro))
 refine bQ (λq:ak=>⟨N [(0,.v (.ptr x 0))],H.set x (ep s q)⟩) (λq=>q <:+ s/\q3 q=q3 r) (λq=>q.length) r ⟨ax,rfl⟩ (rm (aMT h)) ?_;rintro q ⟨k,a⟩;cases q with
 |nil =>
  have b:s.length-([]:ak).length=s.length:=rfl
  (repeat' first|simp(disch:=first|exact ai|fail) only[go_sem,ep,b]|(refine ao ?_ ?_<;>intro))
  exact⟨_,rfl,rfl,by rw[<-a];rfl⟩
 |cons c q =>
  obtain⟨p,e,l,f⟩:=Ui k;obtain⟨j,g⟩:∃j,j=s.length-(q.length+1):=⟨_,rfl⟩;have b:s.length-(q.length+1)=j:=g.symm;rw[<-g]at e f;rw[q3]at a;have i:l6 c=true->∃d,(d <:+ s/\q3 d=q3 r)/\d.length<(c::q).length/\(⟨N [(0,.v (.ptr x 0))],(H.set x (.cells [.str s,.int .i64 (j:Int)])).set x (.cells [.str s,.int .i64 ((j:Int)+1)])⟩:au)=⟨N [(0,.v (.ptr x 0))],H.set x (.cells [.str s,.int .i64 ((s.length-d.length:Nat):Int)])⟩:=λm=>by
   rw[if_pos m]at a;exact⟨q,⟨l,a⟩,be,by rw[aKU,<-f];rfl⟩
  (repeat' first|simp(disch:=first|exact ai|fail) only[go_sem,ep,b,e]|(refine ao ?_ ?_<;>intro))
  ·exact i (by simp[l6];omega)
  ·exact i (by simp[l6];omega)
  ·rw[if_neg (by simp[l6];omega)]at a;exact⟨_,rfl,rfl,by rw[<-a,aKP,b]⟩
theorem aMU(h:H[x]?=some (ep s r))(ax:r <:+ s)(k:s.length<=M)(c:Nat) :
  bB ν aD 65 [.ptr x 0,.int .u8 c] H λv H'=>v=.bool (hJ c r).1/\H'=H.set x (ep s (hJ c r).2):=by
 have l:M=1099511627776:=rfl;have ah:=dq h;have t:=amk h ax k;have e:=(Hn r).trans ax;refine bB.intro (D:=na) ayE ?_;unfold aan;cases ae:q3 r with
 |nil =>
  have b:s.length-([]:ak).length=s.length:=rfl;have a:hJ c r=(false,[]):=by rw[hJ,ae]
  rw[ae]at t
  (repeat' first|simp(disch:=first|exact ai|fail) only[go_sem,ep,b]|(refine ao ?_ ?_<;>intro)|refine cA t ?_)
  exact⟨_,rfl,by rw[a],by rw[a];rfl⟩
 |cons d q =>
  rw[ae]at t e;obtain⟨m,f,n,g⟩:=Ui e;obtain⟨j,i⟩:∃j,j=s.length-(q.length+1):=⟨_,rfl⟩;have b:s.length-(q.length+1)=j:=i.symm;rw[<-i]at f g
  (repeat' first|simp(disch:=first|exact ai|fail) only[go_sem,ep,b,f]|(refine ao ?_ ?_<;>intro)|refine cA t ?_)
  ·have a:hJ c r=(true,q):=by rw[hJ,ae];exact if_pos am
   exact⟨_,rfl,by rw[a],by rw[a,aKU];show _=H.set x (.cells [.str s,.int .i64 ((s.length-q.length:Nat):Int)]);rw[<-g];rfl⟩
  ·have a:hJ c r=(false,d::q):=by rw[hJ,ae];exact if_neg am
   exact⟨_,rfl,by rw[a],by rw[a];show _=H.set x (.cells [.str s,.int .i64 ((s.length-(q.length+1):Nat):Int)]);rw[b]⟩
theorem aMV(h:H[x]?=some (ep s r))(ax:r <:+ s)(z:s.length<=M) :
  bB ν aD 62 [.ptr x 0] H λv H'=>v=.str (lq r).1/\H'=H.set x (ep s (lq r).2):=by
 have L:M=1099511627776:=rfl;have ah:=dq h;have t:=amk h ax z;have l:=(Hn r).trans ax;obtain⟨b,ae⟩:∃b,b=q3 r:=⟨_,rfl⟩;have A:lq r=(sX b,sY b):=by rw[lq,ae]
 rw[A];rw[<-ae]at t l;obtain⟨i,al⟩:∃i,i=s.length-b.length:=⟨_,rfl⟩;have O:=Ho l;refine bB.intro (D:=na) ayC ?_;unfold aag
 (repeat' first|simp(disch:=first|exact ai|fail) only[go_sem,ep,<-al]|(refine ao ?_ ?_<;>intro)|refine cA t ?_)
 refine bQ (λq:ak=>⟨N [(0,.v (.ptr x 0)),(3,.v (.int .i64 i))],H.set x (ep s q)⟩) (λq=>q <:+ b/\sY q=sY b/\b.take (b.length-q.length)++sX q=sX b) (λq=>q.length) b ⟨aKX,rfl,be⟩ (by(try simp(disch:=first|exact ai|fail) only[go_sem])<;>(first|rfl|(simp(disch:=first|exact aX|fail) only[b7,aKF,aKG,Env.ins,cp,cq,cr,ct,cu,cv,cw,cx,I.b0,aKD,aKH,aKI,aKJ,aKE,bL,aKB,aKK,aKC,cy,cz,go_sem,ep,al];try rfl))) ?_;rintro q ⟨m,d,e⟩;have o:=m.trans l;have df:=Ho m;have bI:∀k,k<=b.length->(s.take (i+k)).drop i=b.take k:=λk hk=>by
  obtain⟨p,rfl⟩:=l;have:i=p.length:=by rw[al];simp
  subst this;rw[List.take_add,List.take_left,List.drop_left,List.drop_left]
 cases q with
 |nil =>
  have f:s.length-([]:ak).length=s.length:=rfl;have B:sX b=b:=by rw[<-e];simp[sX]
  have C:(s.take s.length).drop i=b:=by
   have:=bI b.length (aKM _);rwa[show i+b.length=s.length by omega,aKY (aKM b.length)]at this
  (repeat' first|simp(disch:=first|exact ai|fail) only[go_sem,ep,f,C,Nat.sub_zero]|(refine ao ?_ ?_<;>intro))
  exact⟨_,rfl,by rw[B],by rw[<-d];rfl⟩
 |cons c q =>
  obtain⟨P,u,Q,w⟩:=Ui o;obtain⟨j,y⟩:∃j,j=s.length-(q.length+1):=⟨_,rfl⟩;have f:s.length-(q.length+1)=j:=y.symm;rw[<-y]at u w;have E:q <:+ b:=(List.suffix_cons c q).trans m;have F:Bg c=true->∃a,(a <:+ b/\sY a=sY b/\b.take (b.length-a.length)++sX a=sX b)/\a.length<(c::q).length/\(⟨N [(0,.v (.ptr x 0)),(3,.v (.int .i64 i))],(H.set x (.cells [.str s,.int .i64 (j:Int)])).set x (.cells [.str s,.int .i64 ((j:Int)+1)])⟩:au)=⟨N [(0,.v (.ptr x 0)),(3,.v (.int .i64 i))],H.set x (.cells [.str s,.int .i64 ((s.length-a.length:Nat):Int)])⟩:=λg=>by
   rw[sY,if_pos g]at d;rw[sX,if_pos g]at e;refine⟨q,⟨E,d,?_⟩,be,by rw[aKU,<-w];rfl⟩;rw[<-e];obtain⟨p,rfl⟩:=m;rw[show(p++c::q).length-q.length=(p++[c]).length by simp only[aKV,aKP,aKZ];omega,show(p++c::q).length-(c::q).length=p.length by simp,List.take_left,show p++c::q=(p++[c])++q by simp,List.take_left];simp
  have fin:Bg c=false->(s.take j).drop i=sX b/\ep s (sY b)=.cells [.str s,.int .i64 (j:Int)]:=λg=>by
   rw[sY,if_neg (by rw[g];simp)]at d;rw[sX,if_neg (by rw[g];simp),List.append_nil]at e;rw[aKP]at df;refine⟨?_,by rw[<-d,ep,aKP,f]⟩;have:=bI (b.length-(q.length+1)) am;rw[show i+(b.length-(q.length+1))=j by omega]at this;rw[this];exact e
  cases n:Bg c with
  |true =>
   have G:=F n
   (repeat' first|simp(disch:=first|exact ai|fail) only[go_sem,ep,f,u]|(refine ao ?_ ?_<;>intro))
   all_goals first
    |exact G|(exfalso;simp[Bg]at n;omega)
  |false =>
   obtain⟨J,K⟩:=fin n;have R:i<=j:=by rw[aKP]at df;omega
   have S:j<=s.length:=by omega
   (repeat' first|simp(disch:=first|exact ai|fail) only[go_sem,ep,f,u,J]|(refine ao ?_ ?_<;>intro))
   all_goals first
    |(exfalso;simp[Bg]at n;omega)|exact⟨_,rfl,rfl,by rw[<-K];rfl⟩
section
variable {H:List ay}{x:Nat}{s r:ak}(ah:x<H.length)(ax:r <:+ s)(bw:s.length<=M)
include ah ax bw
theorem DT(c:Nat):bB ν aD 65 [.ptr x 0,.int .u8 c] (H.set x (ep s r)) λv H'=>v=.bool (hJ c r).1/\H'=H.set x (ep s (hJ c r).2):=by
 have t:=aMU (H:=H.set x (ep s r)) (dV ah) ax bw c;rw[aKU]at t;exact t
theorem DU:bB ν aD 62 [.ptr x 0] (H.set x (ep s r)) λv H'=>v=.str (lq r).1/\H'=H.set x (ep s (lq r).2):=by
 have t:=aMV (H:=H.set x (ep s r)) (dV ah) ax bw;rw[aKU]at t;exact t
end
variable {n:ak}{v:AV}
theorem DV{l:List I}(h:bx v (.list none 2 (l.map I.enc))):bx (.agg [.str n,v]) (enc (I.mk n l)):=by
 have e:(enc (I.mk n l):AV)=.agg [.str n,.list none 2 (l.map I.enc)]:=by show(I.mk n l).enc=_;rw[I.qC];rfl
 rw[e];exact bx.agg (.cons (bx.refl _) (.cons h .nil))
theorem aMX(e:Nat)(l:List I):(vu e l=.aS 2/\l=[])\/vu e l=.list (some e) 2 (l.map I.enc):=by
 unfold vu;split
 ·rename_i h;exact .inl ⟨rfl,h⟩
 ·exact .inr rfl
theorem aml(e:Nat)(l:List I)(t:I):vu e (l++[t])=.list (some e) 2 (l.map I.enc++[t.enc]):=by
 rw[vu,if_neg be,aKB];rfl
theorem Hp:∀(k f:Nat),f<=k->k<=1000000->∀{n r:ak}{t:I}{q:ak}{H:List ay}{x:Nat}{s:ak},zg f n r=some (t,q)->x<H.length->r <:+ s->s.length<=M ->
  bB ν aD 64 [.ptr x 0,.str n] (H.set x (ep s r)) λv H'=>v=enc t/\H'=H.set x (ep s q)
 |k,0,_,_,n,r,t,q,H,x,s,h,_,_,_=>by cases h|0,f+1,hk,_,n,r,t,q,H,x,s,h,_,_,_=>by omega|k+1,f+1,hk,Z,n,r,t,q,H,x,s,h,ah,ax,m=>by
  have cP:M=1099511627776:=rfl;have y:=DT ah ax m 40;have T:=(um 40 r).trans ax;rw[zg]at h;refine bB.kX (bB.intro (D:=na) afc ?_);unfold Pk;cases K:(hJ 40 r).1 with
  |false =>
   rw[K]at h y;simp only[aKQ,if_false,Option.some.injEq,Prod.mk.injEq]at h;obtain⟨rfl,rfl⟩:=h
   (repeat' first|simp(disch:=first|exact ai|fail) only[go_sem]|(refine ao ?_ ?_<;>intro)|refine cA y ?_)
   exact⟨_,rfl,enc (I.mk n []),DV (bx.aS 2),Enc.iI _,d8⟩
  |true =>
   rw[K]at h y;rw[if_pos rfl]at h;split at h
   ·cases h
   ·rename_i L Q e;simp only[Option.some.injEq,Prod.mk.injEq]at h;obtain⟨rfl,rfl⟩:=h
    (repeat' first|simp(disch:=first|exact ai|fail) only[go_sem]|(refine ao ?_ ?_<;>intro)|refine cA y ?_)
    refine bQ (λi:Nat×List I×ak=>⟨N [(0,.v (.ptr x 0)),(4,.b [.str [],.aS 2]),(5,.b [.str n,vu 25 i.2.1])],H.set x (ep s i.2.2)⟩) (λi=>DR i.1 i.2.1 i.2.2=some (L,Q)/\i.1<=f/\i.2.1.length+i.1<=f/\i.2.2 <:+ s) (λi=>i.1) (f,[],(hJ 40 r).2) ⟨e,aKM _,be,T⟩ (by(try simp(disch:=first|exact ai|fail) only[go_sem])<;>(first|rfl|(simp(disch:=first|exact aX|fail) only[b7,aKF,aKG,Env.ins,cp,cq,cr,ct,cu,cv,cw,cx,I.b0,aKD,aKH,aKI,aKJ,aKE,bL,aKB,aKK,aKC,cy,cz,go_sem,vu];try rfl))) ?_;rintro⟨g,l,p⟩ ⟨a,V,W,u⟩;simp only at a V W u;cases g with
    |zero=>cases a|succ g =>
     rw[DR]at a;obtain⟨j,w⟩:∃j,j=s.length-p.length:=⟨_,rfl⟩;obtain⟨c,z⟩:∃c,c=vu 25 l:=⟨_,rfl⟩;have A:=aMX 25 l;rw[<-z]at A;have G:=aMR 25 l;rw[<-z]at G;have vS:=Ho u;by_cases ar:p=[]
     ·rw[if_pos ar]at a;simp only[Option.some.injEq,Prod.mk.injEq]at a;obtain⟨rfl,rfl⟩:=a;subst ar;have d:=DT ah u m 41;have X:s.length-([]:ak).length=s.length:=rfl;rw[<-z];rcases A with⟨b,B⟩|b
      all_goals rw[b]at G ⊢
      all_goals (repeat' first|simp(disch:=first|exact ai|fail) only[go_sem,ep,X,Nat.sub_zero]|(refine ao ?_ ?_<;>intro)|refine cA d ?_)
      all_goals exact⟨_,rfl,enc (I.mk n l),(by first|exact DV G|exact DV (bx.refl _)),Enc.iI _,d8⟩
     ·rw[if_neg ar]at a;have C:decide ((j:Int)<s.length)=true:=decide_eq_true ms;split at a
      ·cases a
      ·rename_i o E O;have ba:=DU ah u m;rw[show ep s p=.cells [.str s,.int .i64 (j:Int)] by rw[ep,w]]at ba;have P:=(xC p).trans u;have F:=Hp k g am am O ah P m;have R:=(zh O).trans P;have d:=DT ah R m 44;have J:=(um 44 E).trans R;have t3:=DT ah J m 41;rw[<-z];cases S:(hJ 44 E).1 with
       |true =>
        rw[S]at a d;rw[if_pos rfl]at a;rcases A with⟨b,B⟩|b
        ·rw[b]
         (repeat' first|simp(disch:=first|exact ai|fail) only[go_sem,ep,<-w,C]|(refine ao ?_ ?_<;>intro)|refine cA ba ?_|refine cA F ?_|refine cA d ?_)
         exact⟨(g,l++[o],(hJ 44 E).2),⟨a,am,d9,J⟩,be,by(first|rfl|(simp(disch:=first|exact aX|fail) only[b7,aKF,aKG,Env.ins,cp,cq,cr,ct,cu,cv,cw,cx,I.b0,aKD,aKH,aKI,aKJ,aKE,bL,aKB,aKK,aKC,cy,cz,go_sem,aml,B,ep,List.nil_append];try rfl))⟩
        ·rw[b]
         (repeat' first|simp(disch:=first|exact ai|fail) only[go_sem,ep,<-w,C]|(refine ao ?_ ?_<;>intro)|refine cA ba ?_|refine cA F ?_|refine cA d ?_)
         exact⟨(g,l++[o],(hJ 44 E).2),⟨a,am,d9,J⟩,be,by(first|rfl|(simp(disch:=first|exact aX|fail) only[b7,aKF,aKG,Env.ins,cp,cq,cr,ct,cu,cv,cw,cx,I.b0,aKD,aKH,aKI,aKJ,aKE,bL,aKB,aKK,aKC,cy,cz,go_sem,aml,ep];try rfl))⟩
       |false =>
        rw[S]at a d;simp only[aKQ,if_false,Option.some.injEq,Prod.mk.injEq]at a;obtain⟨rfl,rfl⟩:=a;have Y:bx (.list (some 25) 2 (l.map I.enc++[o.enc])) (.list none 2 ((l++[o]).map I.enc)):=by rw[aKB];exact bx.disown _ _ _
        rcases A with⟨b,B⟩|b
        ·rw[b]
         (repeat' first|simp(disch:=first|exact ai|fail) only[go_sem,ep,<-w,C]|(refine ao ?_ ?_<;>intro)|refine cA ba ?_|refine cA F ?_|refine cA d ?_|refine cA t3 ?_)
         exact⟨_,rfl,enc (I.mk n (l++[o])),DV (by rw[B];exact bx.refl _),Enc.iI _,d8⟩
        ·rw[b]
         (repeat' first|simp(disch:=first|exact ai|fail) only[go_sem,ep,<-w,C]|(refine ao ?_ ?_<;>intro)|refine cA ba ?_|refine cA F ?_|refine cA d ?_|refine cA t3 ?_)
         exact⟨_,rfl,enc (I.mk n (l++[o])),(by first|exact DV Y|exact DV (by rw[aKB];exact bx.refl _)),Enc.iI _,d8⟩
open Enc (enc)
theorem aMY(e:Nat)(l:List AV):(uo e l=.aS 3/\l=[])\/uo e l=.list (some e) 3 l:=by
 unfold uo;split
 ·rename_i h;exact .inl ⟨rfl,h⟩
 ·exact .inr rfl
theorem Hq(e:Nat)(l:List AV)(t:AV):uo e (l++[t])=.list (some e) 3 (l++[t]):=by
 rw[uo,if_neg be]
theorem amm(e:Nat)(t:AV):uo e [t]=.list (some e) 3 [t]:=Hq e [] t
variable {t:I}
theorem zi{b:List Lit}(h:bx v (.list none 3 (b.map Lit.enc))):bx (.agg [.str t.name,.list none 2 (t.args.map I.enc),v]) (enc (aU.mk t b)) :=
 bx.agg (.cons (bx.refl _) (.cons (bx.refl _) (.cons h .nil)))
variable {q:ak}
theorem aMZ(f:Nat)(aW:f<=1000000){y:aU}(h:Hm f n r=some (y,q))(ah:x<H.length)(ax:r <:+ s)(w:s.length<=M) :
  bB ν aD 63 [.ptr x 0,.str n] (H.set x (ep s r)) λv H'=>v=enc y/\H'=H.set x (ep s q):=by
 have cP:M=1099511627776:=rfl;unfold Hm at h;split at h
 ·cases h
 rename_i t aj Z;split at h
 ·cases h
 rename_i b av aR;simp only[Option.some.injEq,Prod.mk.injEq]at h;obtain⟨rfl,rfl⟩:=h;have t1:=Hp f f (aKM _) aW Z ah ax w;have s1:=(zh Z).trans ax;refine bB.kX (bB.intro (D:=na) ayD ?_);unfold aai
 (repeat' first|simp(disch:=first|exact ai|fail) only[go_sem]|(refine ao ?_ ?_<;>intro)|refine cA t1 ?_)
 refine bQ (λi:Nat×List Lit×ak=>⟨N [(0,.v (.ptr x 0)),(4,.b [.str [],.aS 2,.aS 3]),(5,.b [.str t.name,.list none 2 (t.args.map I.enc),uo 63 (i.2.1.map Lit.enc)])],H.set x (ep s i.2.2)⟩) (λi=>DS i.1 i.2.1 i.2.2=some (b,av)/\i.2.1.length+i.1<=f/\i.2.2 <:+ s) (λi=>i.1) (f,[],aj) ⟨aR,be,s1⟩ (by(try simp(disch:=first|exact ai|fail) only[go_sem])<;>(first|rfl|(simp(disch:=first|exact aX|fail) only[b7,aKF,aKG,Env.ins,cp,cq,cr,ct,cu,cv,cw,cx,I.b0,aKD,aKH,aKI,aKJ,aKE,bL,aKB,aKK,aKC,cy,cz,go_sem,uo,aKC];try rfl))) ?_;rintro⟨g,l,p⟩ ⟨a,i3,R⟩;simp only at a i3 R;cases g with
 |zero=>cases a|succ g =>
  rw[DS]at a;obtain⟨j,u⟩:∃j,j=s.length-p.length:=⟨_,rfl⟩;obtain⟨c,S⟩:∃c,c=uo 63 (l.map Lit.enc):=⟨_,rfl⟩;have z:=aMY 63 (l.map Lit.enc);rw[<-S]at z;have k:=aMS 63 (l.map Lit.enc);rw[<-S]at k;have vS:=Ho R;rw[<-S];by_cases ar:p=[]
  ·rw[if_pos ar]at a;simp only[Option.some.injEq,Prod.mk.injEq]at a;obtain⟨rfl,rfl⟩:=a;subst ar;have e0:s.length-([]:ak).length=s.length:=rfl;rcases z with⟨d,A⟩|d
   all_goals rw[d]at k ⊢
   all_goals (repeat' first|simp(disch:=first|exact ai|fail) only[go_sem,ep,e0,Nat.sub_zero]|(refine ao ?_ ?_<;>intro))
   all_goals exact⟨_,rfl,enc (aU.mk t l),io,Enc.iI _,d8⟩
  ·rw[if_neg ar]at a;have B:decide ((j:Int)<s.length)=true:=decide_eq_true ms;have e:=DT ah R w 46;have s2:=(um 46 p).trans R;rw[show ep s p=.cells [.str s,.int .i64 (j:Int)] by rw[ep,u]]at e;cases aF:(hJ 46 p).1 with
   |true =>
    rw[aF]at a e;simp only[if_true,Option.some.injEq,Prod.mk.injEq]at a;obtain⟨rfl,rfl⟩:=a;rcases z with⟨d,A⟩|d
    all_goals rw[d]at k ⊢
    all_goals (repeat' first|simp(disch:=first|exact ai|fail) only[go_sem,ep,<-u,B]|(refine ao ?_ ?_<;>intro)|refine cA e ?_)
    all_goals exact⟨_,rfl,enc (aU.mk t l),io,Enc.iI _,d8⟩
   |false =>
    rw[aF]at a e;simp only[aKQ,if_false]at a;have ba:=DU ah s2 w;have j2:=(xC (hJ 46 p).2).trans s2;have C:=DU ah j2 w;have rl:=(xC (lq (hJ 46 p).2).2).trans j2;have E:=(ami (xA p)).trans rl;obtain⟨W,eY⟩:∃W,W=xA p:=⟨_,rfl⟩;have J:=DU ah rl w;rw[show lq (lq (hJ 46 p).2).2=W from eY.symm]at C J;rw[<-eY]at a E;obtain⟨V,T⟩:∃V,V=xB W:=⟨_,rfl⟩;rw[<-T]at a E;by_cases G:W.1=[110,111,116]
    ·have X:V=lq W.2:=by rw[T,xB,if_pos G]
     rw[<-X]at J;have F:(W.1==([110,111,116]:ak))=true:=by rw[G];rfl
     rw[show decide (W.1=[110,111,116])=true from decide_eq_true G]at a;by_cases m:V.1=[]
     ·have o:(V.1==([]:ak))=true:=by rw[m];rfl
      rw[if_pos m]at a;simp only[Option.some.injEq,Prod.mk.injEq]at a;obtain⟨rfl,rfl⟩:=a;rcases z with⟨d,A⟩|d
      all_goals rw[d]at k ⊢
      all_goals (repeat' first|simp(disch:=first|exact ai|fail) only[go_sem,ep,<-u,B,F,o]|(refine ao ?_ ?_<;>intro)|refine cA e ?_|refine cA ba ?_|refine cA C ?_|refine cA J ?_)
      all_goals exact⟨_,rfl,enc (aU.mk t l),io,Enc.iI _,d8⟩
     ·have o:(V.1==([]:ak))=false:=beq_eq_false_iff_ne.2 m;rw[if_neg m]at a;split at a
      ·cases a
      ·rename_i K L O;have P:=Hp g g (aKM _) am O ah E w;have Q:=(zh O).trans E;have Y:(l.map Lit.enc).length<=1000000:=by rw[aKD];omega
       rcases z with⟨d,A⟩|d
       ·rw[d]
        (repeat' first|simp(disch:=first|exact ai|fail) only[go_sem,ep,<-u,B,F,o]|(refine ao ?_ ?_<;>intro)|refine cA e ?_|refine cA ba ?_|refine cA C ?_|refine cA J ?_|refine cA P ?_)
        exact⟨(g,l++[⟨true,K⟩],L),⟨a,d9,Q⟩,be,by(first|rfl|(simp(disch:=first|exact aX|fail) only[b7,aKF,aKG,Env.ins,cp,cq,cr,ct,cu,cv,cw,cx,I.b0,aKD,aKH,aKI,aKJ,aKE,bL,aKB,aKK,aKC,cy,cz,go_sem,Hq,amm,A,Lit.enc,ep,List.nil_append];try rfl))⟩
       ·rw[d]
        (repeat' first|simp(disch:=first|exact ai|fail) only[go_sem,ep,<-u,B,F,o]|(refine ao ?_ ?_<;>intro)|refine cA e ?_|refine cA ba ?_|refine cA C ?_|refine cA J ?_|refine cA P ?_)
        exact⟨(g,l++[⟨true,K⟩],L),⟨a,d9,Q⟩,be,by(first|rfl|(simp(disch:=first|exact aX|fail) only[b7,aKF,aKG,Env.ins,cp,cq,cr,ct,cu,cv,cw,cx,I.b0,aKD,aKH,aKI,aKJ,aKE,bL,aKB,aKK,aKC,cy,cz,go_sem,Hq,Lit.enc,ep];try rfl))⟩
    ·have X:V=W:=by rw[T,xB,if_neg G]
     rw[X]at a E;have F:(W.1==([110,111,116]:ak))=false:=beq_eq_false_iff_ne.2 G;rw[show decide (W.1=[110,111,116])=false from decide_eq_false G]at a;by_cases m:W.1=[]
     ·have o:(W.1==([]:ak))=true:=by rw[m];rfl
      rw[if_pos m]at a;simp only[Option.some.injEq,Prod.mk.injEq]at a;obtain⟨rfl,rfl⟩:=a;rcases z with⟨d,A⟩|d
      all_goals rw[d]at k ⊢
      all_goals (repeat' first|simp(disch:=first|exact ai|fail) only[go_sem,ep,<-u,B,F,o]|(refine ao ?_ ?_<;>intro)|refine cA e ?_|refine cA ba ?_|refine cA C ?_)
      all_goals exact⟨_,rfl,enc (aU.mk t l),io,Enc.iI _,d8⟩
     ·have o:(W.1==([]:ak))=false:=beq_eq_false_iff_ne.2 m;rw[if_neg m]at a;split at a
      ·cases a
      ·rename_i K L O;have P:=Hp g g (aKM _) am O ah E w;have Q:=(zh O).trans E;have Y:(l.map Lit.enc).length<=1000000:=by rw[aKD];omega
       rcases z with⟨d,A⟩|d
       ·rw[d]
        (repeat' first|simp(disch:=first|exact ai|fail) only[go_sem,ep,<-u,B,F,o]|(refine ao ?_ ?_<;>intro)|refine cA e ?_|refine cA ba ?_|refine cA C ?_|refine cA P ?_)
        exact⟨(g,l++[⟨false,K⟩],L),⟨a,d9,Q⟩,be,by(first|rfl|(simp(disch:=first|exact aX|fail) only[b7,aKF,aKG,Env.ins,cp,cq,cr,ct,cu,cv,cw,cx,I.b0,aKD,aKH,aKI,aKJ,aKE,bL,aKB,aKK,aKC,cy,cz,go_sem,Hq,amm,A,Lit.enc,ep,List.nil_append];try rfl))⟩
       ·rw[d]
        (repeat' first|simp(disch:=first|exact ai|fail) only[go_sem,ep,<-u,B,F,o]|(refine ao ?_ ?_<;>intro)|refine cA e ?_|refine cA ba ?_|refine cA C ?_|refine cA P ?_)
        exact⟨(g,l++[⟨false,K⟩],L),⟨a,d9,Q⟩,be,by(first|rfl|(simp(disch:=first|exact aX|fail) only[b7,aKF,aKG,Env.ins,cp,cq,cr,ct,cu,cv,cw,cx,I.b0,aKD,aKH,aKI,aKJ,aKE,bL,aKB,aKK,aKC,cy,cz,go_sem,Hq,Lit.enc,ep];try rfl))⟩
theorem aM0(f:Nat)(z:f<=1000000){L:List aU}(h:Bh f [] s=some L):aA ν aD 33 [enc s] (enc L):=by
 refine aA.h4 λb=>?_;have A:M=1099511627776:=rfl;have b:s.length<=M:=b;refine aA.gK (D:=na) V2 cX rfl (Enc.iI _) ?_;unfold tI;refine ag ?_;refine bQ (λi:Nat×List aU×ak=>⟨N [(3,.v (.ptr 0 0)),(4,.v (.list (some 61) 3 (i.2.1.map aU.enc)))],[ep s i.2.2]⟩) (λi=>Bh i.1 i.2.1 i.2.2=some L/\i.2.1.length+i.1<=f/\i.2.2 <:+ s) (λi=>i.1) (f,[],s) ⟨h,be,aKX⟩ (by(try simp(disch:=first|exact ai|fail) only[go_sem])<;>(first|rfl|(simp(disch:=first|exact aX|fail) only[b7,aKF,aKG,Env.ins,cp,cq,cr,ct,cu,cv,cw,cx,I.b0,aKD,aKH,aKI,aKJ,aKE,bL,aKB,aKK,aKC,cy,cz,go_sem,aKC,ep,Nat.sub_self];try rfl))) ?_;rintro⟨g,l,p⟩ ⟨a,o,d⟩;simp only at a o d;cases g with
 |zero=>cases a|succ g =>
  rw[Bh]at a;have ba:=DU (H:=[ay.dead]) (x:=0) dw d b;have j:=(xC p).trans d;obtain⟨W,u⟩:∃W,W=lq p:=⟨_,rfl⟩;rw[<-u]at a ba j;simp only[aK2]at ba;by_cases c:W.1=[]
  ·have k:(W.1==([]:ak))=true:=by rw[c];rfl
   rw[if_pos c]at a;simp only[Option.some.injEq]at a;subst a
   (repeat' first|simp(disch:=first|exact ai|fail) only[go_sem,k]|(refine ao ?_ ?_<;>intro)|refine cA ba ?_)
   exact⟨_,rfl,g8⟩
  ·have k:(W.1==([]:ak))=false:=beq_eq_false_iff_ne.2 c;rw[if_neg c]at a;split at a
   ·cases a
   ·rename_i y q e;have m:=aMZ g am (H:=[ay.dead]) (x:=0) e dw j b;simp only[aK2]at m;have w:=(aMQ e).trans j
    (repeat' first|simp(disch:=first|exact ai|fail) only[go_sem,k]|(refine ao ?_ ?_<;>intro)|refine cA ba ?_|refine cA m ?_)
    exact⟨(g,l++[y],q),⟨a,d9,w⟩,be,by(first|rfl|(simp(disch:=first|exact aX|fail) only[b7,aKF,aKG,Env.ins,cp,cq,cr,ct,cu,cv,cw,cx,I.b0,aKD,aKH,aKI,aKJ,aKE,bL,aKB,aKK,aKC,cy,cz,go_sem,ep];try rfl))⟩
variable {L:List I}
theorem aM1(f:Nat)(E:f<=1000000)(h:Bi f [] s=some L):aA ν aD 34 [enc s] (enc L):=by
 refine aA.h4 λb=>?_;have F:M=1099511627776:=rfl;have b:s.length<=M:=b;refine aA.gK (D:=na) ayj cX rfl (Enc.iI _) ?_;unfold Zg;refine ag ?_;refine bQ (λi:Nat×List I×ak=>⟨N [(3,.v (.ptr 0 0)),(4,.v (.list (some 25) 2 (i.2.1.map I.enc)))],[ep s i.2.2]⟩) (λi=>Bi i.1 i.2.1 i.2.2=some L/\i.2.1.length+i.1<=f/\i.2.2 <:+ s) (λi=>i.1) (f,[],s) ⟨h,be,aKX⟩ (by(try simp(disch:=first|exact ai|fail) only[go_sem])<;>(first|rfl|(simp(disch:=first|exact aX|fail) only[b7,aKF,aKG,Env.ins,cp,cq,cr,ct,cu,cv,cw,cx,I.b0,aKD,aKH,aKI,aKJ,aKE,bL,aKB,aKK,aKC,cy,cz,go_sem,aKC,ep,Nat.sub_self];try rfl))) ?_;rintro⟨g,l,p⟩ ⟨a,A,d⟩;simp only at a A d;cases g with
 |zero=>cases a|succ g =>
  rw[Bi]at a;obtain⟨j,k⟩:∃j,j=s.length-p.length:=⟨_,rfl⟩;have G:=Ho d;by_cases ar:p=[]
  ·rw[if_pos ar]at a;simp only[Option.some.injEq]at a;subst a;subst ar;have B:s.length-([]:ak).length=s.length:=rfl
   (repeat' first|simp(disch:=first|exact ai|fail) only[go_sem,ep,B,Nat.sub_zero]|(refine ao ?_ ?_<;>intro))
   exact⟨_,rfl,g8⟩
  ·rw[if_neg ar]at a;have o:decide ((j:Int)<s.length)=true:=decide_eq_true ms;have ba:=DU (H:=[ay.dead]) (x:=0) dw d b;have u:=(xC p).trans d;rw[show ep s p=.cells [.str s,.int .i64 (j:Int)] by rw[ep,k]]at ba;split at a
   ·cases a
   ·rename_i y q e;have m:=Hp g g (aKM _) am (H:=[ay.dead]) (x:=0) e dw u b;have w:=(zh e).trans u;have c:=DT (H:=[ay.dead]) (x:=0) dw w b 44;have C:=(um 44 q).trans w;simp only[aK2]at m ba c;cases z:(hJ 44 q).1 with
    |true =>
     rw[z]at a c;rw[if_pos rfl]at a
     (repeat' first|simp(disch:=first|exact ai|fail) only[go_sem,ep,<-k,o]|(refine ao ?_ ?_<;>intro)|refine cA ba ?_|refine cA m ?_|refine cA c ?_)
     exact⟨(g,l++[y],(hJ 44 q).2),⟨a,d9,C⟩,be,by(first|rfl|(simp(disch:=first|exact aX|fail) only[b7,aKF,aKG,Env.ins,cp,cq,cr,ct,cu,cv,cw,cx,I.b0,aKD,aKH,aKI,aKJ,aKE,bL,aKB,aKK,aKC,cy,cz,go_sem,ep];try rfl))⟩
    |false =>
     rw[z]at a c;simp only[aKQ,if_false,Option.some.injEq]at a;subst a
     (repeat' first|simp(disch:=first|exact ai|fail) only[go_sem,ep,<-k,o]|(refine ao ?_ ?_<;>intro)|refine cA ba ?_|refine cA m ?_|refine cA c ?_)
     exact⟨_,rfl,by first|exact bx.disown _ _ _|(rw[I.sB,aKB];first|exact bx.disown _ _ _|exact bx.refl _)|(show bx _ (.list none 2 ((l++[y]).map I.enc));rw[aKB];first|exact bx.disown _ _ _|exact bx.refl _)⟩
open Enc (enc)
def gu(s:ak):List aU:=(Bh 99 [] s).getD []
def fZ(s:ak):List I:=(Bi 99 [] s).getD []
def gr(s:ak):I:=((zg 99 (lq s).1 (lq s).2).getD default).1
noncomputable def P3:List iZ:=[(33,eh λ(s:ak)=>enc (gu s)),
 (34,eh λ(s:ak)=>enc (fZ s)),
 (35,eh λ(s:ak)=>enc (gr s)),
 (23,hj λ(l:List ak)(m:List ak)=>enc (decide (l=m)))]
noncomputable def jI:bj:=ij Bc (e1 P3)
instance aKm{D:bj}[h:bt D jI]:bt D Bc:=h.ke
def P4:List Nat:=[33,34,35,23]++PH
theorem aeq:fq jI P4:=fq.or aeb (kf P3)
theorem JL{f:Nat}{F:List AV->Option AV}(h:∀xs,e1 P3 f xs=F xs)(hk:PH.contains f=false:=by rfl):∀xs,jI f xs=F xs:=λxs=>by rw[<-h];exact kg aeb hk
variable {D:bj}{x1:AV}{K:AV->Prop}{tg:aN K}
theorem aNd[bt D jI][aT x1 s](h:aA ν aD 33 [enc s] (enc (gu s))):b1 ν aD D 33 [x1] K tg=K (enc (gu s)):=ec (D':=jI) (F:=λ(s:ak)=>enc (gu s)) (JL λ_=>rfl) h
theorem aNe[bt D jI][aT x1 s](h:aA ν aD 34 [enc s] (enc (fZ s))):b1 ν aD D 34 [x1] K tg=K (enc (fZ s)):=ec (D':=jI) (F:=λ(s:ak)=>enc (fZ s)) (JL λ_=>rfl) h
theorem ayK[bt D jI][aT x1 s](h:aA ν aD 35 [enc s] (enc (gr s))):b1 ν aD D 35 [x1] K tg=K (enc (gr s)):=ec (D':=jI) (F:=λ(s:ak)=>enc (gr s)) (JL λ_=>rfl) h
theorem ayV(f:Nat)(c:f<=1000000)(h:zg f (lq s).1 (lq s).2=some (t,q)):aA ν aD 35 [enc s] (enc t):=by
 refine aA.h4 λa=>?_;have e:M=1099511627776:=rfl;have a:s.length<=M:=a;have ba:=DU (H:=[ay.dead]) (x:=0) dw (aKX (l:=s)) a;have d:=xC s;have b:=Hp f f (aKM _) c (H:=[ay.dead]) (x:=0) h dw d a;rw[show ep s s=.cells [.str s,.int .i64 0] by rw[ep,Nat.sub_self];rfl]at ba;simp only[aK2]at ba b;refine aA.intro (D:=na) Fq cX c7 ?_;unfold kC;simp(disch:=first|exact ai|fail) only[go_sem]
 (repeat' first|simp(disch:=first|exact ai|fail) only[go_sem,ep]|(refine ao ?_ ?_<;>intro)|refine cA ba ?_|refine cA b ?_)
 all_goals rfl
theorem ayW(l m:List ak):aA ν aD 23 [enc l,enc m] (enc (decide (l=m))):=by
 refine aA.sy λc f=>?_;have g:M=1099511627776:=rfl;obtain⟨c,_⟩:=c;by_cases d:l.length=m.length
 ·have cG:((l.length:Int) != (m.length:Int))=false:=by rw[d];simp
  refine aA.intro (D:=Bc) ayc cX c7 ?_;unfold YR;simp(disch:=first|exact ai|fail) only[go_sem];refine bU @cG ?_;refine bQ (λi:Nat=>⟨N [(0,.v (enc l)),(1,.v (enc m)),(12,.v (enc l.length)),(13,.v (enc i))],[]⟩) (λi=>i<=l.length/\l.take i=m.take i) (λi=>l.length-i) 0 ⟨aKS _,rfl⟩ ew ?_;rintro i ⟨j,b⟩;rcases aKW i l.length with h|h
  ·cases a:l[i]! ==m[i]! with
   |true =>
    refine bU @a ?_;exact⟨i+1,⟨am,by rw[bL h,bL am,b,eq_of_beq a]⟩,am,ci⟩
   |false =>
    have hd:decide (l=m)=false:=decide_eq_false λe=>by rw[e]at a;simp at a
    rw[hd]
    (repeat' first|simp(disch:=first|exact ai|fail) only[go_sem,a]|(refine ao ?_ ?_<;>intro))
    all_goals rfl
  ·have hd:decide (l=m)=true:=decide_eq_true (by rw[aKY h,aKY am]at b;exact b);rw[hd]
   (repeat' first|simp(disch:=first|exact ai|fail) only[go_sem]|(refine ao ?_ ?_<;>intro))
   all_goals rfl
 ·have hd:decide (l=m)=false:=decide_eq_false λe=>d (by rw[e]);have cG:((l.length:Int) != (m.length:Int))=true:=by simp;omega
  rw[hd];refine aA.intro (D:=Bc) ayc cX c7 ?_;unfold YR;simp(disch:=first|exact ai|fail) only[go_sem]
  (repeat' first|refine bU @cG ?_|(refine ao ?_ ?_<;>intro))
  all_goals rfl
theorem ayX[bt D jI]{x2:AV}{l:List ak}{m:List ak}[aT x1 l][aT x2 m]  :b1 ν aD D 23 [x1,x2] K tg=K (enc (decide (l=m))):=ik (D':=jI) (F:=λ(l:List ak)(m:List ak)=>enc (decide (l=m))) (JL λ_=>rfl) (ayW l m)
attribute [go_sem ↓ 2000] ayX
def lS:ak:=[112,40,88,41,32,105,102,32,113,40,88,41,32,97,110,100,32,116,114,117,101,40,88,41,46,32,113,40,97,41,46,32,113,40,98,41,46,32,114,32,105,102,32,112,40,97,41,46]
def uV:ak:=[116,114,117,101,40,97,41]
def xF:ak:=[112,40,97,41]
def vo:ak:=[116,114,117,101,40,98,41]
def rX:ak:=[112,40,88,41]
def lT:ak:=[114]
def nG:bp:=iB (kB (gu lS)) (fZ uV)
def Bf:bp:=((iX nG (gr rX)).getD (nG,[],0)).1
def xG:bp:=((iX Bf (gr lT)).getD (nG,[],0)).1
def vp:bp:=iB xG (fZ vo)
def P5:bp:=((iX vp (gr lT)).getD (nG,[],0)).1
theorem P6{o:Option (bp×List I×Nat)}{d:bp×List I×Nat}{e:Nat}(f:o.isSome=true)(c:(o.getD d).2=(L,e)):o=some ((o.getD d).1,L,e):=by
 cases o with
 |none=>cases f|some x=>obtain⟨a,b⟩:=x;simp only[Option.getD_some]at c ⊢;rw[c]
theorem ay3:((Bh 99 [] lS).isSome&&decide (e6 (gu lS)=0)&&(gu lS).all λr=>(dx r).all λa=>decide (cc a<=1000000))=true:=by kernel_rfl
theorem ay4:[uV,xF,vo].all (λs=>(Bi 99 [] s).isSome&&decide ((fZ s).length<=1000))=true:=by kernel_rfl
theorem aer:[rX,lT].all (λs=>(zg 99 (lq s).1 (lq s).2).isSome&&decide (kl (gr s)<=100)&&cD 4 (gr s) true)=true:=by kernel_rfl
theorem ay5:iz [] (fZ uV)=some (fZ uV,0):=by kernel_rfl
theorem ay6:iz [] (fZ vo)=some (fZ vo,0):=by kernel_rfl
theorem azl:(iX nG (gr rX)).isSome=true:=by kernel_rfl
theorem azm:((iX nG (gr rX)).getD (nG,[],0)).2=(fZ xF,0):=by kernel_rfl
theorem azn:(iX Bf (gr lT)).isSome=true:=by kernel_rfl
theorem azo:((iX Bf (gr lT)).getD (nG,[],0)).2=([gr lT],0):=by kernel_rfl
theorem azp:(iX vp (gr lT)).isSome=true:=by kernel_rfl
theorem azq:((iX vp (gr lT)).getD (nG,[],0)).2=([],0):=by kernel_rfl
theorem azr:xG.work=3/\P5.work=5:=⟨co,co⟩
theorem azs:mV xG=[[112],[113],[114]]/\mV vp=[[113]]:=⟨co,co⟩
theorem azt:cD 4 (gr lT) false=true:=by kernel_rfl
open Enc (enc)
section
variable {H:List ay}{id mid:Nat}{q:bp}
theorem P8(h:bf H id mid q)(ae:iY q){g A:List I}(cE:iz [] g=some (A,0)):kv ν aD 13 [.ptr id 0,enc g] H λr H'=>r=.int .i64 0/\mq (λi=>i=id\/i=mid) H H'/\bf H' id mid (iB q A):=by
 have d:M=1099511627776:=rfl;have e:=(DN cE).1;have f:=ae.g;obtain⟨b,c⟩:=And.intro (ad4 h g ae.e ae.h am cE am) (ayz h A 0);refine⟨b.mono λr H' a=>?_,?_⟩
 ·rw[if_pos rfl]at a;exact⟨a.2.1,a.1,a.2.2⟩
 ·obtain⟨r,H',a⟩:=c;rw[if_pos rfl]at a;exact⟨r,H',a.2.1,a.1,a.2.2⟩
variable {hT:bp}{e:Nat}
theorem yu(h:bf H id mid q)(ae:iY q){p:I}(ar:kl p<=M)(de:iX q p=some (hT,L,e)):kv ν aD 14 [.ptr id 0,enc p] H λr H'=>r=.bg [enc L,.int .i64 (e:Int)]/\mq (λi=>i=id\/i=mid) H H'/\bf H' id mid hT :=
 ⟨ad6 h ae p ar de,PG h p de⟩
theorem aes(h:bf H id mid q)(ae:iY q){a:I}(aG:cD 4 a false=true)(de:iX q a=some (hT,L,e))(cf:L.length<=M):kv ν aD 18 [.ptr id 0,enc a] H λr H'=>r=.bg [.bool (decide (0<L.length)),.int .i64 (e:Int)]/\mq (λi=>i=id\/i=mid) H H'/\bf H' id mid hT:=by
 refine⟨ad7 h ae a (axR aG) (λ_=>de) (λh=>by rw[aG]at h;cases h) cf,?_⟩;obtain⟨_,H',-,b,c⟩:=PG h a de;exact⟨_,H',rfl,b,c⟩
theorem mq.azu{H':List ay}(h:mq (λ_=>False) H H')(a:bf H id mid q):bf H' id mid q:=by
 obtain⟨b,aE⟩:=a.o;obtain⟨jd,m,hm,_⟩:=a.m;exact a.of (h.2 _ (dq aE) (λh=>h)) (h.2 _ (dq hm) (λh=>h))
theorem FA(h:bf H id mid q)(ae:iY q){X:List ak}(bA:mV q=X):kv ν aD 22 [.ptr id 0] H λr H'=>r=enc X/\mq (λ_=>False) H H'/\bf H' id mid q:=by
 subst bA;exact⟨(axP h ae.h).mono λr H' a=>⟨a.1,a.2,a.2.azu h⟩,_,H,rfl,mq.refl _ _,h⟩
end
theorem aNg:aA ν aD 11 [] (enc true):=by
 have cP:M=1099511627776:=rfl;have aK:=ay3;simp only[aKL,decide_eq_true_eq,aKN]at aK;obtain⟨⟨c,d⟩,f⟩:=aK;have aG:∀s∈[uV,xF,vo],∀(L:List I),fZ s=L->∀(K:AV->Prop)(tg:aN K),b1 ν aD jI 34 [.str s] K tg=K (enc L):=λs ax L e K tg=>by
  have:=aKN.1 ay4 s ax;simp only[aKL]at this;obtain⟨x,ah⟩:=aKR.1 this.1;exact e▸aNe (D:=jI) (x1:=.str s) (by have h:=aM1 99 am ah;rw[show x=fZ s by rw[fZ,ah];rfl]at h;exact h)
 have p:∀s∈[rX,lT],∀(t:I),gr s=t->∀(K:AV->Prop)(tg:aN K),b1 ν aD jI 35 [.str s] K tg=K (enc t):=λs ax t e K tg=>by
  have:=aKN.1 aer s ax;simp only[aKL]at this;obtain⟨⟨x,y⟩,ah⟩:=aKR.1 this.1.1;exact e▸ayK (D:=jI) (x1:=.str s) (by have h:=ayV 99 am ah;rw[show x=gr s by rw[gr,ah];rfl]at h;exact h)
 have ky:∀(K:AV->Prop)(tg:aN K),b1 ν aD jI 33 [.str lS] K tg=K (enc (gu lS)):=λK tg=>by
  obtain⟨x,ah⟩:=aKR.1 c;exact aNd (D:=jI) (x1:=.str lS) (by have h:=aM0 99 am ah;rw[show x=gu lS by rw[gu,ah];rfl]at h;exact h)
 have dL:=aG uV be _ rfl;have a2:=aG xF be _ rfl;have a3:=aG vo be _ rfl;have t4:=p rX be _ rfl;have t5:=p lT be _ rfl;have u:∀s∈[rX,lT],kl (gr s)<=M:=λs ax=>by
  have:=aKN.1 aer s ax;simp only[aKL,decide_eq_true_eq]at this;have:=this.1.2;omega
 have ts:=u rX be;have Rt:=u lT be;have hd:∀r∈gu lS,∀a∈dx r,cc a<=1000000:=f;obtain⟨z6,-⟩:=wK d;have l:=iY.new z6 hd;have w:=ay5;have z:=ay6;have m:iY nG:=l.set (by have:=(DN w).1;omega);have A:iX nG (gr rX)=some (Bf,fZ xF,0):=P6 azl azm;have bh:(bm nG.rules).length<=100000:=m.h;obtain⟨B,g1,-,dN⟩:=m.ask (by have:nG.work=0:=rfl;omega) A;have C:iX Bf (gr lT)=some (xG,[gr lT],0):=P6 azn azo;obtain⟨o,-,-,fu⟩:=B.ask (by have:nG.work=0:=rfl;rw[g1];omega) C;have E:iY vp:=o.set (by have:=(DN z).1;omega);have gv:iX vp (gr lT)=some (P5,[],0):=P6 azp azq;obtain⟨dZ,en⟩:=azr;obtain⟨lD,uS⟩:=azs;have WW:=azt;have g:(gu lS).length<=100000:=l.r;have j:=PC (H:=[]) (gu lS) g hd;have po:kv ν aD 12 [enc (gu lS)] [] λr b=>r=.bg [.ptr 1 0,.int .i64 0]/\bf b 1 0 (kB (gu lS)):=by
  have key:∀r b,JA (gu lS) [] r b->r=.bg [.ptr 1 0,.int .i64 0]/\bf b 1 0 (kB (gu lS)):=λr b h=>by
   rcases h with⟨h,-⟩|⟨-,h1,-,ab⟩
   ·exact absurd d h
   ·exact⟨h1,ab⟩
  obtain⟨r,b,ah⟩:=aep [] (gu lS);exact⟨j.mono key,r,b,key r b ah⟩
 have F:∀{H:List ay},bf H 1 0 (kB (gu lS))->kv ν aD 13 [.ptr 1 0,enc (fZ uV)] H λr b=>r=.int .i64 0/\mq (λi=>i=1\/i=0) H b/\bf b 1 0 nG:=λh=>P8 h l w;have G:∀{H:List ay},bf H 1 0 xG->kv ν aD 13 [.ptr 1 0,enc (fZ vo)] H λr b=>r=.int .i64 0/\mq (λi=>i=1\/i=0) H b/\bf b 1 0 vp:=λh=>P8 h o z;have J:=λ{H:List ay}(h:bf H 1 0 nG)=>yu h m ts A;have O:=λ{H:List ay}(h:bf H 1 0 vp)=>yu h E Rt gv;have P:=λ{H:List ay}(h:bf H 1 0 Bf)=>aes h B WW C (by simp only[aKP,aKZ];omega);have Q:∀{H:List ay},bf H 1 0 xG->bB ν aD 21 [.ptr 1 0] H λr b=>r=.int .i64 3/\b=H:=λh=>by have:=PL h;rw[dZ]at this;exact this
 have R:∀{H:List ay},bf H 1 0 P5->bB ν aD 21 [.ptr 1 0] H λr b=>r=.int .i64 5/\b=H:=λh=>by have:=PL h;rw[en]at this;exact this
 obtain⟨S,k⟩:∃S:List ak,S=[[112],[113],[114]]:=⟨_,rfl⟩;obtain⟨T,sr⟩:∃T:List ak,T=[[113]]:=⟨_,rfl⟩;rw[<-k]at lD;rw[<-sr]at uS;have V:=λ{H:List ay}(h:bf H 1 0 xG)=>FA h o lD;have W:=λ{H:List ay}(h:bf H 1 0 vp)=>FA h E uS;have X:decide (S=[[112],[113],[114]])=true:=decide_eq_true k;have Y:decide (T=[[113]])=true:=decide_eq_true sr;have BK:∀L:List I,gD L L=true:=λL=>(FN L L).2 rfl;have Z:([gr lT]:List I).length=1:=rfl;clear ts Rt u aG p hd j c f z6 g l w z m bh B o E A C gv g1 dN fu WW;generalize gu lS=aPD,fZ uV=oB,fZ xF=zD,fZ vo=aKo,gr rX=aKr,gr lT=aKs at *;unfold lS at ky;unfold uV at dL;unfold xF at a2;unfold vo at a3;unfold rX at t4;unfold lT at t5;refine aA.intro (D:=jI) ax5 rfl rfl ?_;unfold Yp
 (repeat' first|simp(disch:=first|exact ai|fail) only[go_sem,ky,dL,a2,a3,t4,t5,X,Y,BK,Z]|(refine ao ?_ ?_<;>intro)|(refine iJ po ?_;(rintro r H1 ⟨rfl,aj⟩))|(refine iJ (F aj) ?_;(rintro r H2 ⟨rfl,-,av⟩))|(refine iJ (J av) ?_;(rintro r yM ⟨rfl,-,aQ⟩))|(refine iJ (P aQ) ?_;(rintro r pV ⟨rfl,-,bG⟩))|refine cA (Q bG) ?_|(refine iJ (V bG) ?_;(rintro r oy ⟨rfl,-,ev⟩))|(refine iJ (G ev) ?_;(rintro r aeS ⟨rfl,-,py⟩))|(refine iJ (W py) ?_;(rintro r azT ⟨rfl,-,v7⟩))|(refine iJ (O v7) ?_;(rintro r aKt ⟨rfl,-,ajg⟩))|refine cA (R ajg) ?_|fail)
 all_goals rfl
open Enc (enc)
def azZ(l:List aU)(g:List I)(st:ak->Option (List I)):Prop:=∀s L,st s=some L->s∈bm l/\jo L/\∃A,mB l g (mh l s) A/\∀a,a∈L↔a∈A/\a.name=s
structure dI(l:List aU)(N:Nat)(q:bp):Prop where
 r:q.rules=l
 b:iY q
 w:q.work<=N
 g:∃g,kb l g=some true/\rO g=true/\q.given=fx g
 s:azZ l q.given q.st
variable {l:List aU}
theorem Bj{p:ak}:n∈eT l (bm l) p↔n∈bm l/\mh l p n:=by
 simp only[eT,List.mem_filter,aK4,aK3,List.mem_singleton,mh,or_comm]
theorem Tv{r:aU}(a:r∈l)(h:Hf r):r.head.name∈bm l:=PN.2 ⟨⟨r,a,rfl⟩,h.hd⟩
theorem vq{ns:List ak}{r:aU}:r∈jJ l ns↔r∈l/\r.head.name∈ns:=by
 simp only[jJ,List.mem_filter,aK4]
theorem az0(st:ak->Option (List I))(g:List I)(ns:List ak):(g++ns.flatMap λs=>(st s).getD []).length=jU st g ns:=by
 have key:∀(ns:List ak)(k:Nat),ns.foldl (λk n=>k+((st n).getD []).length) k=k+(ns.flatMap λs=>(st s).getD []).length:=λns=>by
  induction ns with
  |nil=>intro k;rfl|cons n ns ih=>intro k;rw[List.foldl_cons,ih,List.flatMap_cons,aKV];omega
 rw[aKV,jU,key]
theorem aeZ{q:bp}{A:List I} :∀(b:List ak){st:ak->Option (List I)},b.foldl (λst rel=>if fh (eb A rel) (eb q.given rel)==0 then st else oq q.rules st rel) st s=some L ->
  st s=some L/\∀rel∈b,eb A rel=eb q.given rel\/rel∉cM (mv q.rules) s
 |[],st,h=>⟨h,λ_ h=>d6⟩|rel::b,st,h=>by
  obtain⟨a,d⟩:=aeZ b h;simp only at a;split at a
  ·rename_i c;refine⟨a,λx ah=>?_⟩;rcases List.mem_cons.1 ah with rfl|ah
   ·exact .inl (Ka _ _ (λt _ u=>u5 t u) iF)
   ·exact d x ah
  ·unfold oq at a;split at a
   ·cases a
   ·rename_i c;refine⟨a,λx ah=>?_⟩;rcases List.mem_cons.1 ah with rfl|ah
    ·exact .inr iF
    ·exact d x ah
theorem TR(h:e6 l=0):(oC l).2=0:=by
 have a:=(wK h).2;unfold oC;cases b:AZ l with
 |none=>rw[b]at a;cases a|some x=>rfl
section
variable {l:List aU}{N:Nat}{q:bp}
theorem dI.TS(h:dI l N q):(∀a∈q.given,A0 a=true)/\jo q.given/\q.given.length<=512/\rO q.given=true:=by
 obtain⟨g,-,b,c⟩:=h.g;have e:=b;simp only[rO,aKL,aKN,decide_eq_true_eq]at b;have hk:∀a∈q.given,A0 a=true:=λa aG=>b.2 a ((rI _ _).1 (c▸aG));have d:q.given.length<=512:=by rw[c];exact aKO (Kf g) b.1
 exact⟨hk,c▸wZ g,d,by simp only[rO,aKL,aKN,decide_eq_true_eq];exact⟨d,hk⟩⟩
theorem dI.new(b:e6 l=0)(cf:kb l []=some true)(hd:∀r∈l,∀a∈dx r,cc a<=1000000):dI l 0 (kB l) :=
 ⟨rfl,iY.new (wK b).1 hd,aKM _,⟨[],cf,rfl,rfl⟩,λs L h=>d6⟩
theorem dI.set(i:e6 l=0)(h:dI l N q){g:List I}(cf:kb l g=some true)(d:rO g=true):dI l N (iB q (fx g)):=by
 have z:=(aHa d).1;have k:=alu (wK i).1;have hk:∀a∈fx g,A0 a=true:=λa aG=>by
  simp only[rO,aKL,aKN]at d;exact d.2 a ((rI _ _).1 aG)
 refine⟨h.r,h.b.set (by have:=Kf g;omega),h.w,⟨g,cf,d,rfl⟩,λs L ax=>?_⟩;obtain⟨m,o⟩:=aeZ sM ax;obtain⟨j,p,A,u,w⟩:=h.s s L m;refine⟨j,p,A,u.aDG k (rY l s) (λ_ h _=>h) (λ_ h _=>h) (λa y=>?_),w⟩;have b:rW a.name=true->(a∈q.given↔a∈fx g):=λb=>by
  have c:a.name∈sM:=by
   unfold rW at b;simp only[Bool.or_eq_true,beq_iff_eq]at b;simpa[sM]using b
  have hm:∀X:List I,a∈eb X a.name↔a∈X:=λX=>by simp[eb]
  rcases o _ c with e|e
  ·rw[<-hm q.given,<-hm (fx g),e]
  ·rw[h.r]at e;rcases y with f|f
   ·rw[f,aen (wK i).1 j]at b;cases b
   ·exact absurd f e
 exact⟨λaG=>(b (P1 (h.TS.1 a aG))).1 aG,λaG=>(b (P1 (hk a aG))).2 aG⟩
theorem dI.model(C:e6 l=0)(h:dI l N q)(p:ak)(k:∀s∈eT l (bm l) p,(q.st s).isSome=true) :
  mB l q.given (mh l p) (q.given++(eT l (bm l) p).flatMap λs=>(q.st s).getD []):=by
 obtain⟨J,Y⟩:=wK C;have c:=alu J;obtain⟨lv,n,L⟩:∃lv n,aPl l lv n:=Jq (TR C);obtain⟨B,fN⟩:∃B,B=q.given++(eT l (bm l) p).flatMap λs=>(q.st s).getD []:=⟨_,rfl⟩;rw[<-fN];have hm:∀a,a∈B↔a∈q.given\/∃s X,s∈eT l (bm l) p/\q.st s=some X/\a∈X:=λa=>by
  rw[fN,aK3,List.mem_flatMap];refine or_congr_right ⟨λ⟨s,ax,aG⟩=>?_,λ⟨s,X,ax,ah,aG⟩=>⟨s,ax,by rw[ah];exact aG⟩⟩;obtain⟨X,bA⟩:=aKR.1 (k s ax);rw[bA]at aG;exact⟨s,X,ax,bA,aG⟩
 -- each stored relation's model agrees with all that is stored
 have b:∀s∈eT l (bm l) p,∀A,mB l q.given (mh l s) A->∀a,mh l s a.name->(a∈A↔a∈B):=λs ax A P a i=>by
  have m:mh l p a.name:=aeU (rY l p) (Bj.1 ax).2 _ i;have E:∀t X,q.st t=some X->a.name=t->(a∈X↔a∈A):=λt X bA e=>by
   obtain⟨-,-,Z,o,O⟩:=h.s t X bA;rw[O,SQ c L (rY l t) (rY l s) o P (.inl e) i];exact⟨λh=>h.1,λh=>⟨h,e⟩⟩
  rw[hm];constructor
  ·intro aG;cases P.f a aG i with
   |g Q=>exact .inl Q|@r r _ S u cO er _ gd R =>
    have e:=wS (c r u).toRV1 R;have d:a.name∈eT l (bm l) p:=Bj.2 ⟨e▸Tv u (c r u),m⟩;obtain⟨X,bA⟩:=aKR.1 (k _ d);exact .inr ⟨_,X,d,bA,(E _ X bA rfl).2 aG⟩
  ·rintro(aG|⟨t,X,-,bA,aG⟩)
   ·exact P.i a aG i
   ·have e:=((h.s t X bA).2.2.choose_spec.2 a).1 aG;exact(E t X bA e.2).1 aG
 have w:gX B:=λa aG=>by
  rcases(hm a).1 aG with aG|⟨s,X,-,bA,aG⟩
  ·exact aG9 (h.TS.1 a aG)
  ·obtain⟨-,-,A,P,e⟩:=h.s s X bA;exact P.v a ((e a).1 aG).1
 refine⟨w,λa aG _=>(hm a).2 (.inl aG),λr f hd x ah=>?_,λa aG hd=>?_⟩
 ·have d:r.head.name∈eT l (bm l) p:=Bj.2 ⟨Tv f (c r f),hd⟩;obtain⟨X,bA⟩:=aKR.1 (k _ d);obtain⟨-,-,A,P,e⟩:=h.s _ X bA;have F:=rY l r.head.name r f (c r f).hd (.inl rfl);have T:x∈A:=P.c r f (.inl rfl) x (JQ (D:=mh l r.head.name) w P.v (c r f) F (λa aG i=>(b _ d A P a i).2 aG) (λy V _ W a aG z=>(b _ d A P a (z▸F y V W)).1 aG) ah);exact(hm x).2 (.inr ⟨_,X,d,bA,(e x).2 ⟨T,wS (c r f).toRV1 ah⟩⟩)
 ·rcases(hm a).1 aG with aG|⟨s,X,ax,bA,aG⟩
  ·exact .g aG
  ·obtain⟨-,-,A,P,e⟩:=h.s s X bA;have G:=(e a).1 aG;have j:mh l s a.name:=.inl G.2;exact Fd.aDG c (rY l s) w (b s ax A P) (λ_ h _=>h) (λ_ h _=>h) (P.f a G.1 j) j
theorem dI.aJ(B:e6 l=0)(h:dI l N q)(mO:N+128<=1000000000000)(p:ak):∃i e S d,oG q (eT l (bm l) p)=some (i,e)/\dI l (N+128) i/\i.given=q.given/\(e≠0->i=q) /\
  iz (jJ l (eT l (bm l) p)) q.given=some (S,d)/\e=(if eT l (bm l) p=[]then 0 else d) /\
  (e=0->(∀s∈eT l (bm l) p,i.st s=some (S.filter λa=>a.name==s))/\dh i.st (eT l (bm l) p)=0/\jU i.st i.given (eT l (bm l) p)<=512):=by
 obtain⟨u,ab⟩:=wK B;have j:=alu u;have k:=(xi u).1;obtain⟨g,g1,g2,g3⟩:=h.g;obtain⟨cF,cO,er,eo⟩:=h.TS;obtain⟨A,C,cE⟩:=aJ0 (λr j=>(xi u).2 r j) (aHa g2).2 g1;obtain⟨S,d,f,E,G⟩:=Wf C (l:=jJ l (eT l (bm l) p)) (λr j=>(vq.1 j).1) (g:=q.given) (λa aG=>cE a ((rI _ _).1 (g3▸aG)));have Dk:S.length<=1000:=aKO (List.Nodup.length_le_of_subset (K1 E) G) C.n;have o:∀s∈eT l (bm l) p,s∈bm l/\mh l p s:=λs ax=>Bj.1 ax;have Q:=ayq l p;have Ei:(eT l (bm l) p).length<=128:=aKO (Px l (bm l) p) (aKO (aem l) k);have R:=h.model B p;have w:∀r∈jJ l (eT l (bm l) p),Hf r:=λr ah=>j r (vq.1 ah).1;have J:∀r∈l,mh l p r.head.name->r∈jJ l (eT l (bm l) p):=λr ah hd=>vq.2 ⟨ah,Bj.2 ⟨Tv ah (j r ah),hd⟩⟩;have O:qN (jJ l (eT l (bm l) p)) (mh l p):=λr ah=>rY l p r (vq.1 ah).1;have y:d=0->mB l q.given (mh l p) S:=λe=>(azW (e▸f) (mh l p)).aDG w O (λr ah _=>(vq.1 ah).1) J (λ_ _=>Iff.rfl);have T:∀s∈eT l (bm l) p,∀x,mh l s x->mh l p x:=λs ax=>aeU (rY l p) (o s ax).2;obtain⟨c,xq⟩:∃c,c=eT l (bm l) p:=⟨_,rfl⟩;rw[<-xq]at f Q Ei o R w J O T ⊢;have ais:dh q.st c<=c.length:=List.length_filter_le _ _;by_cases m:0<dh q.st c\/512<jU q.st q.given c
 ·have cG:c≠[]:=λe=>by
   rw[e]at m;rcases m with m|m
   ·cases m
   ·simp only[jU,List.foldl_nil]at m;omega
  have iH:oG q c=if d=0 then some (⟨q.rules,q.given,jl S q.st c,q.work+dh q.st c⟩,0)else some (q,d):=by
   unfold oG;rw[if_pos m,h.r,f]
  rw[iH];by_cases he:d=0
  ·rw[if_pos he];have ar:∀s,jl S q.st c s=if s∈c then some (S.filter λa=>a.name==s)else q.st s:=λs=>by
    simp only[jl,aK4]
   have P:∀s∈c,(⟨q.rules,q.given,jl S q.st c,q.work+dh q.st c⟩:bp).st s=some (S.filter λa=>a.name==s):=λs ax=>(ar s).trans (if_pos ax);refine⟨_,_,S,d,rfl,⟨h.r,h.b.put (A:=S) am (by have:=h.w;omega),by have:=h.w;simp only;omega,h.g,λs L ax=>?_⟩,rfl,λh=>absurd rfl h,f,by rw[if_neg cG,he],λ_=>⟨P,?_,?_⟩⟩
   ·simp only[ar]at ax;split at ax
    ·rename_i V;simp only[Option.some.injEq]at ax;subst ax;exact⟨(o s V).1,E.sublist List.filter_sublist,S,(y he).sub (T s V),λa=>be⟩
    ·exact h.s s L ax
   ·exact ax6 λn aI=>by rw[P n aI];rfl
   ·refine aKO (ax1 Q P (K1 E) (K1 cO) (adj (he▸f)).2.2.1 λb ae n9=>?_) (DN (he▸f)).1;have W:=P1 (cF b ae);rw[aen u (o _ n9).1]at W;cases W
  ·rw[if_neg he];exact⟨_,_,S,d,rfl,⟨h.r,h.b,by have:=h.w;omega,h.g,h.s⟩,rfl,λ_=>rfl,f,by rw[if_neg cG],λe=>absurd e he⟩
 ·have iH:oG q c=some (q,0):=by unfold oG;rw[if_neg m]
  rw[iH];have F:dh q.st c=0:=by omega
  have Y:∀s∈c,(q.st s).isSome=true:=λs ax=>by
   unfold dh at F;rw[List.length_eq_zero_iff,List.filter_eq_nil_iff]at F;have:=F s ax;cases bk:q.st s with
   |none=>rw[bk]at this;exact absurd rfl this|some x=>rfl
  have fN:=R Y;have Z:jU q.st q.given c<=512:=by omega
  have z:d=0:=by
   have AS:(jJ l c).length<=128:=aKO (Py l c) k;refine azU (D:=mh l p) (azX u (λr ah=>(vq.1 ah).1) AS) (azY (TR B) λr ah=>(vq.1 ah).1) eo (λr ah=>(o _ (vq.1 ah).2).2) O (fN.aDG j (rY l p) J (λr ah _=>(vq.1 ah).1) λ_ _=>Iff.rfl) (λa aG=>aK5 _ aG) (by rw[az0];exact Z) f
  refine⟨_,_,S,d,rfl,⟨h.r,h.b,by have:=h.w;omega,h.g,h.s⟩,rfl,λh=>absurd rfl h,f,by rw[z];split<;>rfl,λ_=>⟨λs ax=>?_,F,Z⟩⟩;obtain⟨X,bA⟩:=aKR.1 (Y s ax);obtain⟨-,x1,A',x2,x3⟩:=h.s s X bA;obtain⟨lv,n,L⟩:∃lv n,aPl l lv n:=Jq (TR B);rw[bA];congr 1
  refine aha x1 (E.sublist List.filter_sublist) λa=>?_;rw[x3,List.mem_filter,beq_iff_eq];refine and_congr_left λe=>?_;exact SQ j L (rY l s) (rY l p) x2 (y z) (.inl e) (e▸(o s ax).2)
theorem afi(L:List I)(p:I):(nk L p).length<=L.length:=List.length_filter_le _ _
theorem dI.ask(G:e6 l=0)(h:dI l N q)(P:N+128<=1000000000000)(p:I):∃b L e,iX q p=some (b,L,e)/\dI l (N+128) b/\L.length<=100000/\(e=0->iX b p=some (b,L,0)/\b.given=q.given) /\
  ∀{N':Nat}{f y:bp}{j:List I}{k:Nat},dI l N' f->N'+128<=1000000000000->f.given=q.given->iX f p=some (y,j,k)->j=L/\k=e:=by
 have J:dI l (N+128) q:=⟨h.r,h.b,by have:=h.w;omega,h.g,h.s⟩;unfold iX;cases ar:ug p with
 |false=>exact⟨_,_,_,rfl,J,be,λh=>d6,λ_ _ _ h=>(by cases h;exact⟨rfl,rfl⟩)⟩|true =>
 simp only[Bool.not_true,aKQ,if_false];cases wY:rW p.name with
 |true =>
  simp only[if_true];exact⟨_,_,_,rfl,J,aKO (afi _ _) h.b.g,λ_=>⟨rfl,rfl⟩,λ_ _ i h=>(by cases h;exact⟨by rw[i],rfl⟩)⟩
 |false =>
 simp only[aKQ,if_false];obtain⟨b,e,S,q2,Q,m,a3,a4,R,T,V⟩:=h.aJ G P p.name
 -- what is stored for the pattern's relation
 have o:∀{N':Nat}{f:bp},dI l N' f->(∀s∈eT l (bm l) p.name,f.st s=some (S.filter λa=>a.name==s))->(f.st p.name).getD []=if p.name∈bm l then S.filter λa=>a.name==p.name else[]:=λ{N'}{f}c ax=>by
  by_cases w:p.name∈bm l
  ·rw[if_pos w,ax _ (Bj.2 ⟨w,.inl rfl⟩)];rfl
  ·rw[if_neg w];cases ah:f.st p.name with
   |none=>rfl|some X=>exact absurd (c.s _ _ ah).1 w
 have d:∀{N':Nat}{f y:bp}{j:List I}{k:Nat},dI l N' f->N'+128<=1000000000000->f.given=q.given ->
   (match oG f (eT f.rules (bm f.rules) p.name)with|none=>none|some (b,e)=>if e≠0 then some (b,[],e)else some (b,nk ((b.st p.name).getD []) p,0))=some (y,j,k) ->
   k=e/\j=if e=0 then nk (if p.name∈bm l then S.filter λa=>a.name==p.name else[]) p else[]:=λc u i he=>by
  obtain⟨aQ,O,W,Y,Z,en,lD,uS,z,A,B⟩:=c.aJ G u p.name;rw[i,R]at z;simp only[Option.some.injEq,Prod.mk.injEq]at z;obtain⟨rfl,rfl⟩:=z;have C:O=e:=A.trans T.symm;subst C;rw[c.r,Z]at he;by_cases g:O=0
  ·subst g;simp only[ne_eq,not_true_eq_false,if_false,Option.some.injEq,Prod.mk.injEq]at he;rw[if_pos rfl,<-o en (B rfl).1];exact⟨he.2.2.symm,he.2.1.symm⟩
  ·simp only[ne_eq,g,not_false_eq_true,if_true,Option.some.injEq,Prod.mk.injEq]at he;rw[if_neg g];exact⟨he.2.2.symm,he.2.1.symm⟩
 rw[h.r,Q];by_cases g:e=0
 ·subst g;obtain⟨c1,c2,gv⟩:=V rfl;simp only[ne_eq,not_true_eq_false,if_false];refine⟨_,_,_,rfl,m,?_,λ_=>⟨?_,a3⟩,λc u i he=>?_⟩
  ·refine aKO (afi _ _) ?_;cases ah:b.st p.name with
   |none=>simp|some X=>exact m.b.l _ _ ah
  ·rw[m.r];have:oG b (eT l (bm l) p.name)=some (b,0):=by
    unfold oG;rw[if_neg am]
   rw[this];rfl
  ·obtain⟨E,F⟩:=d c u i he;rw[o m c1];exact⟨by rw[F,if_pos rfl],E⟩
 ·simp only[ne_eq,g,not_false_eq_true,if_true];exact⟨_,_,_,rfl,m,be,λe=>absurd e g,λc u i he=>by
   obtain⟨E,F⟩:=d c u i he;exact⟨by rw[F,if_neg g],E⟩⟩
theorem aAg(L:List I):fh L L=0:=agO L λt _=>CZ t
theorem aAN(q:bp):iB q q.given=q:=by
 have key:∀a:List ak,a.foldl (λst rel=>if fh (eb q.given rel) (eb q.given rel)==0 then st else oq q.rules st rel) q.st=q.st:=λa=>by
  induction a with
  |nil=>rfl|cons r a ih=>rw[List.foldl_cons,aAg];exact ih
 unfold iB sO;rw[key]
end
open Enc (enc)
def pP(l:List aU)(x:bz):Bool:=qI 60 x.given&&lM 60 x.pat&&(kb l x.given).getD false
def nQ(l:List aU)(o:List bz):Bool:=(nh l 40&&(kb l []).getD false)&&decide (o.length<=12)&&o.all (pP l)
noncomputable def T0:List iZ:=[(19,hj λ(l:List aU)(o:List bz)=>enc (nQ l o))]
noncomputable def nT:bj:=ij jI (e1 T0)
instance aKy{D:bj}[h:bt D nT]:bt D jI:=h.ke
def afP:List Nat:=[19]++P4
theorem aAQ:fq nT afP:=fq.or aeq (kf T0)
theorem aAR{f:Nat}{F:List AV->Option AV}(h:∀xs,e1 T0 f xs=F xs)(hk:P4.contains f=false:=by rfl):∀xs,nT f xs=F xs:=λxs=>by rw[<-h];exact kg aeq hk
variable {g:List I}
theorem afQ(d:∀r∈l,DJ r)(e:nh l 40=true)(f:∀a∈g,fH 1048576 a)(h:qI 60 g=true):∃b,kb l g=some b :=
 aKR.1 (alg (λr c=>⟨(d r c).1,((Hc e).2 r c).1⟩) (λa aG=>⟨f a aG,(alj h).2 a aG⟩))
theorem afR{b:Bool}(a:nh l 40=true)(d:qI 60 g=true)(ae:kb l g=some b):aA ν aD 10 [enc l,enc g] (enc ((kb l g).getD false)):=by
 have c:l.all p5=true:=by rw[nh,aKL]at a;exact a.2
 have e:=(Hc a).1;have f:=(alj d).1;rw[ae];exact akD l g b am (akN c) am ae
theorem aAS(l:List aU)(o:List bz)(p:∀r∈l,DJ r)(aE:∀x∈o,rB x):aA ν aD 19 [enc l,enc o] (enc (nQ l o)):=by
 have A:M=1099511627776:=rfl;have ax:nh l 40=true->(kb l []).isSome=true:=λh=>alg (λr u=>⟨(p r u).1,((Hc h).2 r u).1⟩) (λa aG=>by cases aG);cases f:(nh l 40&&(kb l []).getD false)with
 |false =>
  have e:nQ l o=false:=by rw[nQ,f];rfl
  rw[e];refine aA.intro (D:=jI) ae3 cX c7 ?_;unfold O8;simp(disch:=first|exact ai|fail) only[go_sem]
  (repeat' first|refine bU @f ?_|(refine ao ?_ ?_<;>intro))
  all_goals rfl
 |true =>
 have w:nh l 40=true:=by rw[aKL]at f;exact f.1
 by_cases y:o.length<=12
 ·have m:decide ((o.length:Int)>12)=false:=by simp;omega
  have e:nQ l o=o.all (pP l):=by rw[nQ,f,decide_eq_true y];rfl
  rw[e];refine aA.intro (D:=jI) ae3 cX c7 ?_;unfold O8;simp(disch:=first|exact ai|fail) only[go_sem];refine gS @f @m ?_;refine bQ (λi:Nat=>⟨N [(0,.v (enc l)),(1,.v (enc o)),(5,.v (enc i))],[]⟩) (λi=>i<=o.length/\o.all (pP l)=(o.drop i).all (pP l)) (λi=>o.length-i) 0 ⟨aKS _,rfl⟩ ew ?_;rintro i ⟨B,c⟩;rcases aKW i o.length with h|h
  ·rw[fi h,List.all_cons]at c;have z:=aE _ (ek h);cases d:qI 60 o[i]!.given with
   |false =>
    rw[pP,d,aKT,aKT,aKT]at c;rw[c]
    (repeat' first|simp(disch:=first|exact ai|fail) only[go_sem,d]|(refine ao ?_ ?_<;>intro))
    all_goals rfl
   |true =>
   cases j:lM 60 o[i]!.pat with
   |false =>
    rw[pP,d,j,Bool.true_and,aKT,aKT]at c;rw[c]
    (repeat' first|simp(disch:=first|exact ai|fail) only[go_sem,d,j]|(refine ao ?_ ?_<;>intro))
    all_goals rfl
   |true =>
   obtain⟨b,ae⟩:=afQ p w z d;have k:=λ{K:AV->Prop}{tg:aN K}=>akM (D:=jI) (K:=K) (tg:=tg) (x1:=enc l) (x2:=enc o[i]!.given) (l:=l) (g:=o[i]!.given) (afR w d ae);rw[ae]at k;simp only[Option.getD_some,show ∀R:List aU,(enc R:AV)=.list none 3 (R.map aU.enc) from λ_=>rfl,show ∀R:List I,(enc R:AV)=.list none 2 (R.map I.enc) from λ_=>rfl]at k;rw[pP,d,j,ae,Bool.true_and,Bool.true_and,Option.getD_some]at c;cases b with
   |false =>
    rw[aKT]at c;rw[c]
    (repeat' first|simp(disch:=first|exact ai|fail) only[go_sem,d,j,k]|(refine ao ?_ ?_<;>intro))
    all_goals rfl
   |true =>
    rw[Bool.true_and]at c
    (repeat' first|simp(disch:=first|exact ai|fail) only[go_sem,d,j,k]|(refine ao ?_ ?_<;>intro))
    exact⟨i+1,⟨am,c⟩,am,ci⟩
  ·rw[List.drop_eq_nil_of_le h]at c;rw[c]
   (repeat' first|simp(disch:=first|exact ai|fail) only[go_sem]|(refine ao ?_ ?_<;>intro))
   all_goals rfl
 ·have m:decide ((o.length:Int)>12)=true:=by simp;omega
  have e:nQ l o=false:=by rw[nQ,f,decide_eq_false y];rfl
  rw[e];refine aA.intro (D:=jI) ae3 cX c7 ?_;unfold O8;simp(disch:=first|exact ai|fail) only[go_sem]
  (repeat' first|refine gS @f @m ?_|(refine ao ?_ ?_<;>intro))
  all_goals rfl
theorem aAT[bt D nT]{x2:AV}{o:List bz}[aT x1 l][aT x2 o](a:∀r∈l,DJ r)(b:∀x∈o,rB x) :b1 ν aD D 19 [x1,x2] K tg=K (enc (nQ l o)):=ik (D':=nT) (F:=λ(l:List aU)(o:List bz)=>enc (nQ l o)) (aAR λ_=>rfl) (aAS l o a b)
attribute [go_sem ↓ 2000] aAT
open Enc (enc)
theorem T1{x:bz}(h:pP l x=true):kb l x.given=some true/\kl x.pat<=M:=by
 simp only[pP,aKL]at h;have c:=TF (m:=60) am h.1.2;have d:M=1099511627776:=rfl;refine⟨?_,by rw[aef];omega⟩;cases a:kb l x.given with
 |none=>rw[a]at h;cases h.2|some b=>rw[a]at h;rw[show b=true from h.2]
section
variable {H:List ay}{id mid:Nat}{q:bp}{l:List aU}{N:Nat}
theorem wL(h:bf H id mid q)(ae:iY q)(g:List I):kv ν aD 13 [.ptr id 0,enc g] H λr H'=>r=.int .i64 (if rO g then 0 else 13)/\mq (λi=>i=id\/i=mid) H H'/\bf H' id mid (if rO g then iB q (fx g)else q):=by
 have a:=axY g;cases b:rO g with
 |true=>rw[b,if_pos rfl]at a;exact P8 h ae a|false =>
  rw[b,if_neg be]at a;refine⟨(ad4 h g ae.e ae.h (by have:=ae.g;have e:M=1099511627776:=rfl;omega) a (show 0<=M from aKS _)).mono λr H' c=>?_,_,H,rfl,mq.refl _ _,h⟩;rw[if_neg dw]at c;obtain⟨d,rfl,rfl⟩:=c;exact⟨rfl,d,h⟩
theorem dI.more(h:dI l N q){N':Nat}(a:N<=N'):dI l N' q:=⟨h.r,h.b,aKO h.w a,h.g,h.s⟩
theorem dI.wL(a:e6 l=0)(h:dI l N q)(cf:kb l g=some true):dI l N (if rO g then iB q (fx g)else q):=by
 split
 ·rename_i b;exact h.set a cf b
 ·exact h
theorem T2(k:e6 l=0)(h:bf H id mid q)(d:dI l N q)(u:N+128<=1000000000000){x:bz}(ah:pP l x=true):∃a,dI l (N+128) a/\kv ν aD 20 [.ptr id 0,x.enc] H λr H'=>r=.bg []/\mq (λi=>i=id\/i=mid) H H'/\bf H' id mid a:=by
 have B:M=1099511627776:=rfl;obtain⟨cf,ar⟩:=T1 ah;have w:=d.more (N':=N+128) am;have m:x.enc=.agg [.int .i64 x.kind,.list none 2 (x.given.map I.enc),.str x.pat.name,.list none 2 (x.pat.args.map I.enc)]:=rfl;rw[m];cases j:x.kind==0 with
 |true =>
  have st:=wL h d.b x.given;refine⟨_,(d.wL k cf).more am,?_,?_⟩
  ·refine bB.intro (D:=nT) ax9 ?_;unfold YI
   (repeat' first|simp(disch:=first|exact ai|fail) only[go_sem,j]|(refine ao ?_ ?_<;>intro)|(refine iJ st ?_;(rintro r y ⟨rfl,b,c⟩))|fail)
   exact⟨_,rfl,rfl,b,c⟩
  ·obtain⟨r,H',-,b,c⟩:=st.2;exact⟨_,H',rfl,b,c⟩
 |false =>
 cases o:x.kind==1 with
 |true =>
  obtain⟨a,L,e,p,f,-⟩:=d.ask k u x.pat;have st:=yu h d.b ar p;refine⟨a,f,?_,?_⟩
  ·refine bB.intro (D:=nT) ax9 ?_;unfold YI
   (repeat' first|simp(disch:=first|exact ai|fail) only[go_sem,j,o]|(refine ao ?_ ?_<;>intro)|(refine iJ st ?_;(rintro r y ⟨rfl,b,c⟩))|fail)
   exact⟨_,rfl,rfl,b,c⟩
  ·obtain⟨r,H',-,b,c⟩:=st.2;exact⟨_,H',rfl,b,c⟩
 |false =>
 cases z:x.kind==2 with
 |true =>
  have key:∃a,dI l (N+128) a/\∃(L:List I)(e:Nat),kv ν aD 18 [.ptr id 0,enc x.pat] H λr H'=>r=.bg [.bool (decide (0<L.length)),.int .i64 (e:Int)]/\mq (λi=>i=id\/i=mid) H H'/\bf H' id mid a:=by
   obtain⟨a,L,e,p,f,a3,-⟩:=d.ask k u x.pat;cases A:cD 4 x.pat false with
   |true=>exact⟨a,f,L,e,aes h d.b A p am⟩|false=>exact⟨q,w,[],13,ad7 h d.b x.pat ar (λh=>by rw[A]at h;cases h) (λ_=>⟨rfl,rfl,rfl⟩) (aKS _),_,H,rfl,mq.refl _ _,h⟩
  obtain⟨a,f,L,e,st⟩:=key;refine⟨a,f,?_,?_⟩
  ·refine bB.intro (D:=nT) ax9 ?_;unfold YI
   (repeat' first|simp(disch:=first|exact ai|fail) only[go_sem,j,o,z]|(refine ao ?_ ?_<;>intro)|(refine iJ st ?_;(rintro r y ⟨rfl,b,c⟩))|fail)
   exact⟨_,rfl,rfl,b,c⟩
  ·obtain⟨r,H',-,b,c⟩:=st.2;exact⟨_,H',rfl,b,c⟩
 |false =>
  refine⟨q,w,?_,_,H,rfl,mq.refl _ _,h⟩;refine bB.intro (D:=nT) ax9 ?_;unfold YI;refine iv @j @o @z ?_;exact⟨_,rfl,rfl,mq.refl _ _,h⟩
end
theorem JX(H:List ay)(a:nh l 40=true)(b:e6 l=0):kv ν aD 12 [enc l] H λr H'=>r=.bg [.ptr (H.length+1) 0,.int .i64 0]/\mq (λ_=>False) H H'/\bf H' (H.length+1) H.length (kB l):=by
 have e:=(Hc a).1;have key:∀r H',JA l H r H'->r=.bg [.ptr (H.length+1) 0,.int .i64 0]/\mq (λ_=>False) H H'/\bf H' (H.length+1) H.length (kB l):=λr H' h=>by
  rcases h with⟨h,-⟩|⟨-,a,c,d⟩
  ·exact absurd b h
  ·exact⟨a,c,d⟩
 obtain⟨r,H',ah⟩:=aep H l;exact⟨(PC l am (aKg a)).mono key,r,H',key r H' ah⟩
theorem T3(H:List ay)(a:nh l 40=true)(b:e6 l≠0):bB ν aD 12 [enc l] H λr H'=>r=.bg [.fl,.int .i64 (e6 l:Int)]/\H'=H:=by
 have d:=(Hc a).1;refine(PC l am (aKg a)).mono λr H' h=>?_;rcases h with⟨-,a,c⟩|⟨h,-⟩
 ·exact⟨a,c⟩
 ·exact absurd h b
theorem T4{o:List bz}(h:nQ l o=true):nh l 40=true/\kb l []=some true/\o.length<=12/\∀x∈o,pP l x=true:=by
 simp only[nQ,aKL,decide_eq_true_eq,aKN]at h;obtain⟨⟨⟨d,a⟩,e⟩,f⟩:=h;refine⟨d,?_,e,f⟩;cases c:kb l []with
 |none=>rw[c]at a;cases a|some b=>rw[c]at a;rw[show b=true from a]
open Enc (enc)
def tH(g:List I)(k:Nat):List I:=g.reverse.take k
theorem aAU{k:Nat}(h:k<g.length):tH g (k+1)=tH g k++[g[g.length-1-k]!]:=by
 have a:k<g.reverse.length:=by rw[List.length_reverse];exact h
 rw[tH,bL a,getElem!_pos g.reverse k a,List.getElem_reverse,<-getElem!_pos g (g.length-1-k) am];rfl
theorem aAV(F:aA ν aD 11 [] (enc true))(l:List aU)(o:List bz)(x:bz)(aC:∀r∈l,DJ r)(Dd:o.length<=1048576)(aE:∀y∈o,rB y)(ah:rB x):aA ν aD 5 [enc l,enc o,enc x] (enc true):=by
 have cP:M=1099511627776:=rfl;have aG:=λ{K:AV->Prop}{tg:aN K}=>aKd (D:=nT) (K:=K) (tg:=tg) F;have Uy:∀y∈o++[x],rB y:=λy c=>by
  rcases aK3.1 c with c|c
  ·exact aE y c
  ·rw[List.mem_singleton]at c;exact c▸ah
 have G:x.enc.pure=true:=rfl;have J:o.length+1<=M:=by omega
 refine aA.intro (D:=nT) aqb cX c7 ?_;unfold VZ;cases A:nQ l (o++[x])with
 |false =>
  (repeat' first|simp(disch:=first|exact ai|fail) only[go_sem,A,aG,G,J]|(refine ao ?_ ?_<;>intro))
  all_goals rfl
 |true =>
 obtain⟨O,P,zQ,X⟩:=T4 A;simp only[aKV,aKP,aKZ]at zQ;have UD:∀y∈o,pP l y=true:=λy c=>X y (aK5 _ c);obtain⟨JY,Y⟩:=T1 (X x be);by_cases d:e6 l=0
 ·have Q:=JX [] O d
  (repeat' first|simp(disch:=first|exact ai|fail) only[go_sem,A,G,J]|(refine ao ?_ ?_<;>intro)|(refine iJ Q ?_;(rintro r H1 ⟨rfl,-,l2⟩))|fail)
  refine bQ (λp:Nat×bp×List ay=>⟨N [(1,.v (enc o)),(5,.v (.cL x.enc.cells)),(7,.v (.ptr 1 0)),(9,.v (enc p.1))],p.2.2⟩) (λp=>p.1<=o.length/\dI l (128*p.1) p.2.1/\bf p.2.2 1 0 p.2.1) (λp=>o.length-p.1) (0,kB l,H1) ⟨aKS _,dI.new d P (aKg O),l2⟩ ew ?_;rintro⟨i,q,H⟩ ⟨i1,B,R⟩;simp only at i1 B R;rcases aKW i o.length with h|h
  ·obtain⟨b,cF,cO⟩:=T2 d R B am (UD _ (ek h))
   (repeat' first|simp(disch:=first|exact ai|fail) only[go_sem]|(refine ao ?_ ?_<;>intro)|(refine iJ cO ?_;(rintro r C ⟨rfl,-,f⟩))|fail)
   exact⟨(i+1,b,C),⟨ap,cF,f⟩,ap,ci⟩
  ·have st:=wL R B.b x.given;cases u:rO x.given with
   |false =>
    rw[u]at st;simp only[aKQ,if_false]at st
    (repeat' first|simp(disch:=first|exact ai|fail) only[go_sem,aG]|(refine ao ?_ ?_<;>intro)|(refine iJ st ?_;(rintro r C ⟨rfl,-,f⟩))|fail)
    all_goals rfl
   |true =>
   rw[u]at st;simp only[if_true]at st;have Z:=B.set d JY u;obtain⟨b,L,e,dL,E,a3,a4,-⟩:=Z.ask d am x.pat;have Kj:=λ{H:List ay}(h:bf H 1 0 (iB q (fx x.given)))=>yu h Z.b Y dL;by_cases he:e=0
   ·subst he;obtain⟨dZ,en⟩:=a4 rfl;have dO:dI l 3000 b:=E.more am;obtain⟨w,S⟩:∃w,mV b=w:=⟨_,rfl⟩;have kX:=λ{H:List ay}(h:bf H 1 0 b)=>PL h;have Cv:=λ{H:List ay}(h:bf H 1 0 b)=>FA h E.b S;have sb:=λ{H:List ay}(h:bf H 1 0 b)=>yu h E.b Y dZ
    (repeat' first|simp(disch:=first|exact ai|fail) only[go_sem,aG]|(refine ao ?_ ?_<;>intro)|(refine iJ st ?_;(rintro r C ⟨rfl,-,f⟩))|(refine iJ (Kj f) ?_;(rintro r yM ⟨rfl,-,T⟩))|refine cA (kX T) ?_|(refine iJ (Cv T) ?_;(rintro r pV ⟨rfl,-,Kw⟩))|fail)
    have o2:=(aHa u).1;refine bQ (λk:Nat=>⟨N [(5,.v (.cL x.enc.cells)),(7,.v (.ptr 1 0)),(10,.v (enc L)),(12,.v (.int .i64 (b.work:Int))),(13,.v (enc w)),(14,.v (.list (some 25) 2 ((tH x.given k).map I.enc))),(15,.v (.int .i64 ((x.given.length:Int)-1-k)))],pV⟩) (λk=>k<=x.given.length) (λk=>x.given.length-k) 0 (aKS _) (by(try simp(disch:=first|exact ai|fail) only[go_sem])<;>(first|rfl|(simp(disch:=first|exact aX|fail) only[b7,aKF,aKG,Env.ins,cp,cq,cr,ct,cu,cv,cw,cx,I.b0,aKD,aKH,aKI,aKJ,aKE,bL,aKB,aKK,aKC,cy,cz,go_sem,tH,aKE,Int.sub_zero];try rfl))) ?_;intro k hk;rcases aKW k x.given.length with bJ|qh
    ·obtain⟨j,a8⟩:∃j,j=x.given.length-1-k:=⟨_,rfl⟩;have V:(x.given.length:Int)-1-k=(j:Int):=by omega
     have yj:(x.given.length:Int)-1-((k:Int)+1)=(j:Int)-1:=by omega
     have RF:j<x.given.length:=by omega
     have y0:=aAU bJ;have oA:(tH x.given k).length=k:=by simp[tH];omega
     rw[<-a8]at y0;refine bU @V ?_;exact⟨k+1,am,am,by(first|rfl|(simp(disch:=first|exact aX|fail) only[b7,aKF,aKG,Env.ins,cp,cq,cr,ct,cu,cv,cw,cx,I.b0,aKD,aKH,aKI,aKJ,aKE,bL,aKB,aKK,aKC,cy,cz,go_sem,y0,yj];try rfl))⟩
    ·obtain rfl:k=x.given.length:=by omega
     have Cm:decide ((x.given.length:Int)-1-x.given.length>=0)=false:=decide_eq_false am;obtain⟨m,hm⟩:∃m,m=tH x.given x.given.length:=⟨_,rfl⟩;have wT:∀a,a∈m↔a∈x.given:=λa=>by rw[hm,tH,aKY be];simp
     have rk:m.length=x.given.length:=by rw[hm];simp[tH]
     rw[<-hm];have xr:rO m=true:=by
      simp only[rO,aKL,aKN,decide_eq_true_eq]at u ⊢;exact⟨am,λa aG=>u.2 a ((wT a).1 aG)⟩
     have bk:iB b (fx m)=b:=by
      rw[ahb wT,show fx x.given=b.given from en.symm];exact aAN b
     have z:=λ{H:List ay}(h:bf H 1 0 b)=>wL h E.b m;simp only[xr,if_true,bk]at z;have BK:gD L L=true:=(FN L L).2 rfl;have uw:decide (w=w)=true:=decide_eq_true rfl
     (repeat' first|simp(disch:=first|exact ai|fail) only[go_sem,aG,Cm,BK,uw]|(refine ao ?_ ?_<;>intro)|(refine iJ (z Kw) ?_;(rintro r oy ⟨rfl,-,W⟩))|(refine iJ (sb W) ?_;(rintro r aeS ⟨rfl,-,T5⟩))|refine cA (kX T5) ?_|(refine iJ (Cv T5) ?_;(rintro r azT ⟨rfl,-,aKz⟩))|fail)
     all_goals rfl
   ·have wH:((e:Nat):Int)≠0:=by omega
    (repeat' first|simp(disch:=first|exact ai|fail) only[go_sem,aG]|(refine ao ?_ ?_<;>intro)|(refine iJ st ?_;(rintro r C ⟨rfl,-,f⟩))|(refine iJ (Kj f) ?_;(rintro r yM ⟨rfl,-,T⟩))|fail)
    all_goals rfl
 ·have wH:((e6 l:Nat):Int)≠0:=by omega
  have Q:=T3 [] O d
  (repeat' first|simp(disch:=first|exact ai|fail) only[go_sem,A,aG,G,J]|(refine ao ?_ ?_<;>intro)|refine cA Q ?_)
  all_goals rfl
open Enc (enc)
variable {id mid:Nat}
theorem bf.dP{H':List ay}{q:bp}{W:Nat->Prop}(h:bf H id mid q)(f:mq W H H')(a:¬W id)(b:¬W mid):bf H' id mid q:=by
 obtain⟨c,aE⟩:=h.o;obtain⟨jd,m,hm,_⟩:=h.m;exact h.of (f.2 _ (dq aE) a) (f.2 _ (dq hm) b)
theorem bf.lt{q:bp}(h:bf H id mid q):id<H.length/\mid<H.length:=by
 obtain⟨a,aE⟩:=h.o;obtain⟨jd,m,hm,_⟩:=h.m;exact⟨dq aE,dq hm⟩
theorem aAY(B:aA ν aD 11 [] (enc true))(l:List aU)(o:List bz)(x:bz)(aC:∀r∈l,DJ r)(Dd:o.length<=1048576)(aE:∀y∈o,rB y)(ah:rB x):aA ν aD 4 [enc l,enc o,enc x] (enc true):=by
 have cP:M=1099511627776:=rfl;have aG:=λ{K:AV->Prop}{tg:aN K}=>aKd (D:=nT) (K:=K) (tg:=tg) B;have Uy:∀y∈o++[x],rB y:=λy d=>by
  rcases aK3.1 d with d|d
  ·exact aE y d
  ·rw[List.mem_singleton]at d;exact d▸ah
 have C:x.enc.pure=true:=rfl;have E:o.length+1<=M:=by omega
 refine aA.intro (D:=nT) aqa cX c7 ?_;unfold Ul;cases u:nQ l (o++[x])with
 |false =>
  (repeat' first|simp(disch:=first|exact ai|fail) only[go_sem,u,aG,C,E]|(refine ao ?_ ?_<;>intro))
  all_goals rfl
 |true =>
 obtain⟨j,f,zQ,Y⟩:=T4 u;simp only[aKV,aKP,aKZ]at zQ;have UD:∀y∈o,pP l y=true:=λy d=>Y y (aK5 _ d);obtain⟨Z,Da⟩:=T1 (Y x be);by_cases c:e6 l=0
 ·have F:=JX [] j c
  (repeat' first|simp(disch:=first|exact ai|fail) only[go_sem,u,C,E]|(refine ao ?_ ?_<;>intro)|(refine iJ F ?_;(rintro r H1 ⟨rfl,-,l2⟩))|fail)
  refine bQ (λp:Nat×bp×List ay=>⟨N [(0,.v (enc l)),(1,.v (enc o)),(5,.v (.cL x.enc.cells)),(7,.v (.ptr 1 0)),(9,.v (enc p.1))],p.2.2⟩) (λp=>p.1<=o.length/\dI l (128*p.1) p.2.1/\bf p.2.2 1 0 p.2.1) (λp=>o.length-p.1) (0,kB l,H1) ⟨aKS _,dI.new c f (aKg j),l2⟩ ew ?_;rintro⟨i,q,H⟩ ⟨i1,w,G⟩;simp only at i1 w G;rcases aKW i o.length with h|h
  ·obtain⟨hT,J,O⟩:=T2 c G w am (UD _ (ek h))
   (repeat' first|simp(disch:=first|exact ai|fail) only[go_sem]|(refine ao ?_ ?_<;>intro)|(refine iJ O ?_;(rintro r a ⟨rfl,-,b⟩))|fail)
   exact⟨(i+1,hT,a),⟨ap,J,b⟩,ap,ci⟩
  ·have st:=wL G w.b x.given;cases m:rO x.given with
   |false =>
    rw[m]at st;simp only[aKQ,if_false]at st
    (repeat' first|simp(disch:=first|exact ai|fail) only[go_sem,aG]|(refine ao ?_ ?_<;>intro)|(refine iJ st ?_;(rintro r a ⟨rfl,-,b⟩))|fail)
    all_goals rfl
   |true =>
   rw[m]at st;simp only[if_true]at st;have dy:=w.set c Z m;obtain⟨hT,L,e,dL,a2,a3,-,a5⟩:=dy.ask c am x.pat;have P:=(dI.new c f (aKg j)).set c Z m;obtain⟨iS,z,aR,dZ,-⟩:=P.ask c am x.pat;obtain⟨rfl,rfl⟩:=a5 P am rfl dZ;have Q:=λ{H:List ay}=>JX H j c;have oV:∀{H:List ay}{id mid:Nat},bf H id mid (kB l)->kv ν aD 13 [.ptr id 0,enc x.given] H λr H'=>r=.int .i64 0/\mq (λi=>i=id\/i=mid) H H'/\bf H' id mid (iB (kB l) (fx x.given)):=λh=>by
    have:=wL h (dI.new c f (aKg j)).b x.given;rw[m]at this;simpa only[if_true]using this
   have Kj:=λ{H:List ay}(h:bf H 1 0 (iB q (fx x.given)))=>yu h dy.b Da dL;have sb:=λ{H:List ay}{id mid:Nat}(h:bf H id mid (iB (kB l) (fx x.given)))=>yu h P.b Da dZ;have J:∀{a R k:List ay}{A:bp},bf a 1 0 A->mq (λ_=>False) a R->mq (λi=>i=a.length+1\/i=a.length) R k->bf k 1 0 A:=λb S T=>(b.dP S (λh=>h) (λh=>h)).dP T (by have:=b.lt;omega) (by have:=b.lt;omega);have O:∀{a k V:List ay}{A aQ:bp},bf a 1 0 A->bf k (a.length+1) a.length aQ->mq (λi=>i=1\/i=0) k V->bf V (a.length+1) a.length aQ:=λb W X=>W.dP X (by have:=b.lt;omega) (by have:=b.lt;omega);have BK:gD z z=true:=(FN z z).2 rfl
   (repeat' first|simp(disch:=first|exact ai|fail) only[go_sem,aG,BK]|(refine ao ?_ ?_<;>intro)|(refine iJ st ?_;(rintro r a ⟨rfl,-,b⟩))|(refine iJ Q ?_;(rintro r R ⟨rfl,S,mg⟩))|(refine iJ (oV mg) ?_;(rintro r k ⟨rfl,T,W⟩))|(refine iJ (Kj (J b S T)) ?_;(rintro r V ⟨rfl,X,afS⟩))|(refine iJ (sb (O b W X)) ?_;(rintro r aeS ⟨rfl,-,T5⟩))|fail)
   all_goals rfl
 ·have wH:((e6 l:Nat):Int)≠0:=by omega
  have F:=T3 [] j c
  (repeat' first|simp(disch:=first|exact ai|fail) only[go_sem,u,aG,C,E]|(refine ao ?_ ?_<;>intro)|refine cA F ?_)
  all_goals rfl
end AM
