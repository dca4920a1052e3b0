/- What functions of the given program do, as calls of the machine. Conditions: names and lists are bounded where that is said. -/
import Derived.Test.YtclmmldjogkhoaaGreatDoorE1
import Derived.Test.YtclmmldjogkhoaaGreatDoorAm20
import Derived.Test.YtclmmldjogkhoaaGreatDoorE52
set_option linter.unusedSimpArgs false
set_option maxRecDepth 100000
set_option maxHeartbeats 4000000
set_option linter.unusedVariables false
namespace AM
open List renaming map_append -> I9,map_nil -> Ja,length_map -> LW,foldr_cons -> TH,foldr_nil -> fM,take_zero -> aB8,map_cons -> aB9,set_set -> aHV,length_cons -> aHW,all_eq_true -> aIB
open Int renaming natCast_add -> aeZ,natCast_one -> ae0,natCast_zero -> aB5
open Nat renaming le_refl -> aHk
open Bool renaming false_eq_true -> aIA
open Option renaming isSome_iff_exists -> aIC
open Go Go.Proofs
open Tryz renaming prog -> ν
open Enc (enc)
variable {H:List ax}{x:Nat}
theorem aFD{o:ax}(h:H[x]?=some o):H.set x o=H:=by
 obtain⟨a,U⟩:=List.getElem?_eq_some_iff.1 h;rw[<-U];exact List.set_getElem_self a
variable {s r:aj}
theorem ag6(h:H[x]?=some (dP s r))(az:r <:+ s)(n:s.length<=M) :
  bn ν aB 56 [.ptr x 0] H fun v H'=>v=.a8 []/\H'=H.set x (dP s (qf r)):=by
 have o:M=1099511627776:=rfl;have ah:=dd h;refine bn.intro (D:=lM) asO ?_;unfold Xs
 (repeat' first|simp(disch:=first|exact aq|fail) only[go_sem]|(apply av<;>intro))
 refine b9 (fun q:aj=>⟨N [(0,.v (.ptr x 0))],H.set x (dP s q)⟩) (fun q=>q <:+ s/\qf q=qf r) (fun q=>q.length) r ⟨az,rfl⟩ (by(try simp(disch:=first|exact aq|fail) only[go_sem])<;>(first|rfl|(simp(disch:=first|exact a6|fail) only[cj,TH,fM,Env.ins,cE,cF,cG,cH,cI,cJ,cK,cL,I.b8,LW,aeZ,ae0,aB5,aB8,bZ,I9,aB9,Ja,cS,cT,go_sem,aFD h];try rfl))) ?_;rintro q ⟨k,a⟩;cases q with
 |nil =>
  have b:s.length-([]:aj).length=s.length:=rfl
  (repeat' first|simp(disch:=first|exact aq|fail) only[go_sem,dP,b]|(apply av<;>intro))
  exact⟨_,rfl,rfl,by rw[<-a];rfl⟩
 |cons c q =>
  obtain⟨p,e,l,f⟩:=Rj k;obtain⟨j,g⟩:∃j,j=s.length-(q.length+1):=⟨_,rfl⟩;have b:s.length-(q.length+1)=j:=g.symm;rw[<-g]at e f;rw[qf]at a;have i:lu c=true->∃d,(d <:+ s/\qf d=qf r)/\d.length<(c::q).length/\(⟨N [(0,.v (.ptr x 0))],(H.set x (.cells [.str s,.int .i64 (j:Int)])).set x (.cells [.str s,.int .i64 ((j:Int)+1)])⟩:an)=⟨N [(0,.v (.ptr x 0))],H.set x (.cells [.str s,.int .i64 ((s.length-d.length:Nat):Int)])⟩:=fun m=>by
   rw[if_pos m]at a;exact⟨q,⟨l,a⟩,by simp,by rw[aHV,<-f];rfl⟩
  (repeat' first|simp(disch:=first|exact aq|fail) only[go_sem,dP,b,e]|(apply av<;>intro))
  ·exact i (by simp[lu];omega)
  ·exact i (by simp[lu];omega)
  ·rw[if_neg (by simp[lu];omega)]at a;exact⟨_,rfl,rfl,by rw[<-a,aHW,b]⟩
theorem aFE(h:H[x]?=some (dP s r))(az:r <:+ s)(k:s.length<=M)(c:Nat) :
  bn ν aB 35 [.ptr x 0,.int .u8 c] H fun v H'=>v=.bool (gY c r).1/\H'=H.set x (dP s (gY c r).2):=by
 have l:M=1099511627776:=rfl;have ah:=dd h;have t:=ag6 h az k;have e:=(Fu r).trans az;refine bn.intro (D:=lM) asB ?_;unfold WI;cases ae:qf r with
 |nil =>
  have b:s.length-([]:aj).length=s.length:=rfl;have a:gY c r=(false,[]):=by rw[gY,ae]
  rw[ae]at t
  (repeat' first|simp(disch:=first|exact aq|fail) only[go_sem,dP,b]|(apply av<;>intro)|refine b6 t ?_)
  exact⟨_,rfl,by rw[a],by rw[a];rfl⟩
 |cons d q =>
  rw[ae]at t e;obtain⟨m,f,n,g⟩:=Rj e;obtain⟨j,i⟩:∃j,j=s.length-(q.length+1):=⟨_,rfl⟩;have b:s.length-(q.length+1)=j:=i.symm;rw[<-i]at f g
  (repeat' first|simp(disch:=first|exact aq|fail) only[go_sem,dP,b,f]|(apply av<;>intro)|refine b6 t ?_)
  ·have a:gY c r=(true,q):=by rw[gY,ae];exact if_pos (by omega)
   exact⟨_,rfl,by rw[a],by rw[a,aHV];show _=H.set x (.cells [.str s,.int .i64 ((s.length-q.length:Nat):Int)]);rw[<-g];rfl⟩
  ·have a:gY c r=(false,d::q):=by rw[gY,ae];exact if_neg (by omega)
   exact⟨_,rfl,by rw[a],by rw[a];show _=H.set x (.cells [.str s,.int .i64 ((s.length-(q.length+1):Nat):Int)]);rw[b]⟩
theorem aFF(h:H[x]?=some (dP s r))(az:r <:+ s)(z:s.length<=M) :
  bn ν aB 32 [.ptr x 0] H fun v H'=>v=.str (kF r).1/\H'=H.set x (dP s (kF r).2):=by
 have L:M=1099511627776:=rfl;have ah:=dd h;have t:=ag6 h az z;have l:=(Fu r).trans az;obtain⟨b,ae⟩:∃b,b=qf r:=⟨_,rfl⟩;have A:kF r=(r2 b,r3 b):=by rw[kF,ae]
 rw[A];rw[<-ae]at t l;obtain⟨i,ak⟩:∃i,i=s.length-b.length:=⟨_,rfl⟩;have O:=Fv l;refine bn.intro (D:=lM) asy ?_;unfold Wz
 (repeat' first|simp(disch:=first|exact aq|fail) only[go_sem,dP,<-ak]|(apply av<;>intro)|refine b6 t ?_)
 refine b9 (fun q:aj=>⟨N [(0,.v (.ptr x 0)),(3,.v (.int .i64 i))],H.set x (dP s q)⟩) (fun q=>q <:+ b/\r3 q=r3 b/\b.take (b.length-q.length)++r2 q=r2 b) (fun q=>q.length) b ⟨List.suffix_rfl,rfl,by simp⟩ (by(try simp(disch:=first|exact aq|fail) only[go_sem])<;>(first|rfl|(simp(disch:=first|exact a6|fail) only[cj,TH,fM,Env.ins,cE,cF,cG,cH,cI,cJ,cK,cL,I.b8,LW,aeZ,ae0,aB5,aB8,bZ,I9,aB9,Ja,cS,cT,go_sem,dP,ak];try rfl))) ?_;rintro q ⟨m,d,e⟩;have o:=m.trans l;have c3:=Fv m;have bs:∀k,k<=b.length->(s.take (i+k)).drop i=b.take k:=fun k hk=>by
  obtain⟨p,rfl⟩:=l;have:i=p.length:=by rw[ak];simp
  subst this;rw[List.take_add,List.take_left,List.drop_left,List.drop_left]
 cases q with
 |nil =>
  have f:s.length-([]:aj).length=s.length:=rfl;have B:r2 b=b:=by rw[<-e];simp[r2]
  have C:(s.take s.length).drop i=b:=by
   have:=bs b.length (aHk _);rwa[show i+b.length=s.length by omega,List.take_of_length_le (aHk b.length)]at this
  (repeat' first|simp(disch:=first|exact aq|fail) only[go_sem,dP,f,C,Nat.sub_zero]|(apply av<;>intro))
  exact⟨_,rfl,by rw[B],by rw[<-d];rfl⟩
 |cons c q =>
  obtain⟨P,u,Q,w⟩:=Rj o;obtain⟨j,y⟩:∃j,j=s.length-(q.length+1):=⟨_,rfl⟩;have f:s.length-(q.length+1)=j:=y.symm;rw[<-y]at u w;have E:q <:+ b:=(List.suffix_cons c q).trans m;have F:zU c=true->∃a,(a <:+ b/\r3 a=r3 b/\b.take (b.length-a.length)++r2 a=r2 b)/\a.length<(c::q).length/\(⟨N [(0,.v (.ptr x 0)),(3,.v (.int .i64 i))],(H.set x (.cells [.str s,.int .i64 (j:Int)])).set x (.cells [.str s,.int .i64 ((j:Int)+1)])⟩:an)=⟨N [(0,.v (.ptr x 0)),(3,.v (.int .i64 i))],H.set x (.cells [.str s,.int .i64 ((s.length-a.length:Nat):Int)])⟩:=fun g=>by
   rw[r3,if_pos g]at d;rw[r2,if_pos g]at e;refine⟨q,⟨E,d,?_⟩,by simp,by rw[aHV,<-w];rfl⟩;rw[<-e];obtain⟨p,rfl⟩:=m;rw[show(p++c::q).length-q.length=(p++[c]).length by simp only[List.length_append,aHW,List.length_nil];omega,show(p++c::q).length-(c::q).length=p.length by simp,List.take_left,show p++c::q=(p++[c])++q by simp,List.take_left];simp
  have fin:zU c=false->(s.take j).drop i=r2 b/\dP s (r3 b)=.cells [.str s,.int .i64 (j:Int)]:=fun g=>by
   rw[r3,if_neg (by rw[g];simp)]at d;rw[r2,if_neg (by rw[g];simp),List.append_nil]at e;rw[aHW]at c3;refine⟨?_,by rw[<-d,dP,aHW,f]⟩;have:=bs (b.length-(q.length+1)) (by omega);rw[show i+(b.length-(q.length+1))=j by omega]at this;rw[this];exact e
  cases n:zU c with
  |true =>
   have G:=F n
   (repeat' first|simp(disch:=first|exact aq|fail) only[go_sem,dP,f,u]|(apply av<;>intro))
   all_goals first
    |exact G|(exfalso;simp[zU]at n;omega)
  |false =>
   obtain⟨J,K⟩:=fin n;have R:i<=j:=by rw[aHW]at c3;omega
   have S:j<=s.length:=by omega
   (repeat' first|simp(disch:=first|exact aq|fail) only[go_sem,dP,f,u,J]|(apply av<;>intro))
   all_goals first
    |(exfalso;simp[zU]at n;omega)|exact⟨_,rfl,rfl,by rw[<-K];rfl⟩
section
variable {H:List ax}{x:Nat}{s r:aj}(ah:x<H.length)(az:r <:+ s)(bm:s.length<=M)
include ah az bm
theorem Ci(c:Nat):bn ν aB 35 [.ptr x 0,.int .u8 c] (H.set x (dP s r)) fun v H'=>v=.bool (gY c r).1/\H'=H.set x (dP s (gY c r).2):=by
 have t:=aFE (H:=H.set x (dP s r)) (dD ah) az bm c;rw[aHV]at t;exact t
theorem Cj:bn ν aB 32 [.ptr x 0] (H.set x (dP s r)) fun v H'=>v=.str (kF r).1/\H'=H.set x (dP s (kF r).2):=by
 have t:=aFF (H:=H.set x (dP s r)) (dD ah) az bm;rw[aHV]at t;exact t
end
variable {n:aj}{v:AV}
theorem Ck{l:List I}(h:bQ v (.list none 2 (l.map I.enc))):bQ (.agg [.str n,v]) (enc (I.mk n l)):=by
 have e:(enc (I.mk n l):AV)=.agg [.str n,.list none 2 (l.map I.enc)]:=by show(I.mk n l).enc=_;rw[I.pR];rfl
 rw[e];exact bQ.agg (.cons (bQ.refl _) (.cons h .nil))
theorem aFH(e:Nat)(l:List I):(uo e l=.aV 2/\l=[])\/uo e l=.list (some e) 2 (l.map I.enc):=by
 unfold uo;split
 ·rename_i h;exact .inl ⟨rfl,h⟩
 ·exact .inr rfl
theorem ag7(e:Nat)(l:List I)(t:I):uo e (l++[t])=.list (some e) 2 (l.map I.enc++[t.enc]):=by
 rw[uo,if_neg (by simp),I9];rfl
theorem Fw:∀(k f:Nat),f<=k->k<=1000000->∀{n r:aj}{t:I}{q:aj}{H:List ax}{x:Nat}{s:aj},x0 f n r=some (t,q)->x<H.length->r <:+ s->s.length<=M ->
  bn ν aB 34 [.ptr x 0,.str n] (H.set x (dP s r)) fun v H'=>v=enc t/\H'=H.set x (dP s q)
 |k,0,_,_,n,r,t,q,H,x,s,h,_,_,_=>by cases h|0,f+1,hk,_,n,r,t,q,H,x,s,h,_,_,_=>by omega|k+1,f+1,hk,Z,n,r,t,q,H,x,s,h,ah,az,m=>by
  have dh:M=1099511627776:=rfl;have y:=Ci ah az m 40;have U:=(ta 40 r).trans az;rw[x0]at h;refine bn.kB (bn.intro (D:=lM) asA ?_);unfold WG;cases K:(gY 40 r).1 with
  |false =>
   rw[K]at h y;simp only[aIA,if_false,Option.some.injEq,Prod.mk.injEq]at h;obtain⟨rfl,rfl⟩:=h
   (repeat' first|simp(disch:=first|exact aq|fail) only[go_sem]|(apply av<;>intro)|refine b6 y ?_)
   exact⟨_,rfl,enc (I.mk n []),Ck (bQ.aV 2),Enc.jP _,by first|exact⟨rfl,rfl⟩|rfl⟩
  |true =>
   rw[K]at h y;rw[if_pos rfl]at h;split at h
   ·cases h
   ·rename_i L Q e;simp only[Option.some.injEq,Prod.mk.injEq]at h;obtain⟨rfl,rfl⟩:=h
    (repeat' first|simp(disch:=first|exact aq|fail) only[go_sem]|(apply av<;>intro)|refine b6 y ?_)
    refine b9 (fun i:Nat×List I×aj=>⟨N [(0,.v (.ptr x 0)),(4,.b [.str [],.aV 2]),(5,.b [.str n,uo 30 i.2.1])],H.set x (dP s i.2.2)⟩) (fun i=>Cg i.1 i.2.1 i.2.2=some (L,Q)/\i.1<=f/\i.2.1.length+i.1<=f/\i.2.2 <:+ s) (fun i=>i.1) (f,[],(gY 40 r).2) ⟨e,aHk _,by simp,U⟩ (by(try simp(disch:=first|exact aq|fail) only[go_sem])<;>(first|rfl|(simp(disch:=first|exact a6|fail) only[cj,TH,fM,Env.ins,cE,cF,cG,cH,cI,cJ,cK,cL,I.b8,LW,aeZ,ae0,aB5,aB8,bZ,I9,aB9,Ja,cS,cT,go_sem,uo];try rfl))) ?_;rintro⟨g,l,p⟩ ⟨a,V,W,u⟩;simp only at a V W u;cases g with
    |zero=>cases a|succ g =>
     rw[Cg]at a;obtain⟨j,w⟩:∃j,j=s.length-p.length:=⟨_,rfl⟩;obtain⟨c,z⟩:∃c,c=uo 30 l:=⟨_,rfl⟩;have A:=aFH 30 l;rw[<-z]at A;have G:=aFB 30 l;rw[<-z]at G;have wK:=Fv u;by_cases ao:p=[]
     ·rw[if_pos ao]at a;simp only[Option.some.injEq,Prod.mk.injEq]at a;obtain⟨rfl,rfl⟩:=a;subst ao;have d:=Ci ah u m 41;have X:s.length-([]:aj).length=s.length:=rfl;rw[<-z];rcases A with⟨b,B⟩|b
      all_goals rw[b]at G ⊢
      all_goals (repeat' first|simp(disch:=first|exact aq|fail) only[go_sem,dP,X,Nat.sub_zero]|(apply av<;>intro)|refine b6 d ?_)
      all_goals exact⟨_,rfl,enc (I.mk n l),(by first|exact Ck G|exact Ck (bQ.refl _)),Enc.jP _,by first|exact⟨rfl,rfl⟩|rfl⟩
     ·rw[if_neg ao]at a;have C:decide ((j:Int)<s.length)=true:=decide_eq_true (by have:=List.length_pos_iff.2 ao;omega);split at a
      ·cases a
      ·rename_i o E O;have cv:=Cj ah u m;rw[show dP s p=.cells [.str s,.int .i64 (j:Int)] by rw[dP,w]]at cv;have P:=(wv p).trans u;have F:=Fw k g (by omega) (by omega) O ah P m;have R:=(x4 O).trans P;have d:=Ci ah R m 44;have J:=(ta 44 E).trans R;have S:=Ci ah J m 41;rw[<-z];cases T:(gY 44 E).1 with
       |true =>
        rw[T]at a d;rw[if_pos rfl]at a;rcases A with⟨b,B⟩|b
        ·rw[b]
         (repeat' first|simp(disch:=first|exact aq|fail) only[go_sem,dP,<-w,C]|(apply av<;>intro)|refine b6 cv ?_|refine b6 F ?_|refine b6 d ?_)
         exact⟨(g,l++[o],(gY 44 E).2),⟨a,by omega,by simp;omega,J⟩,by simp,by(first|rfl|(simp(disch:=first|exact a6|fail) only[cj,TH,fM,Env.ins,cE,cF,cG,cH,cI,cJ,cK,cL,I.b8,LW,aeZ,ae0,aB5,aB8,bZ,I9,aB9,Ja,cS,cT,go_sem,ag7,B,dP,List.nil_append];try rfl))⟩
        ·rw[b]
         (repeat' first|simp(disch:=first|exact aq|fail) only[go_sem,dP,<-w,C]|(apply av<;>intro)|refine b6 cv ?_|refine b6 F ?_|refine b6 d ?_)
         exact⟨(g,l++[o],(gY 44 E).2),⟨a,by omega,by simp;omega,J⟩,by simp,by(first|rfl|(simp(disch:=first|exact a6|fail) only[cj,TH,fM,Env.ins,cE,cF,cG,cH,cI,cJ,cK,cL,I.b8,LW,aeZ,ae0,aB5,aB8,bZ,I9,aB9,Ja,cS,cT,go_sem,ag7,dP];try rfl))⟩
       |false =>
        rw[T]at a d;simp only[aIA,if_false,Option.some.injEq,Prod.mk.injEq]at a;obtain⟨rfl,rfl⟩:=a;have Y:bQ (.list (some 30) 2 (l.map I.enc++[o.enc])) (.list none 2 ((l++[o]).map I.enc)):=by rw[I9];exact bQ.disown _ _ _
        rcases A with⟨b,B⟩|b
        ·rw[b]
         (repeat' first|simp(disch:=first|exact aq|fail) only[go_sem,dP,<-w,C]|(apply av<;>intro)|refine b6 cv ?_|refine b6 F ?_|refine b6 d ?_|refine b6 S ?_)
         exact⟨_,rfl,enc (I.mk n (l++[o])),Ck (by rw[B];exact bQ.refl _),Enc.jP _,by first|exact⟨rfl,rfl⟩|rfl⟩
        ·rw[b]
         (repeat' first|simp(disch:=first|exact aq|fail) only[go_sem,dP,<-w,C]|(apply av<;>intro)|refine b6 cv ?_|refine b6 F ?_|refine b6 d ?_|refine b6 S ?_)
         exact⟨_,rfl,enc (I.mk n (l++[o])),(by first|exact Ck Y|exact Ck (by rw[I9];exact bQ.refl _)),Enc.jP _,by first|exact⟨rfl,rfl⟩|rfl⟩
open Enc (enc)
theorem aFI(e:Nat)(l:List AV):(tb e l=.aV 3/\l=[])\/tb e l=.list (some e) 3 l:=by
 unfold tb;split
 ·rename_i h;exact .inl ⟨rfl,h⟩
 ·exact .inr rfl
theorem Fx(e:Nat)(l:List AV)(t:AV):tb e (l++[t])=.list (some e) 3 (l++[t]):=by
 rw[tb,if_neg (by simp)]
theorem ag8(e:Nat)(t:AV):tb e [t]=.list (some e) 3 [t]:=Fx e [] t
theorem x5{t:I}{b:List Lit}(h:bQ v (.list none 3 (b.map Lit.enc))):bQ (.agg [.str t.name,.list none 2 (t.args.map I.enc),v]) (enc (aU.mk t b)) :=
 bQ.agg (.cons (bQ.refl _) (.cons (bQ.refl _) (.cons h .nil)))
theorem aFJ(f:Nat)(aR:f<=1000000){y:aU}{q:aj}(h:Ft f n r=some (y,q))(ah:x<H.length)(az:r <:+ s)(w:s.length<=M) :
  bn ν aB 33 [.ptr x 0,.str n] (H.set x (dP s r)) fun v H'=>v=enc y/\H'=H.set x (dP s q):=by
 have dh:M=1099511627776:=rfl;unfold Ft at h;split at h
 ·cases h
 rename_i t al Y;split at h
 ·cases h
 rename_i b au aX;simp only[Option.some.injEq,Prod.mk.injEq]at h;obtain⟨rfl,rfl⟩:=h;have t1:=Fw f f (aHk _) aR Y ah az w;have s1:=(x4 Y).trans az;refine bn.kB (bn.intro (D:=lM) asz ?_);unfold WC
 (repeat' first|simp(disch:=first|exact aq|fail) only[go_sem]|(apply av<;>intro)|refine b6 t1 ?_)
 refine b9 (fun i:Nat×List Lit×aj=>⟨N [(0,.v (.ptr x 0)),(4,.b [.str [],.aV 2,.aV 3]),(5,.b [.str t.name,.list none 2 (t.args.map I.enc),tb 60 (i.2.1.map Lit.enc)])],H.set x (dP s i.2.2)⟩) (fun i=>Ch i.1 i.2.1 i.2.2=some (b,au)/\i.2.1.length+i.1<=f/\i.2.2 <:+ s) (fun i=>i.1) (f,[],al) ⟨aX,by simp,s1⟩ (by(try simp(disch:=first|exact aq|fail) only[go_sem])<;>(first|rfl|(simp(disch:=first|exact a6|fail) only[cj,TH,fM,Env.ins,cE,cF,cG,cH,cI,cJ,cK,cL,I.b8,LW,aeZ,ae0,aB5,aB8,bZ,I9,aB9,Ja,cS,cT,go_sem,tb,Ja];try rfl))) ?_;rintro⟨g,l,p⟩ ⟨a,i3,R⟩;simp only at a i3 R;cases g with
 |zero=>cases a|succ g =>
  rw[Ch]at a;obtain⟨j,u⟩:∃j,j=s.length-p.length:=⟨_,rfl⟩;obtain⟨c,S⟩:∃c,c=tb 60 (l.map Lit.enc):=⟨_,rfl⟩;have z:=aFI 60 (l.map Lit.enc);rw[<-S]at z;have k:=aFC 60 (l.map Lit.enc);rw[<-S]at k;have wK:=Fv R;rw[<-S];by_cases ao:p=[]
  ·rw[if_pos ao]at a;simp only[Option.some.injEq,Prod.mk.injEq]at a;obtain⟨rfl,rfl⟩:=a;subst ao;have e0:s.length-([]:aj).length=s.length:=rfl;rcases z with⟨d,A⟩|d
   all_goals rw[d]at k ⊢
   all_goals (repeat' first|simp(disch:=first|exact aq|fail) only[go_sem,dP,e0,Nat.sub_zero]|(apply av<;>intro))
   all_goals exact⟨_,rfl,enc (aU.mk t l),(by first|exact x5 k|exact x5 (bQ.refl _)),Enc.jP _,by first|exact⟨rfl,rfl⟩|rfl⟩
  ·rw[if_neg ao]at a;have B:decide ((j:Int)<s.length)=true:=decide_eq_true (by have:=List.length_pos_iff.2 ao;omega);have e:=Ci ah R w 46;have Z:=(ta 46 p).trans R;rw[show dP s p=.cells [.str s,.int .i64 (j:Int)] by rw[dP,u]]at e;cases aC:(gY 46 p).1 with
   |true =>
    rw[aC]at a e;simp only[if_true,Option.some.injEq,Prod.mk.injEq]at a;obtain⟨rfl,rfl⟩:=a;rcases z with⟨d,A⟩|d
    all_goals rw[d]at k ⊢
    all_goals (repeat' first|simp(disch:=first|exact aq|fail) only[go_sem,dP,<-u,B]|(apply av<;>intro)|refine b6 e ?_)
    all_goals exact⟨_,rfl,enc (aU.mk t l),(by first|exact x5 k|exact x5 (bQ.refl _)),Enc.jP _,by first|exact⟨rfl,rfl⟩|rfl⟩
   |false =>
    rw[aC]at a e;simp only[aIA,if_false]at a;have cv:=Cj ah Z w;have jj:=(wv (gY 46 p).2).trans Z;have C:=Cj ah jj w;have qu:=(wv (kF (gY 46 p).2).2).trans jj;have E:=(ag4 (wq p)).trans qu;obtain⟨W,eS⟩:∃W,W=wq p:=⟨_,rfl⟩;have J:=Cj ah qu w;rw[show kF (kF (gY 46 p).2).2=W from eS.symm]at C J;rw[<-eS]at a E;obtain⟨V,T⟩:∃V,V=wu W:=⟨_,rfl⟩;rw[<-T]at a E;by_cases G:W.1=[110,111,116]
    ·have U:V=kF W.2:=by rw[T,wu,if_pos G]
     rw[<-U]at J;have F:(W.1==([110,111,116]:aj))=true:=by rw[G];rfl
     rw[show decide (W.1=[110,111,116])=true from decide_eq_true G]at a;by_cases m:V.1=[]
     ·have o:(V.1==([]:aj))=true:=by rw[m];rfl
      rw[if_pos m]at a;simp only[Option.some.injEq,Prod.mk.injEq]at a;obtain⟨rfl,rfl⟩:=a;rcases z with⟨d,A⟩|d
      all_goals rw[d]at k ⊢
      all_goals (repeat' first|simp(disch:=first|exact aq|fail) only[go_sem,dP,<-u,B,F,o]|(apply av<;>intro)|refine b6 e ?_|refine b6 cv ?_|refine b6 C ?_|refine b6 J ?_)
      all_goals exact⟨_,rfl,enc (aU.mk t l),(by first|exact x5 k|exact x5 (bQ.refl _)),Enc.jP _,by first|exact⟨rfl,rfl⟩|rfl⟩
     ·have o:(V.1==([]:aj))=false:=beq_eq_false_iff_ne.2 m;rw[if_neg m]at a;split at a
      ·cases a
      ·rename_i K L O;have P:=Fw g g (aHk _) (by omega) O ah E w;have Q:=(x4 O).trans E;have X:(l.map Lit.enc).length<=1000000:=by rw[LW];omega
       rcases z with⟨d,A⟩|d
       ·rw[d]
        (repeat' first|simp(disch:=first|exact aq|fail) only[go_sem,dP,<-u,B,F,o]|(apply av<;>intro)|refine b6 e ?_|refine b6 cv ?_|refine b6 C ?_|refine b6 J ?_|refine b6 P ?_)
        exact⟨(g,l++[⟨true,K⟩],L),⟨a,by simp;omega,Q⟩,by simp,by(first|rfl|(simp(disch:=first|exact a6|fail) only[cj,TH,fM,Env.ins,cE,cF,cG,cH,cI,cJ,cK,cL,I.b8,LW,aeZ,ae0,aB5,aB8,bZ,I9,aB9,Ja,cS,cT,go_sem,Fx,ag8,A,Lit.enc,dP,List.nil_append];try rfl))⟩
       ·rw[d]
        (repeat' first|simp(disch:=first|exact aq|fail) only[go_sem,dP,<-u,B,F,o]|(apply av<;>intro)|refine b6 e ?_|refine b6 cv ?_|refine b6 C ?_|refine b6 J ?_|refine b6 P ?_)
        exact⟨(g,l++[⟨true,K⟩],L),⟨a,by simp;omega,Q⟩,by simp,by(first|rfl|(simp(disch:=first|exact a6|fail) only[cj,TH,fM,Env.ins,cE,cF,cG,cH,cI,cJ,cK,cL,I.b8,LW,aeZ,ae0,aB5,aB8,bZ,I9,aB9,Ja,cS,cT,go_sem,Fx,Lit.enc,dP];try rfl))⟩
    ·have U:V=W:=by rw[T,wu,if_neg G]
     rw[U]at a E;have F:(W.1==([110,111,116]:aj))=false:=beq_eq_false_iff_ne.2 G;rw[show decide (W.1=[110,111,116])=false from decide_eq_false G]at a;by_cases m:W.1=[]
     ·have o:(W.1==([]:aj))=true:=by rw[m];rfl
      rw[if_pos m]at a;simp only[Option.some.injEq,Prod.mk.injEq]at a;obtain⟨rfl,rfl⟩:=a;rcases z with⟨d,A⟩|d
      all_goals rw[d]at k ⊢
      all_goals (repeat' first|simp(disch:=first|exact aq|fail) only[go_sem,dP,<-u,B,F,o]|(apply av<;>intro)|refine b6 e ?_|refine b6 cv ?_|refine b6 C ?_)
      all_goals exact⟨_,rfl,enc (aU.mk t l),(by first|exact x5 k|exact x5 (bQ.refl _)),Enc.jP _,by first|exact⟨rfl,rfl⟩|rfl⟩
     ·have o:(W.1==([]:aj))=false:=beq_eq_false_iff_ne.2 m;rw[if_neg m]at a;split at a
      ·cases a
      ·rename_i K L O;have P:=Fw g g (aHk _) (by omega) O ah E w;have Q:=(x4 O).trans E;have X:(l.map Lit.enc).length<=1000000:=by rw[LW];omega
       rcases z with⟨d,A⟩|d
       ·rw[d]
        (repeat' first|simp(disch:=first|exact aq|fail) only[go_sem,dP,<-u,B,F,o]|(apply av<;>intro)|refine b6 e ?_|refine b6 cv ?_|refine b6 C ?_|refine b6 P ?_)
        exact⟨(g,l++[⟨false,K⟩],L),⟨a,by simp;omega,Q⟩,by simp,by(first|rfl|(simp(disch:=first|exact a6|fail) only[cj,TH,fM,Env.ins,cE,cF,cG,cH,cI,cJ,cK,cL,I.b8,LW,aeZ,ae0,aB5,aB8,bZ,I9,aB9,Ja,cS,cT,go_sem,Fx,ag8,A,Lit.enc,dP,List.nil_append];try rfl))⟩
       ·rw[d]
        (repeat' first|simp(disch:=first|exact aq|fail) only[go_sem,dP,<-u,B,F,o]|(apply av<;>intro)|refine b6 e ?_|refine b6 cv ?_|refine b6 C ?_|refine b6 P ?_)
        exact⟨(g,l++[⟨false,K⟩],L),⟨a,by simp;omega,Q⟩,by simp,by(first|rfl|(simp(disch:=first|exact a6|fail) only[cj,TH,fM,Env.ins,cE,cF,cG,cH,cI,cJ,cK,cL,I.b8,LW,aeZ,ae0,aB5,aB8,bZ,I9,aB9,Ja,cS,cT,go_sem,Fx,Lit.enc,dP];try rfl))⟩
theorem aFK(f:Nat)(w:f<=1000000){L:List aU}(h:zV f [] s=some L):aF ν aB 11 [enc s] (enc L):=by
 refine aF.l9 fun b=>?_;have z:M=1099511627776:=rfl;have b:s.length<=M:=b;refine aF.jl (D:=lM) ash fp rfl (Enc.jP _) ?_;unfold VE
 (repeat' first|simp(disch:=first|exact aq|fail) only[go_sem]|(apply av<;>intro))
 refine b9 (fun i:Nat×List aU×aj=>⟨N [(3,.v (.ptr 0 0)),(4,.v (.list (some 33) 3 (i.2.1.map aU.enc)))],[dP s i.2.2]⟩) (fun i=>zV i.1 i.2.1 i.2.2=some L/\i.2.1.length+i.1<=f/\i.2.2 <:+ s) (fun i=>i.1) (f,[],s) ⟨h,by simp,List.suffix_rfl⟩ (by(try simp(disch:=first|exact aq|fail) only[go_sem])<;>(first|rfl|(simp(disch:=first|exact a6|fail) only[cj,TH,fM,Env.ins,cE,cF,cG,cH,cI,cJ,cK,cL,I.b8,LW,aeZ,ae0,aB5,aB8,bZ,I9,aB9,Ja,cS,cT,go_sem,Ja,dP,Nat.sub_self];try rfl))) ?_;rintro⟨g,l,p⟩ ⟨a,o,d⟩;simp only at a o d;cases g with
 |zero=>cases a|succ g =>
  rw[zV]at a;have cv:=Cj (H:=[ax.dead]) (x:=0) (by decide) d b;have j:=(wv p).trans d;obtain⟨W,t⟩:∃W,W=kF p:=⟨_,rfl⟩;rw[<-t]at a cv j;simp only[List.set_cons_zero]at cv;by_cases c:W.1=[]
  ·have k:(W.1==([]:aj))=true:=by rw[c];rfl
   rw[if_pos c]at a;simp only[Option.some.injEq]at a;subst a
   (repeat' first|simp(disch:=first|exact aq|fail) only[go_sem,k]|(apply av<;>intro)|refine b6 cv ?_)
   exact⟨_,rfl,by first|exact bQ.disown _ _ _|exact bQ.refl _⟩
  ·have k:(W.1==([]:aj))=false:=beq_eq_false_iff_ne.2 c;rw[if_neg c]at a;split at a
   ·cases a
   ·rename_i y q e;have m:=aFJ g (by omega) (H:=[ax.dead]) (x:=0) e (by decide) j b;simp only[List.set_cons_zero]at m;have u:=(aFA e).trans j
    (repeat' first|simp(disch:=first|exact aq|fail) only[go_sem,k]|(apply av<;>intro)|refine b6 cv ?_|refine b6 m ?_)
    exact⟨(g,l++[y],q),⟨a,by simp;omega,u⟩,by simp,by(first|rfl|(simp(disch:=first|exact a6|fail) only[cj,TH,fM,Env.ins,cE,cF,cG,cH,cI,cJ,cK,cL,I.b8,LW,aeZ,ae0,aB5,aB8,bZ,I9,aB9,Ja,cS,cT,go_sem,dP];try rfl))⟩
theorem aFL(f:Nat)(C:f<=1000000){L:List I}(h:zW f [] s=some L):aF ν aB 12 [enc s] (enc L):=by
 refine aF.l9 fun b=>?_;have E:M=1099511627776:=rfl;have b:s.length<=M:=b;refine aF.jl (D:=lM) asi fp rfl (Enc.jP _) ?_;unfold VH
 (repeat' first|simp(disch:=first|exact aq|fail) only[go_sem]|(apply av<;>intro))
 refine b9 (fun i:Nat×List I×aj=>⟨N [(3,.v (.ptr 0 0)),(4,.v (.list (some 30) 2 (i.2.1.map I.enc)))],[dP s i.2.2]⟩) (fun i=>zW i.1 i.2.1 i.2.2=some L/\i.2.1.length+i.1<=f/\i.2.2 <:+ s) (fun i=>i.1) (f,[],s) ⟨h,by simp,List.suffix_rfl⟩ (by(try simp(disch:=first|exact aq|fail) only[go_sem])<;>(first|rfl|(simp(disch:=first|exact a6|fail) only[cj,TH,fM,Env.ins,cE,cF,cG,cH,cI,cJ,cK,cL,I.b8,LW,aeZ,ae0,aB5,aB8,bZ,I9,aB9,Ja,cS,cT,go_sem,Ja,dP,Nat.sub_self];try rfl))) ?_;rintro⟨g,l,p⟩ ⟨a,z,d⟩;simp only at a z d;cases g with
 |zero=>cases a|succ g =>
  rw[zW]at a;obtain⟨j,k⟩:∃j,j=s.length-p.length:=⟨_,rfl⟩;have F:=Fv d;by_cases ao:p=[]
  ·rw[if_pos ao]at a;simp only[Option.some.injEq]at a;subst a;subst ao;have A:s.length-([]:aj).length=s.length:=rfl
   (repeat' first|simp(disch:=first|exact aq|fail) only[go_sem,dP,A,Nat.sub_zero]|(apply av<;>intro))
   exact⟨_,rfl,by first|exact bQ.disown _ _ _|exact bQ.refl _⟩
  ·rw[if_neg ao]at a;have o:decide ((j:Int)<s.length)=true:=decide_eq_true (by have:=List.length_pos_iff.2 ao;omega);have cv:=Cj (H:=[ax.dead]) (x:=0) (by decide) d b;have t:=(wv p).trans d;rw[show dP s p=.cells [.str s,.int .i64 (j:Int)] by rw[dP,k]]at cv;split at a
   ·cases a
   ·rename_i y q e;have m:=Fw g g (aHk _) (by omega) (H:=[ax.dead]) (x:=0) e (by decide) t b;have u:=(x4 e).trans t;have c:=Ci (H:=[ax.dead]) (x:=0) (by decide) u b 44;have B:=(ta 44 q).trans u;simp only[List.set_cons_zero]at m cv c;cases w:(gY 44 q).1 with
    |true =>
     rw[w]at a c;rw[if_pos rfl]at a
     (repeat' first|simp(disch:=first|exact aq|fail) only[go_sem,dP,<-k,o]|(apply av<;>intro)|refine b6 cv ?_|refine b6 m ?_|refine b6 c ?_)
     exact⟨(g,l++[y],(gY 44 q).2),⟨a,by simp;omega,B⟩,by simp,by(first|rfl|(simp(disch:=first|exact a6|fail) only[cj,TH,fM,Env.ins,cE,cF,cG,cH,cI,cJ,cK,cL,I.b8,LW,aeZ,ae0,aB5,aB8,bZ,I9,aB9,Ja,cS,cT,go_sem,dP];try rfl))⟩
    |false =>
     rw[w]at a c;simp only[aIA,if_false,Option.some.injEq]at a;subst a
     (repeat' first|simp(disch:=first|exact aq|fail) only[go_sem,dP,<-k,o]|(apply av<;>intro)|refine b6 cv ?_|refine b6 m ?_|refine b6 c ?_)
     exact⟨_,rfl,by first|exact bQ.disown _ _ _|(rw[I.rK,I9];first|exact bQ.disown _ _ _|exact bQ.refl _)|(show bQ _ (.list none 2 ((l++[y]).map I.enc));rw[I9];first|exact bQ.disown _ _ _|exact bQ.refl _)⟩
open Enc (enc)
def fL(s:aj):List aU:=(zV 99 [] s).getD []
def fD(s:aj):List I:=(zW 99 [] s).getD []
def h0:aj:=[112,40,88,41,32,105,102,32,116,114,117,101,40,88,41,32,97,110,100,32,110,111,116,32,113,40,88,41,46,32,113,40,97,41,46]
def x6:aj:=[116,114,117,101,40,98,41,44,32,116,114,117,101,40,97,41]
def uq:aj:=[116,114,117,101,40,97,41,44,32,116,114,117,101,40,98,41]
def tc:aj:=[112,32,105,102,32,110,111,116,32,113,46]
def x7:aj:=[113,40,98,41]
def ur:aj:=[110,40,102,40,88,41,41,32,105,102,32,110,40,88,41,46,32,110,40,97,41,46]
def wy:aj:=[99]
def wz:aj:=[109,44,32,110]
def wA:aj:=[120]
def q2:aj:=[112,40,98,41,44,32,113,40,97,41,44,32,116,114,117,101,40,97,41,44,32,116,114,117,101,40,98,41]
def zX:aj:=[112]
def zY:aj:=[116,114,117,101,40,99,41,44,32,100,111,101,115,40,120,44,32,109,41]
theorem aFM:[x6,uq,x7,wy,wz,wA,q2,zX,zY].all (fun s=>(zW 99 [] s).isSome&&decide ((fD s).length<=1000)&&decide (jz (fD s)<=1000))=true:=by kernel_rfl
theorem aFN:[h0,tc,ur].all (fun s=>(zV 99 [] s).isSome&&(fL s).all fun r=>(fU r).all fun a=>decide (c0 a<=1000000))=true:=by kernel_rfl
theorem ag9:fq (fL h0) (fD x6)=some (fD q2,0):=by kernel_rfl
theorem Rl:fq (fL h0) (fD uq)=some (fD q2,0):=by kernel_rfl
theorem aha:fq (fL h0) (fD x7)=some ([],13):=by kernel_rfl
theorem ahb:fq (fL ur) []=some ([],3):=by kernel_rfl
theorem aFO:rW (fq (fL h0) []) (fL h0)[1]!.head=(true,0):=by kernel_rfl
theorem aFP:(fq (fL h0) []).isSome=true:=by kernel_rfl
theorem aFQ:decide (((fq (fL h0) []).getD ([],0)).1.length<=M)=true:=by kernel_rfl
theorem aFR:xX (fL tc) []=(fD zX,0):=by kernel_rfl
theorem aFS:decide ((en (fL tc) (k6 [])).length<=1000000)=true:=by kernel_rfl
theorem aFT:vF (fD wy) (fD wz) (fD wA)=fD zY:=by kernel_rfl
theorem aFU:(fD q2).all (fun a=>(r0 (fL h0)[0]!.head a []).isSome)=true:=by kernel_rfl
theorem aFV:(fD q2).filter (fun a=>((r0 (fL h0)[0]!.head a []).getD ([],false)).2)=(fD q2).take 1:=by kernel_rfl
theorem aFW:rU (fL h0)[0]!.head=true:=by kernel_rfl
theorem Fy(h:s∈[x6,uq,x7,wy,wz,wA,q2,zX,zY]):zW 99 [] s=some (fD s)/\(fD s).length<=1000/\jz (fD s)<=1000:=by
 have:=aIB.1 aFM s h;simp only[Bool.and_eq_true,decide_eq_true_eq]at this;obtain⟨⟨a,U⟩,b⟩:=this;obtain⟨x,ah⟩:=aIC.1 a;exact⟨by rw[fD,ah];rfl,U,b⟩
theorem Jy(h:s∈[h0,tc,ur]):zV 99 [] s=some (fL s)/\∀r∈fL s,∀a∈fU r,c0 a<=1000000:=by
 have:=aIB.1 aFN s h;simp only[Bool.and_eq_true,aIB,decide_eq_true_eq]at this;obtain⟨b,U⟩:=this;obtain⟨x,ah⟩:=aIC.1 b;exact⟨by rw[fL,ah];rfl,U⟩
def Cm(l:List aU)(g:List I)(p:I):AV:=.a8 [enc (((fq l g).getD ([],0)).1.filter fun a=>((r0 p a []).getD ([],false)).2),.int .i64 0]
noncomputable def ahc:List kX:=[(11,fO fun(s:aj)=>enc (fL s)),
 (12,fO fun(s:aj)=>enc (fD s)),
 (13,rI fun(l:List aU)(g:List I)(p:I)=>Cm l g p)]
noncomputable def lR:bc:=jV ea (fT ahc)
instance aIk{D:bc}[h:bq D lR]:bq D ea:=h.nA
theorem Rm{f:Nat}{F:List AV->Option AV}(h:∀xs,fT ahc f xs=F xs)(hk:(([89,90,91,93,118,119,92,61,62,60,39]++([44,15]++([36,14]++([47,48]++([79,80,81]++([103,105,104,76,75,78]++([46,18,17,19,6]++([64]++([96]++([51]++([23,16]++([45]++([43,126,107,77,106]++[58,88,120,94,57,40,71,99,101,25,7,74]))))))))))))):List Nat).contains f=false:=by rfl):∀xs,lR f xs=F xs:=fun xs=>by rw[<-h];exact mS aEO hk
variable {D:bc}{x1:AV}{K:AV->Prop}{tg:aM K}
theorem aFX[bq D lR][aT x1 s](h:aF ν aB 11 [enc s] (enc (fL s))):bT ν aB D 11 [x1] K tg=K (enc (fL s)):=gN (D':=lR) (F:=fun(s:aj)=>enc (fL s)) (Rm fun _=>rfl) h
theorem aFY[bq D lR][aT x1 s](h:aF ν aB 12 [enc s] (enc (fD s))):bT ν aB D 12 [x1] K tg=K (enc (fD s)):=gN (D':=lR) (F:=fun(s:aj)=>enc (fD s)) (Rm fun _=>rfl) h
theorem aFZ[bq D lR]{x2 x3:AV}{l:List aU}{g:List I}{p:I}[aT x1 l][aT x2 g][aT x3 p](h:aF ν aB 13 [enc l,enc g,enc p] (Cm l g p)):bT ν aB D 13 [x1,x2,x3] K tg=K (Cm l g p):=D6 (D':=lR) (F:=fun(l:List aU)(g:List I)(p:I)=>Cm l g p) (Rm fun _=>rfl) h
theorem aF0:aF ν aB 5 [] (enc true):=by
 have aE:∀(s:aj)(L:List I),s∈[x6,uq,x7,wy,wz,wA,q2,zX,zY]->fD s=L->∀(K:AV->Prop)(tg:aM K),bT ν aB lR 12 [.str s] K tg=K (enc L):=fun s L h e K tg=>e▸aFY (D:=lR) (x1:=.str s) (aFL 99 (by omega) (Fy h).1);have i:∀(s:aj)(L:List aU),s∈[h0,tc,ur]->fL s=L->∀(K:AV->Prop)(tg:aM K),bT ν aB lR 11 [.str s] K tg=K (enc L):=fun s L h e K tg=>e▸aFX (D:=lR) (x1:=.str s) (aFK 99 (by omega) (Jy h).1);have f:=(Jy (s:=h0) (by simp)).2;have j:=fun{K:AV->Prop}{tg:aM K}=>EX (D:=lR) (K:=K) (tg:=tg) (x1:=enc (fL h0)) (x2:=enc (fD x6)) (Fc _ _ f (by rw[ag9];rfl));have k:=fun{K:AV->Prop}{tg:aM K}=>EX (D:=lR) (K:=K) (tg:=tg) (x1:=enc (fL h0)) (x2:=enc (fD x7)) (Fc _ _ f (by rw[aha];rfl));have m:=fun{K:AV->Prop}{tg:aM K}=>EX (D:=lR) (K:=K) (tg:=tg) (x1:=enc (fL ur)) (x2:=.aV 2) (l:=fL ur) (a:=[]) (Fc _ [] (Jy (s:=ur) (by simp)).2 (by rw[ahb];rfl));have o:=fun{K:AV->Prop}{tg:aM K}=>aC8 (D:=lR) (K:=K) (tg:=tg) (x1:=enc (fL h0)) (x2:=.aV 2) (x3:=(fL h0)[1]!.head.enc) (l:=fL h0) (g:=[]) (a:=(fL h0)[1]!.head) (aDd _ [] _ f aFP (fun A e h=>by have:=of_decide_eq_true aFQ;rw[h]at this;exact this));have q:=fun{K:AV->Prop}{tg:aM K}=>aC2 (D:=lR) (K:=K) (tg:=tg) (x1:=enc (fL tc)) (x2:=.aV 2) (l:=fL tc) (a:=[]) (aC5 _ [] (Jy (s:=tc) (by simp)).2 (of_decide_eq_true aFS));have t:=fun{K:AV->Prop}{tg:aM K}=>aFZ (D:=lR) (K:=K) (tg:=tg) (x1:=enc (fL h0)) (x2:=enc (fD uq)) (x3:=(fL h0)[0]!.head.enc) (l:=fL h0) (g:=fD uq) (p:=(fL h0)[0]!.head) (by
  have:=aFv (fL h0) (fD uq) (fL h0)[0]!.head f Rl (Nat.le_trans (Fy (s:=q2) (by simp)).2.1 (by decide)) aFW (R:=fun a=>(r0 (fL h0)[0]!.head a []).getD ([],false)) (fun a aE=>by
   obtain⟨x,ah⟩:=aIC.1 (aIB.1 aFU a aE);rw[ah];rfl)
  rw[Cm,Rl];exact this)
 have u:=fun{K:AV->Prop}{tg:aM K}=>ax2 (D:=lR) (K:=K) (tg:=tg) (x1:=enc (fD wy)) (x2:=enc (fD wz)) (x3:=enc (fD wA)) (ax6 (fD wy) (fD wz) (fD wA) (Fy (by simp)).2 (Fy (by simp)).2 (Fy (by simp)).2);simp only[Cm,ag9,Rl,aha,ahb,aFO,aFR,aFT,aFV,nK,Option.getD_some]at j k m o q t u;have B:=i h0 _ (by simp) rfl;have C:=i tc _ (by simp) rfl;have E:=i ur _ (by simp) rfl;have F:=aE x6 _ (by simp) rfl;have G:=aE uq _ (by simp) rfl;have J:=aE x7 _ (by simp) rfl;have b:=aE wy _ (by simp) rfl;have O:=aE wz _ (by simp) rfl;have P:=aE wA _ (by simp) rfl;have Q:=aE q2 _ (by simp) rfl;have c:=aE zX _ (by simp) rfl;have d:=aE zY _ (by simp) rfl;have S:(fL h0).length=2:=by kernel_rfl
 have T:(fD q2).length=4:=by kernel_rfl
 have U:∀L:List I,fS L L=true:=fun L=>(D1 L L).2 rfl;generalize fL h0=V,fL tc=W,fL ur=X,fD x6=nJ,fD uq=yu,fD x7=Y,fD wy=Z,fD wz=aIr,fD wA=aIs,fD q2=v7,fD zX=aIt,fD zY=aIu at *;unfold h0 at B;unfold tc at C;unfold ur at E;unfold x6 at F;unfold uq at G;unfold x7 at J;unfold wy at b;unfold wz at O;unfold wA at P;unfold q2 at Q;unfold zX at c;unfold zY at d;have w:(1:Int)<=(v7.length:Int):=by omega
 have y:∀R:List aU,(enc R:AV)=.list none 3 (R.map aU.enc):=fun _=>rfl;have z:∀R:List I,(enc R:AV)=.list none 2 (R.map I.enc):=fun _=>rfl;simp only[y,z]at j k m o q t u;refine aF.intro (D:=lR) ase rfl rfl ?_;unfold Vq
 (repeat' first|simp(disch:=first|exact aq|fail) only[go_sem,B,C,E,F,G,J,b,O,P,Q,c,d,j,k,m,o,q,t,u,S,w,U]|(apply av<;>intro))
end AM
