/- What functions of the given program do, as calls of the machine. Conditions: names and lists are bounded where that is said. -/
import Derived.Test.YtmmplkgkkkjojaaGreatDoorE50
set_option linter.unusedSimpArgs false
set_option maxRecDepth 100000
set_option maxHeartbeats 4000000
set_option linter.unusedVariables false
namespace AM
open List renaming take -> aKB,map -> aKC,length_map -> aKF,mem_map -> aKG,take_of_length_le -> aKH,mem_filter -> aKI,drop_eq_nil_of_le -> aKJ,length_append -> aKK,map_append -> aKL
open Nat renaming zero_le -> aKD,lt_or_ge -> aKE
open Go Go.Proofs
open Tryz renaming prog -> ν
open Enc (enc)
theorem Jk:dg (α:=ak) true []=.aS 1:=rfl
theorem Wv(l:List ak):dg false l=.list none 1 (l.map .str):=hr l
attribute [go_sem 2000] Wl Jk
noncomputable def afT:List iZ:=[(26,hj λ(l:List ak)(s:ak)=>enc (l.contains s)),
 (59,hj λ(l:List ak)(s:ak)=>enc (xf s l)),
 (58,hj λ(a:bR)(b:bR)=>enc (p3 a b)),
 (24,eh λ(l:List aU)=>enc (mv l)),
 (25,hj λ(E:List bR)(s:ak)=>enc (cM E s))]
noncomputable def lF:bj:=ij nT (e1 afT)
instance aKA{D:bj}[h:bt D lF]:bt D nT:=h.ke
theorem He{f:Nat}{F:List AV->Option AV}(h:∀xs,e1 afT f xs=F xs)(hk:afP.contains f=false:=by rfl):∀xs,lF f xs=F xs:=λxs=>by rw[<-h];exact kg aAQ hk
theorem aK0(l:List ak)(s:ak):aA ν aD 26 [enc l,enc s] (enc (l.contains s)):=by
 refine aA.h4 λae=>?_;obtain⟨ae,_⟩:=ae;have a:M=1099511627776:=rfl;refine aA.intro (D:=lF) ayd cX c7 ?_;unfold YY;simp(disch:=first|exact ai|fail) only[go_sem];refine bQ (λ(i:Nat)=>⟨N [(0,.v (enc l)),(1,.v (enc s)),(5,.v (enc i))],[]⟩) (λ(i:Nat)=>i<=l.length/\l.contains s=(l.drop i).contains s) (λ(i:Nat)=>l.length-i) 0 d7 ew ?_;rintro i ⟨al,ar⟩
 (repeat' first|refine ag ?_|(refine ao ?_ ?_<;>intro))
 ·rename_i h;have:=eq_of_beq h
  rw[ar,fi am,this];simp
 ·rename_i h;exact⟨i+1,⟨am,by rw[ar,fi am,List.contains_cons];simp only[beq_eq_false_iff_ne]at h;rw[show(s==l[i]!)=false by simp only[beq_eq_false_iff_ne];exact λe=>h e.symm,Bool.false_or]⟩,am,ci⟩
 ·rw[ar,aKJ am];rfl
variable {D:bj}{x1 x2:AV}{l:List ak}{s:ak}{K:AV->Prop}{tg:aN K}
theorem aK1[bt D lF][aT x1 l][aT x2 s]  :b1 ν aD D 26 [x1,x2] K tg=K (enc (l.contains s)):=ik (D':=lF) (F:=λ(l:List ak)(s:ak)=>enc (l.contains s)) (He λ_=>rfl) (aK0 l s)
attribute [go_sem ↓ 2000] aK1
variable {i:Nat}
theorem Jm(s:ak)(a:l.length<=1000000):(aKB i (aKC AV.str l)).length<=M/\(aKB i (aKC AV.str l)).length+1<=M /\
  (aKB i (aKC AV.str l)++[AV.str s]).length+(List.drop i (aKB l.length (aKC AV.str l))).length<=M:=by
 have b:M=1099511627776:=rfl;simp only[aKK,List.length_take,List.length_drop,aKF,List.length_cons,List.length_nil];omega
theorem WD(l:List ak)(s:ak)(f:l.length<=1000000):aA ν aD 59 [enc l,enc s] (enc (xf s l)):=by
 have k:M=1099511627776:=rfl;refine aA.gK (D:=lF) afb cX c7 (by exact Enc.iI _) ?_;unfold Pj;refine ag ?_;refine bQ (λi:Nat=>⟨N [(0,.v (enc l)),(1,.v (enc s)),(5,.v (enc i))],[]⟩)
  (λi=>i<=l.length/\xf s l=l.take i++xf s (l.drop i)) (λi=>l.length-i) 0 ⟨aKD _,rfl⟩ ew ?_
 rintro i ⟨m,b⟩;rcases aKE i l.length with h|h
 ·obtain⟨g,j⟩:=Wm h b;cases a:Op.bytesLess l[i]! s with
  |true =>
   refine bU @a ?_;exact⟨i+1,⟨am,g a⟩,am,ci⟩
  |false =>
   have a3:=j a;cases he:l[i]! ==s with
   |true =>
    rw[he,if_pos rfl]at a3;refine gS @a @he ?_;exact⟨_,rfl,by rw[a3];exact bx.refl _⟩
   |false =>
    rw[he,if_neg be]at a3;obtain⟨c,d,e⟩:=Jm s (i:=i) f;refine rp @a @he @c @d @e ?_;refine⟨_,rfl,?_⟩;rw[a3];simp only[aKL,List.map_take,List.map_drop,aKH (Nat.le_of_eq (aKF AV.str)),<-List.append_assoc];exact bx.disown _ _ _
 ·rw[aKJ h,aKH h,xf]at b;have al:i=l.length:=by omega
  subst al;obtain⟨c,d,e⟩:=Jm s (i:=l.length) f;refine iv @c @d @e ?_;refine⟨_,rfl,?_⟩;rw[b];simp only[aKH (Nat.le_of_eq (aKF AV.str)),aKJ (Nat.le_of_eq (aKF AV.str)),List.append_nil,aKL,List.map_cons,List.map_nil];exact bx.disown _ _ _
theorem Yd[bt D lF][aT x1 l][aT x2 s](h:l.length<=1000000) :b1 ν aD D 59 [x1,x2] K tg=K (enc (xf s l)):=ik (D':=lF) (F:=λ(l:List ak)(s:ak)=>enc (xf s l)) (He λ_=>rfl) (WD l s h)
attribute [go_sem ↓ 2000] Yd
theorem Ys(a b:bR):aA ν aD 58 [enc a,enc b] (enc (p3 a b)):=by
 have hd:=Wo a b;refine aA.intro (D:=lF) afa cX c7 ?_;unfold Ph;simp(disch:=first|exact ai|fail) only[go_sem];cases c:a.src==b.src<;>cases d:a.dst==b.dst<;>cases e:a.neg<;>rw[c,d,e]at hd;all_goals
  simp only[Bool.not_true,Bool.not_false,Bool.false_eq_true,if_true,if_false,Bool.false_and,Bool.true_and]at hd
  (repeat' first|simp(disch:=first|exact ai|fail) only[go_sem,c,d,e,hd]|(refine ao ?_ ?_<;>intro))
  all_goals rfl
theorem Yt[bt D lF]{a:bR}{b:bR}[aT x1 a][aT x2 b]  :b1 ν aD D 58 [x1,x2] K tg=K (enc (p3 a b)):=ik (D':=lF) (F:=λ(a:bR)(b:bR)=>enc (p3 a b)) (He λ_=>rfl) (Ys a b)
attribute [go_sem ↓ 2000] Yt
def Jn(v:AV)(L:List bR):Prop:=(v=.aS 3/\L=[])\/v=.list (some 107) 3 (L.map bR.enc)
theorem Yu(a:bR)(s d:ak)(n:Bool):gU false [1,1,2] a.enc (.agg [.str s,.str d,.bool n])=some (.bool (decide (a=⟨s,d,n⟩))):=by
 obtain⟨b,c,e⟩:=a;rw[bR.enc,Ft];simp only[vA,nW,q7,if_true,Option.map_some];congr 2
 rw[Bool.eq_iff_iff];simp
theorem Jo{l:List bR}(x:AV)(a:l.length<=100000):(aKB i (aKC bR.enc l)).length<=M/\(aKB i (aKC bR.enc l)).length+1<=M /\
  (aKB i (aKC bR.enc l)++[x]).length+(List.drop i (aKB l.length (aKC bR.enc l))).length<=M:=by
 have b:M=1099511627776:=rfl;simp only[aKK,List.length_take,List.length_drop,aKF,List.length_cons,List.length_nil];omega
theorem Jp{l L:List bR}{d:ak}{n:Bool}(h:l=L.take i++([⟨s,d,n⟩]++L.drop i)):l.map bR.enc=aKB i (aKC bR.enc L)++[.agg [.str s,.str d,.bool n]]++List.drop i (aKB L.length (aKC bR.enc L)):=by
 rw[h];simp only[aKL,List.map_take,List.map_drop,aKH (Nat.le_of_eq (aKF bR.enc)),<-List.append_assoc];rfl
theorem ae1(l:List aU)(Y:l.length<=128)(J:∀r∈l,r.body.length<=8):aA ν aD 24 [enc l] (enc (mv l)):=by
 have Z:M=1099511627776:=rfl;rw[show mv l=dt (lp l) from rfl];refine aA.gK (D:=lF) ae4 cX c7 (by exact Enc.iI _) ?_;unfold O9;refine ag ?_;refine bQ (λp:Nat×AV=>⟨N [(0,.v (enc l)),(3,.v p.2),(4,.v (enc p.1))],[]⟩)
  (λp=>p.1<=l.length/\Jn p.2 (dt (lp (l.take p.1)))/\(lp (l.take p.1)).length<=p.1*8) (λp=>l.length-p.1) (0,.aS 3) ⟨aKD _,.inl ⟨rfl,rfl⟩,by simp[lp]⟩ ew ?_
 rintro⟨i,v⟩ ⟨O,f,G⟩;simp only at O f G;rcases aKE i l.length with h|h
 ·have ax:=Ws h;have P:l[i]!.body.length<=8:=J _ (ek h);obtain⟨B,fN⟩:∃B,B=l[i]!.body:=⟨_,rfl⟩;obtain⟨S,ds⟩:∃S,S=l[i]!.head.name:=⟨_,rfl⟩;obtain⟨X,bA⟩:∃X,X=lp (l.take i):=⟨_,rfl⟩;rw[<-fN,<-ds,<-bA]at ax;rw[<-fN]at P;rw[<-bA]at f G;refine ag ?_;refine bQ (λp:Nat×AV=>⟨N [(0,.v (enc l)),(3,.v p.2),(4,.v (enc i)),(5,.v (enc p.1))],[]⟩)
   (λp=>p.1<=B.length/\Jn p.2 (dt (X++b3 S (B.take p.1)))/\((S==eG)=true->p.1=0)) (λp=>B.length-p.1) (0,v) ⟨aKD _,by simpa[b3]using f,λ_=>rfl⟩ ew ?_
  rintro⟨k,w⟩ ⟨Q,c,u⟩;simp only at Q c u;have y:(dt (X++b3 S (B.take k))).length<=100000:=by
   have R:=Wq (X++b3 S (B.take k));have T:=Jf S (B.take k);rw[aKK]at R;rw[List.length_take]at T;omega
  have H:(k=B.length\/(S==eG)=true)->X++b3 S (B.take k)=lp (l.take (i+1)):=by
   rintro(rfl|hd)
   ·cases hd:S==eG with
    |true =>
     rw[ax,hd,if_pos rfl,u hd];simp[b3]
    |false=>rw[ax,hd,if_neg be,List.take_length]
   ·rw[ax,hd,if_pos rfl,u hd];simp[b3]
  have g:(lp (l.take (i+1))).length<=(i+1)*8:=by
   rw[ax,aKK];have:=Jf S B;split
   ·simp only[List.length_nil];omega
   ·omega
  obtain⟨L,cf⟩:∃L,L=dt (X++b3 S (B.take k)):=⟨_,rfl⟩;rw[<-cf]at c y;rcases aKE k B.length with hk|hk
  ·cases hd:S==[100,105,115,116,105,110,99,116]with
   |true =>
    have e:=H (.inr hd);refine iv (Eq.symm @fN) (Eq.symm @ds) @hd ?_;exact⟨(i+1,w),⟨ap,by rw[<-e,<-cf];exact c,g⟩,ap,ci⟩
   |false =>
    have j:=Wr S hk;obtain⟨x,ah⟩:∃x:bR,x=⟨S,B[k]!.atom.name,B[k]!.neg⟩:=⟨_,rfl⟩;have x1:B[k]!.atom.name=x.dst:=by rw[ah]
    have x2:B[k]!.neg=x.neg:=by rw[ah]
    have x3:S=x.src:=by rw[ah]
    rw[<-ah]at j;have m:(S==eG)=false:=hd;cases o:B[k]!.atom.name==[100,105,115,116,105,110,99,116]with
    |true =>
     rw[show eG=[100,105,115,116,105,110,99,116] from rfl,o,if_pos rfl]at j;refine mb (Eq.symm @fN) (Eq.symm @ds) @hd @o ?_;exact⟨(k+1,w),⟨ap,by rw[j,<-cf];exact c,λh=>nm⟩,ap,ci⟩
    |false =>
     rw[show eG=[100,105,115,116,105,110,99,116] from rfl,o,if_neg be]at j;have q:dt (X++b3 S (B.take (k+1)))=xg x L:=by rw[j,<-List.append_assoc,Wp,<-cf]
     rcases c with⟨rfl,z⟩|rfl
     ·subst z;refine mb (Eq.symm @fN) (Eq.symm @ds) @hd @o ?_;refine bQ (λa:Nat=>⟨N [(0,.v (enc l)),(3,.v (.aS 3)),(4,.v (enc i)),(5,.v (enc k)),(6,.b [.str S,.str B[k]!.atom.name,.bool B[k]!.neg]),(7,.v (enc a))],[]⟩)
       (λa=>a=0) (λa=>0) 0 rfl ew ?_
      rintro a rfl;refine ag ?_;exact⟨(k+1,.list (some 107) 3 ((xg x []).map bR.enc)),⟨ap,.inr (by rw[q]),λh=>nm⟩,ap,by rw[ah];(first|rfl|(simp(disch:=first|exact aX|fail) only[b7,List.foldr_cons,List.foldr_nil,Env.ins,cp,cq,cr,ct,cu,cv,cw,cx,I.b0,aKF,Int.natCast_add,Int.natCast_one,Int.natCast_zero,List.take_zero,bL,aKL,List.map_cons,List.map_nil,cy,cz,go_sem,xg];try rfl))⟩
     ·refine mb (Eq.symm @fN) (Eq.symm @ds) @hd @o ?_;refine bQ (λa:Nat=>⟨N [(0,.v (enc l)),(3,.v (.list (some 107) 3 (L.map bR.enc))),(4,.v (enc i)),(5,.v (enc k)),(6,.b [.str S,.str B[k]!.atom.name,.bool B[k]!.neg]),(7,.v (enc a))],[]⟩)
       (λa=>a<=L.length/\xg x L=L.take a++xg x (L.drop a)) (λa=>L.length-a) 0 ⟨aKD _,rfl⟩ ew ?_
      rintro a ⟨dL,A⟩;rcases aKE a L.length with aG|aG
      ·obtain⟨V,W⟩:=Wn aG A;cases b:p3 L[a]! x with
       |true =>
        rw[ah]at b;refine bU @b ?_;exact⟨a+1,⟨am,V (by rw[ah];exact b)⟩,am,ci⟩
       |false =>
        have t:=W b;rw[ah]at b;have iH:=Yu L[a]! S B[k]!.atom.name B[k]!.neg;rw[<-ah]at iH;cases he:decide (L[a]! = x)with
        |true =>
         rw[if_pos (of_decide_eq_true he)]at t;rw[he]at iH;refine gS @b @iH ?_;exact⟨(k+1,.list (some 107) 3 (L.map bR.enc)),⟨ap,.inr (by rw[q,t]),λh=>nm⟩,ap,ci⟩
        |false =>
         rw[if_neg (of_decide_eq_false he)]at t;rw[he]at iH;obtain⟨C,E,F⟩:=Jo (.agg [.str S,.str B[k]!.atom.name,.bool B[k]!.neg]) (i:=a) y;refine rp @b @iH @C @E @F ?_;exact⟨(k+1,.list (some 107) 3 ((xg x L).map bR.enc)),⟨ap,.inr (by rw[q]),λh=>nm⟩,ap,by rw[Jp (t.trans (by rw[ah]))];(exact bl)⟩
      ·rw[aKJ aG,aKH aG,xg]at A;obtain rfl:a=L.length:=by omega
       obtain⟨C,E,F⟩:=Jo (.agg [.str S,.str B[k]!.atom.name,.bool B[k]!.neg]) (i:=L.length) y;refine iv @C @E @F ?_;exact⟨(k+1,.list (some 107) 3 ((xg x L).map bR.enc)),⟨ap,.inr (by rw[q]),λh=>nm⟩,ap,by rw[Jp (L:=L) (i:=L.length) (s:=S) (d:=B[k]!.atom.name) (n:=B[k]!.neg) (A.trans (by rw[ah,List.take_length,List.drop_length];rfl))];(exact bl)⟩
  ·have e:=H (.inl am);have kq:k=B.length:=by omega
   refine gS (Eq.symm @fN) (Eq.symm @ds) ?_;exact⟨(i+1,w),⟨ap,by rw[<-e,<-cf];exact c,g⟩,ap,ci⟩
 ·rw[aKH h]at f;rcases f with⟨rfl,e⟩|rfl
  ·rw[e];refine ag ?_;exact⟨_,rfl,bx.aS _⟩
  ·refine ag ?_;exact⟨_,rfl,bx.disown _ _ _⟩
theorem apN[bt D lF]{l:List aU}[aT x1 l](a:l.length<=128)(b:∀r∈l,r.body.length<=8) :b1 ν aD D 24 [x1] K tg=K (enc (mv l)):=ec (D':=lF) (F:=λ(l:List aU)=>enc (mv l)) (He λ_=>rfl) (ae1 l a b)
attribute [go_sem ↓ 2000] apN
theorem T6(E:List bR)(s:ak):y2 ng (cM E s)/\(∀y∈b2 E s,y∈cM E s)/\(∀x∈cM E s,∀y∈b2 E x,y∈cM E s) /\
  ∀P:ak->Prop,(∀x,P x->∀y∈b2 E x,P y)->(∀y∈b2 E s,P y)->∀x∈cM E s,P x:=by
 obtain⟨c,d,f⟩:=FE (E:=E) _ (b2 E s) [] (Nat.le_refl _);have hm:∀x,x∈cM E s↔x∈rV E s:=λx=>JP;refine⟨?_,λy b=>(hm y).2 (c y (.inr b)),λx ah y b=>(hm y).2 (d (λx h=>d6) x ((hm x).1 ah) y b),λP g j x ah=>f P g (λy b=>j y (by simpa using b)) x ((hm x).1 ah)⟩;have e:cM E s=(rV E s).foldl (λa x=>nO ng x a) []:=by
  simp[cM,qB,Ss]
 rw[e];exact(GS GQ Sq _ [] List.Pairwise.nil).1
structure vt(E:List bR)(s:ak)(out:List ak):Prop where
 a:y2 ng out
 r:∀x∈out,x∈cM E s
variable {E:List bR}
theorem afU(h:i<E.length):E[i]!.dst∈b2 E E[i]!.src:=by
 simp only[b2,aKG,aKI,beq_iff_eq];exact⟨_,⟨ek h,rfl⟩,rfl⟩
variable {out:List ak}
theorem vt.ins(h:vt E s out)(al:i<E.length)(a:(E[i]!.src==s||out.contains E[i]!.src)=true):vt E s (xf E[i]!.dst out):=by
 obtain⟨-,b,c,-⟩:=T6 E s;rw[Ss];refine⟨ajv GQ Sq h.a,λx ah=>?_⟩;rcases(Sp ..).1 ah with rfl|ah
 ·rw[Bool.or_eq_true]at a;rcases a with a|a
  ·exact b _ (eq_of_beq a▸afU al)
  ·exact c _ (h.r _ kO) _ (afU al)
 ·exact h.r x ah
theorem vt.len(h:vt E s out):out.length<=E.length:=by
 obtain⟨-,-,-,f⟩:=T6 E s;have g:out.Nodup:=h.a.imp λ{a b}d he=>by
  rw[he,GQ.irrefl]at d;cases d
 have:=List.Nodup.length_le_of_subset g λx ah=>(show x∈E.map (·.dst) from f (λx=>x∈E.map (·.dst)) (λx _ y c=>by
  obtain⟨e,he,rfl⟩:=aKG.1 c;exact aKG.2 ⟨e,(aKI.1 he).1,rfl⟩) (λy c=>by
  obtain⟨e,he,rfl⟩:=aKG.1 c;exact aKG.2 ⟨e,(aKI.1 he).1,rfl⟩) x (h.r x ah))
 simpa using this
theorem vt.done(h:vt E s out)(d:∀e∈E,(e.src==s||out.contains e.src)=true->e.dst∈out):out=cM E s:=by
 obtain⟨f,-,-,g⟩:=T6 E s;refine Sn GQ h.a f λx=>⟨h.r x,λah=>g (·∈out) (λx ah y a=>?_) (λy a=>?_) x ah⟩
 ·obtain⟨e,he,rfl⟩:=aKG.1 a;obtain⟨b,c⟩:=aKI.1 he;exact d e b (by rw[eq_of_beq c];simp[ah])
 ·obtain⟨e,he,rfl⟩:=aKG.1 a;obtain⟨b,c⟩:=aKI.1 he;exact d e b (by rw[c];rfl)
theorem aA1(E:List bR)(s:ak)(iH:E.length<=100000):aA ν aD 25 [enc E,enc s] (enc (cM E s)):=by
 have Q:M=1099511627776:=rfl;refine aA.gK (D:=lF) ae5 cX c7 (by exact Enc.iI _) ?_;unfold YH;refine ag ?_;refine bQ (λp:Bool×List ak×Bool=>⟨N [(0,.v (enc E)),(1,.v (enc s)),(5,.v (dg p.1 p.2.1)),(6,.v (.bool p.2.2))],[]⟩)
  (λp=>vt E s p.2.1/\(p.2.2=false->∀e∈E,(e.src==s||p.2.1.contains e.src)=true->e.dst∈p.2.1)) (λp=>E.length-p.2.1.length+if p.2.2 then 1 else 0) (true,[],true)
  ⟨⟨List.Pairwise.nil,λx ah=>by cases ah⟩,λh=>d6⟩ (rm @Jk) ?_
 rintro⟨A,f,F⟩ ⟨w,B⟩;simp only at w B;cases F with
 |false =>
  have e:=w.done (B rfl);rcases Wk A f with⟨y,rfl⟩|y
  ·rw[y];refine ag ?_;exact⟨_,rfl,by rw[<-e];exact bx.aS _⟩
  ·rw[y];refine ag ?_;exact⟨_,rfl,by rw[<-e];exact bx.refl _⟩
 |true =>
  refine ag ?_;refine bQ (λp:Nat×Bool×List ak×Bool=>⟨N [(0,.v (enc E)),(1,.v (enc s)),(5,.v (dg p.2.1 p.2.2.1)),(6,.v (.bool p.2.2.2)),(7,.v (enc p.1))],[]⟩)
   (λp=>p.1<=E.length/\vt E s p.2.2.1/\(p.2.2.2=false->p.2.2.1=f/\∀j,j<p.1->(E[j]!.src==s||f.contains E[j]!.src)=true->E[j]!.dst∈f)/\(p.2.2.2=true->f.length<p.2.2.1.length)) (λp=>E.length-p.1) (0,A,f,false)
   ⟨aKD _,w,λ_=>⟨rfl,λj r=>am⟩,λh=>d6⟩ ew ?_
  rintro⟨i,b,out,m⟩ ⟨G,g,u,v⟩;simp only at G g u v;have H:=g.len;rcases aKE i E.length with h|h
  ·have RQ:∀c:Bool,((E[i]!.src==s||out.contains E[i]!.src)=true->out.contains E[i]!.dst=true)->m=false->out=f/\∀j,j<i+1->(E[j]!.src==s||f.contains E[j]!.src)=true->E[j]!.dst∈f:=λ_ d hm=>by
    obtain⟨e,q⟩:=u hm;subst e;refine⟨rfl,λj r ah=>?_⟩;rcases Nat.lt_succ_iff_lt_or_eq.1 r with r|rfl
    ·exact q j r ah
    ·simpa using d ah
   have k:out.contains E[i]!.dst=false->out.length<(xf E[i]!.dst out).length:=λd=>by
    rw[Ss];have n:=ajv GQ Sq (x:=E[i]!.dst) g.a;have J:∀{l:List ak},y2 ng l->l.Nodup:=λh=>h.imp λ{a b}C he=>by
     rw[he,GQ.irrefl]at C;cases C
    have o:=List.Nodup.length_le_of_subset (l₁:=E[i]!.dst::out) (l₂:=nO ng E[i]!.dst out) (List.nodup_cons.2 ⟨mQ,J g.a⟩) λx ah=>(Sp ..).2 nf;rw[List.length_cons]at o;omega
   have R:f.length<=out.length:=by
    cases m with
    |false=>rw[(u rfl).1];omega|true=>have:=v rfl;omega
   cases t:out.contains E[i]!.dst with
   |true =>
    cases n:E[i]!.src==s<;>cases o:out.contains E[i]!.src;all_goals
     refine iv @n @o @t ?_;exact⟨(i+1,b,out,m),⟨ap,g,RQ true λ_=>t,v⟩,ap,ci⟩
   |false =>
    cases n:E[i]!.src==s with
    |true =>
     have al:=g.ins h (by rw[n];rfl);have L:=k t;refine gS @n @t ?_;exact⟨(i+1,false,xf E[i]!.dst out,true),⟨ap,al,λh=>by(cases h),λ_=>ap⟩,ap,by(exact qn @Wv)⟩
    |false =>
    cases o:out.contains E[i]!.src with
    |true =>
     have al:=g.ins h (by rw[o,Bool.or_true]);have L:=k t;refine iv @n @o @t ?_;exact⟨(i+1,false,xf E[i]!.dst out,true),⟨ap,al,λh=>by(cases h),λ_=>ap⟩,ap,by(exact qn @Wv)⟩
    |false =>
     refine iv @n @o @t ?_;exact⟨(i+1,b,out,m),⟨ap,g,RQ true (λd=>by rw[n,o]at d;cases d),v⟩,ap,ci⟩
  ·have he:i=E.length:=by omega
   subst he;refine ag ?_;refine⟨(b,out,m),⟨g,λhm e he d=>?_⟩,?_,ci⟩
   ·obtain⟨O,q⟩:=u hm;simp only at hm d ⊢;obtain⟨j,r,z⟩:=List.mem_iff_getElem.1 he;have P:E[j]! = e:=by rw[getElem!_pos E j r,z]
    rw[O]at d ⊢;rw[<-P]at d ⊢;exact q j r d
   ·simp only;cases m with
    |false=>rw[(u rfl).1];simp|true=>have:=v rfl;simp;omega
theorem aA3[bt D lF][aT x1 E][aT x2 s](h:E.length<=100000) :b1 ν aD D 25 [x1,x2] K tg=K (enc (cM E s)):=ik (D':=lF) (F:=λ(E:List bR)(s:ak)=>enc (cM E s)) (He λ_=>rfl) (aA1 E s h)
attribute [go_sem ↓ 2000] aA3
open Enc (enc)
variable {q:bp}
theorem afV{A:List I}{L:List I}:∀(a:List ak){st:ak->Option (List I)},st s=some L->(∀rel∈a,rel∉cM (mv q.rules) s) ->
  a.foldl (λst rel=>if fh (eb A rel) (eb q.given rel)==0 then st else oq q.rules st rel) st s=some L
 |[],st,h,_=>h|rel::a,st,h,b=>by
  refine afV a ?_ λx ah=>b x (List.mem_cons_of_mem _ ah);simp only;split
  ·exact h
  ·have:=b rel be;rw[oq,if_neg (by simpa using this)];exact h
theorem afW(hk:∀s,(q.st s).isSome=true->s∈bm q.rules) :s∈mV q↔(q.st s).isSome=true:=by
 rw[mV,aKI];exact⟨λh=>h.2,λh=>⟨hk s h,h⟩⟩
theorem aA4(A:aA ν aD 11 [] (enc true))(l:List aU)(o:List bz)(g:List I)(aC:∀r∈l,DJ r)(Dd:o.length<=1048576)(aE:∀y∈o,rB y)(aF:∀a∈g,fH 1048576 a):aA ν aD 6 [enc l,enc o,enc g] (enc true):=by
 have cP:M=1099511627776:=rfl;have aG:=λ{K:AV->Prop}{tg:aN K}=>aKd (D:=lF) (K:=K) (tg:=tg) A;refine aA.intro (D:=lF) PI cX c7 ?_;unfold JG;cases m:nQ l o with
 |false =>
  (repeat' first|simp(disch:=first|exact ai|fail) only[go_sem,m,aG]|(refine ao ?_ ?_<;>intro))
  all_goals rfl
 |true =>
 cases n:qI 60 g with
 |false =>
  (repeat' first|simp(disch:=first|exact ai|fail) only[go_sem,m,n,aG]|(refine ao ?_ ?_<;>intro))
  all_goals rfl
 |true =>
 obtain⟨j,B,zQ,hZ⟩:=T4 m;obtain⟨b,ae⟩:=afQ aC j aF n;have v:=λ{K:AV->Prop}{tg:aN K}=>akM (D:=lF) (K:=K) (tg:=tg) (x1:=enc l) (x2:=enc g) (l:=l) (g:=g) (afR j n ae);rw[show(kb l g).getD false=b by rw[ae];rfl]at v;have Ub:∀R:List aU,(enc R:AV)=.list none 3 (R.map aU.enc):=λ_=>rfl;have Uc:∀R:List I,(enc R:AV)=.list none 2 (R.map I.enc):=λ_=>rfl;simp only[Ub,Uc]at v;cases b with
 |false =>
  (repeat' first|simp(disch:=first|exact ai|fail) only[go_sem,m,n,aG,v]|(refine ao ?_ ?_<;>intro))
  all_goals rfl
 |true =>
 by_cases t:e6 l=0
 ·have C:=JX [] j t;obtain⟨pD,rj⟩:=xi (wK t).1;have N7:∀r∈l,r.body.length<=8:=λr aw=>(rj r aw).b
  (repeat' first|simp(disch:=first|exact ai|fail) only[go_sem,m,n,v]|(refine ao ?_ ?_<;>intro)|(refine iJ C ?_;(rintro r H1 ⟨rfl,-,l2⟩))|fail)
  refine bQ (λp:Nat×bp×List ay=>⟨N [(0,.v (enc l)),(1,.v (enc o)),(2,.v (enc g)),(7,.v (.ptr 1 0)),(9,.v (enc p.1))],p.2.2⟩) (λp=>p.1<=o.length/\dI l (128*p.1) p.2.1/\bf p.2.2 1 0 p.2.1) (λp=>o.length-p.1) (0,kB l,H1) ⟨aKD _,dI.new t B (aKg j),l2⟩ ew ?_;rintro⟨i,q,H⟩ ⟨i1,e,w⟩;simp only at i1 e w;rcases aKE i o.length with h|h
  ·obtain⟨hT,cF,cO⟩:=T2 t w e am (hZ _ (ek h))
   (repeat' first|simp(disch:=first|exact ai|fail) only[go_sem]|(refine ao ?_ ?_<;>intro)|(refine iJ cO ?_;(rintro r F ⟨rfl,-,x⟩))|fail)
   exact⟨(i+1,hT,F),⟨ap,cF,x⟩,ap,ci⟩
  ·have G:(mv l).length<=100000:=e.r▸e.b.e;obtain⟨d,J⟩:∃d,mV q=d:=⟨_,rfl⟩;have O:=λ{H:List ay}(h:bf H 1 0 q)=>FA h e.b J;have st:=λ{H:List ay}(h:bf H 1 0 q)=>wL h e.b g;have uw:decide (d=d)=true:=decide_eq_true rfl;cases P:rO g with
   |false =>
    simp only[P,Bool.false_eq_true,if_false]at st
    (repeat' first|simp(disch:=first|exact ai|fail) only[go_sem,aG,uw]|(refine ao ?_ ?_<;>intro)|(refine iJ (O w) ?_;(rintro r F ⟨rfl,-,x⟩))|(refine iJ (st x) ?_;(rintro r yM ⟨rfl,-,Q⟩))|(refine iJ (O Q) ?_;(rintro r S ⟨rfl,-,Kw⟩))|fail)
    all_goals rfl
   |true =>
   simp only[P,if_true]at st;have dy:=e.set t ae P;obtain⟨c,T⟩:∃c,mV (iB q (fx g))=c:=⟨_,rfl⟩;have V:=λ{H:List ay}(h:bf H 1 0 (iB q (fx g)))=>FA h dy.b T
   (repeat' first|simp(disch:=first|exact ai|fail) only[go_sem,aG]|(refine ao ?_ ?_<;>intro)|(refine iJ (O w) ?_;(rintro r F ⟨rfl,-,x⟩))|(refine iJ (st x) ?_;(rintro r yM ⟨rfl,-,Q⟩))|(refine iJ (V Q) ?_;(rintro r S ⟨rfl,-,Kw⟩))|fail)
   have hw:∀s,s∈d↔(q.st s).isSome=true:=λs=>J▸afW w.k;have aI:∀s,s∈c↔((iB q (fx g)).st s).isSome=true:=λs=>T▸afW Kw.k;have sg:∀s∈c,s∈d:=λs ax=>by
    rw[aI]at ax;obtain⟨L,cf⟩:=Option.isSome_iff_exists.1 ax;rw[hw,aeo sM cf];rfl
   have z:∀s∈d,(cM (mv l) s).contains [116,114,117,101]=false->(cM (mv l) s).contains [100,111,101,115]=false->c.contains s=true:=λs ax j W=>by
    rw[hw]at ax;obtain⟨L,cf⟩:=Option.isSome_iff_exists.1 ax;rw[List.contains_iff_mem,aI,show(iB q (fx g)).st s=some L from afV sM cf λrel f=>?_]
    ·rfl
    ·rw[e.r];simp only[sM,List.mem_cons,List.not_mem_nil,or_false]at f;rcases f with rfl|rfl
     ·simpa using j
     ·simpa using W
   have aJL:d.length<=M:=by
    have W:=List.length_filter_le (λs=>(q.st s).isSome) (bm q.rules);have an:=e.b.h;rw[<-J,mV];omega
   have Ei:c.length<=M:=by
    have W:=List.length_filter_le (λs=>((iB q (fx g)).st s).isSome) (bm (iB q (fx g)).rules);have an:=dy.b.h;rw[<-T,mV];omega
   obtain⟨E,iH⟩:∃E,E=mv l:=⟨_,rfl⟩;rw[<-iH]at G z;refine bQ (λk:Nat=>⟨N [(10,.v (enc d)),(11,.v (enc E)),(12,.v (enc c)),(13,.v (enc k))],S⟩) (λk=>k<=d.length) (λk=>d.length-k) 0 (aKD _) (rm @iH) ?_;intro k hk;rcases aKE k d.length with X|qh
   ·have Y:=z _ (ek X);cases u:(cM E d[k]!).contains [116,114,117,101]with
    |true =>
     refine bU @u ?_;exact⟨k+1,am,am,ci⟩
    |false =>
    cases Z:(cM E d[k]!).contains [100,111,101,115]with
    |true =>
     refine gS @u @Z ?_;exact⟨k+1,am,am,ci⟩
    |false =>
     have gv:=Y u Z;refine iv @u @Z @gv ?_;exact⟨k+1,am,am,ci⟩
   ·obtain rfl:k=d.length:=by omega
    refine ag ?_;refine bQ (λk:Nat=>⟨N [(10,.v (enc d)),(12,.v (enc c)),(15,.v (enc k))],S⟩) (λk=>k<=c.length) (λk=>c.length-k) 0 (aKD _) ew ?_;intro k hk;rcases aKE k c.length with X|qh
    ·have u:d.contains c[k]! = true:=by rw[List.contains_iff_mem];exact sg _ (ek X)
     refine bU @u ?_;exact⟨k+1,am,am,ci⟩
    ·(repeat' first|simp(disch:=first|exact ai|fail) only[go_sem,aG]|(refine ao ?_ ?_<;>intro))
     all_goals rfl
 ·have wH:((e6 l:Nat):Int)≠0:=by omega
  have C:=T3 [] j t
  (repeat' first|simp(disch:=first|exact ai|fail) only[go_sem,m,n,aG,v]|(refine ao ?_ ?_<;>intro)|refine cA C ?_)
  all_goals rfl
end AM
