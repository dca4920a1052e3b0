/- An abstract machine, and what of the given program it does, part 20. Conditions: none. -/
import Derived.Test.YtclmmldjogkhoaaGreatDoorAm18
import Derived.Shelf.Sort.Plain
import Derived.Shelf.Slices.In.SortNone
import Derived.Sort.OwnSorted
import Derived.Sort.Walk0
set_option linter.unusedVariables false
namespace AM
open List renaming map_cons -> I9,mem_cons -> Ja,pairwise_cons -> LW
open Go Go.Proofs
section
variable {P:Program}{gl:cp}{N:Nat}{g:bo}{s:an}{a:Act}{w w':World}
theorem Rel.aez(h:Rel P gl N g s a w){id b e:Nat}{cs cs':List AV}{cur l:Array Value}(B:s.heap[id]?=some (.buf e cs))(ae:g.b4 id=some b)(r:w.heap[b]?=some (.cells cur e (0,0)))
  (C:w'.heap[b]?=some (.cells l e (0,0)))(H:l.size=cur.size)(d:w.grownBy w' (some b))(D:cs'.length<=cur.size)
  (J:∀(i:Nat)c,cs'[i]?=some c->∃v,l[i]?=some v/\v.oneCell'=true/\bb g c v/\cP c):ef g w g w'/\Rel P gl N g { s with heap:=s.heap.set id (.buf e cs') } a w':=by
 obtain⟨m,k,K,L,⟨arr,ty,bO,bY,E,F,_⟩,⟨ri,u,O⟩,i,z,Q,R,S,T,U,x⟩:=h.heap id _ B;obtain rfl:m=b:=Option.some.inj (K.symm.trans ae);have y:id<s.heap.length:=(List.getElem?_eq_some_iff.1 B).1;have f:GhLe g g:=⟨fun _ _ _ h=>h,fun _ _ h=>h⟩;have PI:=(Array.getElem?_eq_some_iff.1 r).1;have hk:Kept g w g w' fun o=>o≠.none/\o≠.bA id:=fun k hk=>⟨rfl,d.block k (h.own k hk.1) (fun e=>by
  simp only[Option.some.injEq]at e;subst e;exact hk.2 E),fun _=>rfl⟩
 have hm:∀arr n,w.heap[m]?≠some (.map arr n):=fun arr n e=>by rw[r]at e;cases e
 refine⟨⟨f,fun k p=>⟨p,(hk k (by rw[p];simp)).2.1,fun _=>rfl⟩,d.size,by rw[d.os,d.tape],d.output⟩,?_⟩;refine⟨h.sorted,h.size,h.defers,fun t e he=>(h.env t e he).kept f hk (by simp) (by simp) (by simp),fun q bA j=>?_,fun k off v G=>?_,fun k p=>Nat.lt_of_lt_of_le (h.own k p) d.size,h.gz,fun q b ae=>by simp only[List.length_set];exact h.fE q b ae⟩
 ·simp only at j;by_cases A:q=id
  ·subst A;rw[List.getElem?_set_self y]at j;simp only[Option.some.injEq]at j;subst j;refine⟨m,k,ae,L,⟨l,e,C,by omega,E,F,fun i c ak=>?_⟩,⟨l,C,?_⟩,i,z,Q,R,S,T,U,x⟩
   ·obtain⟨v,V,W,X,Y⟩:=J i c ak;exact⟨v,V,W,X,Y.gb⟩
   ·rw[r]at u;simp only[Option.some.injEq,Obj.cells.injEq]at u;rw[H,u.1,O]
  ·rw[List.getElem?_set_ne (fun e=>A e.symm)]at j;exact(h.heap q bA j).beside f hk A ae hm (fun i ak=>by simp[ak]) (by simp)
 ·have Z:=h.ff k off v G;have uE:k≠m:=by rintro rfl;have:g.γ k off=some v:=G;rw[F]at this;cases this
  exact d.cell Z (by simpa using uE)
end
section
open Go.Sort Go.Shelf
variable {P:Program}{gl:cp}{b4:Ren}
theorem aeA:mn=ltStr:=by
 funext x y
 exact bytesLess_eq x y
theorem PJ:∀(l:List aj)(i:Nat),(hM l)[i]?=(l[i]?).map AV.str
 |[],i=>by simp[hM]|s::r,0=>by simp[hM]|s::r,i+1=>by simp only[hM,List.getElem?_cons_succ];exact PJ r i
theorem aBC(z:Lays.n190 P b4)(A:j6 P (b4.f 190)=true){H:List ax}{id e:Nat}{l:List aj}(p:H[id]?=some (.buf e (hM l)))(W:l.length<=M) :
  bn P gl (b4.f 190) [.bs id 0 l.length 1] H fun r H'=>r=.a8 []/\H'=H.set id (.buf e (hM (Sort.sort mn l.toArray).toList)):=by
 have Y:M=1099511627776:=rfl;refine⟨A,fun g w vs a B _=>?_⟩;cases B with
 |cons _ _ v ws C D =>
  cases D;obtain⟨b,k,cap,q,Z,aS,bI,rfl⟩:=C.sj;obtain⟨m,k',E,bY,⟨arr,F,f,z2,z3,z4,G⟩,⟨J,h,ej⟩,_⟩:=a.heap id _ p;obtain rfl:m=b:=Option.some.inj (E.symm.trans q);obtain⟨rfl,rfl,_⟩:arr=J/\F=e/\True:=by rw[f]at h;simp only[Option.some.injEq,Obj.cells.injEq]at h;exact⟨h.1,h.2.1,trivial⟩
  have lq:(hM l).length=l.length:=E2 l;have s:∀(j:Nat)(d:j<l.length),arr[j]?=some (encStr l[j])/\l[j].length<=M:=fun j d=>by
   obtain⟨v,K,aQ,L,cO⟩:=G j (.str l[j]) (by rw[PJ,List.getElem?_eq_getElem d];rfl);obtain⟨rfl,O⟩:=L.lV;exact⟨K,O⟩
  have Q:=(Array.getElem?_eq_some_iff.1 f).1;have R:Holds encStr w m 0 l.toArray:=holds_of_block f (by
   apply List.ext_getElem?;intro j;by_cases d:j<l.length
   ·rw[List.getElem?_take_of_lt d,Array.getElem?_toList,(s j d).1,List.getElem?_map,List.getElem?_eq_getElem d];rfl
   ·rw[List.getElem?_take_eq_none (by omega),List.getElem?_eq_none (by simp;omega)])
  have o:((l.mergeSort fun x y=>decide (x<=y)).toArray)=Sort.sort mn l.toArray:=by rw[aeA,<-sortStr l]
  refine(Any.slices_Sort_string z m 0 cap l w R Q (by omega)).mono ?_;rintro b3 w' ⟨rfl,n,os,rfl⟩;rw[o];obtain⟨X,bp⟩:∃X,X=(Sort.sort mn l.toArray).toList:=⟨_,rfl⟩;have S:Sort.sort mn l.toArray=X.toArray:=by rw[bp]
  have t:X.Perm l:=by rw[bp,aeA,sortStr l];exact List.mergeSort_perm _ _
  rw[S];have T:X.length=l.length:=t.length_eq;obtain⟨U,V⟩:=a.aez (cs':=hM X) p q f (heap_sorted X.toArray f) (by simp[putCells]) (grownBy_sorted _) (by rw[E2,T];omega) (fun i c u=>by
   rw[PJ,Option.map_eq_some_iff]at u;obtain⟨x,ah,rfl⟩:=u;have ak:i<X.length:=(List.getElem?_eq_some_iff.1 ah).1;have xH:i<arr.size:=by omega
   refine⟨encStr x,?_,rfl,.pure _ _ (.str _ ?_),yc _⟩
   ·have:=congrArg (·[i]?) (take_putCells arr X (by omega));simp only[List.getElem?_take_of_lt ak,Array.getElem?_toList,List.getElem?_map,ah,Option.map_some]at this;exact this
   ·have hm:x∈l:=t.mem_iff.1 (List.mem_of_getElem? ah);obtain⟨j,d,rfl⟩:=List.mem_iff_getElem.1 hm;exact(s j d).2)
  exact⟨_,.a8 [],_,g,rfl,⟨rfl,rfl⟩,U,V,.a8 [] [] .nil,e6.lU (by simp)⟩
theorem aBE(b:Lays.n190 P b4)(c:j6 P (b4.f 190)=true)(H:List ax):bn P gl (b4.f 190) [.aV 1] H fun r H'=>r=.a8 []/\H'=H:=by
 refine⟨c,fun g w vs a d _=>?_⟩;cases d with
 |cons _ _ v ws f i =>
  cases i;cases f with
  |pure _ _ h =>
   cases h;refine(Any.slices_Sort_string_none b none 0 w).mono ?_;rintro e w' ⟨rfl,rfl⟩;exact⟨_,.a8 [],_,g,rfl,⟨rfl,rfl⟩,ef.refl _ _,a,.a8 [] [] .nil,e6.lU (by simp)⟩
end
open Go
theorem aeB{P:Program}{gl:cp}{S E sz e3 l:Nat}{d:List cz}{n:cz}(h:Hj P e3 l S E sz d n=true)(g:∀k,pL sz k=true->rB d n k)
  {H:List ax}{id mid m:Nat}{es:List (AV×AV)}(p:H[id]?=some (.cells [.map mid]))(q:H[mid]?=some (.map m es))(s:∀e∈es,eV e.2=true)(o:∀e∈es,pL sz e.1=true)(u:es.length<=M) :
  bn P gl e3 [.aV sz,.fn l [.ptr id 0]] H fun r H'=>(es=[]/\r=.aV sz/\H'=H)\/(es≠[]/\∃ks:List AV,ks.Perm (es.map (·.1))/\r=.bs H.length 0 ks.length sz/\H'=H++[.buf E (ks.map AV.cells).flatten,.dead]):=by
 simp only[Hj,Bool.and_eq_true]at h;obtain⟨⟨⟨⟨⟨v,U⟩,w⟩,x⟩,a⟩,b⟩:=h;obtain⟨i,z,dL⟩:=anx v;split at a
 case h_2=>cases a
 rename_i fn y;split at b
 case h_2=>cases b
 rename_i F j;simp only[Bool.and_eq_true]at a b;obtain⟨a,f⟩:=a;obtain⟨b,A⟩:=b;split at a
 case h_2=>cases a
 rename_i c B;split at b
 case h_2=>cases b
 rename_i G C;split at f
 case h_2=>cases f
 rename_i t D;simp only[beq_iff_eq]at f;subst f;exact anr dL U y B (by apply Array.ext';simpa using D) a j C (by apply Array.ext';simpa using A) b w x p q s (fun e he=>g _ (o e he)) o u
theorem aeC{α β:Type}{f:α->β}:∀{l:List α}{ks:List β},ks.Perm (l.map f)->∃c:List α,c.Perm l/\ks=c.map f:=by
 intro l ks h;obtain⟨c,d,U⟩:∃c:List α,c.map f=ks/\c.Perm l:=by
  generalize hm:l.map f=m at h;induction h generalizing l with
  |nil=>exact⟨l,by rw[hm],.refl _⟩|cons x h ih =>
   cases l with
   |nil=>cases hm|cons y r =>
    simp only[I9,List.cons.injEq]at hm;obtain⟨e,d,U⟩:=ih hm.2;exact⟨y::e,by rw[I9,d,hm.1],U.cons _⟩
  |swap x y r =>
   match l,hm with
   |a::b::e,hm =>
    simp only[I9,List.cons.injEq]at hm;exact⟨b::a::e,by simp only[I9,hm.1,hm.2.1,hm.2.2],.swap _ _ _⟩
  |trans d U g i =>
   obtain⟨q,j,k⟩:=i hm;obtain⟨n,o,p⟩:=g j;exact⟨n,o,p.trans k⟩
 exact⟨c,U,d.symm⟩
theorem aeD:∀l:List aj,((l.map AV.str).map AV.cells).flatten=hM l
 |[]=>rfl|s::r=>by simp only[I9,List.flatten_cons,aeD r,hM];rfl
def p5(x:bE):AV:=.agg [.str x.src,.str x.dst,.bool x.neg]
theorem aBI:∀l:List bE,((l.map p5).map AV.cells).flatten=fA l
 |[]=>rfl|s::r=>by simp only[I9,List.flatten_cons,aBI r,fA,p5,AV.cells];rfl
theorem aeE:∀l:List bE,((l.map bE.enc).map AV.cells).flatten=fA l
 |[]=>rfl|s::r=>by simp only[I9,List.flatten_cons,aeE r,fA,bE.enc,AV.cells];rfl
section
variable {α:Type}{lt:α->α->Bool}
def xS(lt:α->α->Bool)(l:List α):Prop:=l.Pairwise fun a b=>lt a b=true
theorem PN(az:Sort.SWO lt):∀{l m:List α},xS lt l->xS lt m->(∀x,x∈l↔x∈m)->l=m
 |[],[],_,_,_=>rfl|[],y::m,_,_,h=>by have:=(h y).2 (by simp);cases this|x::l,[],_,_,h=>by have:=(h x).1 (by simp);cases this|x::l,y::m,h1,U,h=>by
  have a:=LW.1 h1;have b:=LW.1 U;have f:x=y:=by
   have g:=(h x).1 (by simp);have i:=(h y).2 (by simp);rcases Ja.1 g with e|e
   ·exact e
   ·rcases Ja.1 i with c|c
    ·exact c.symm
    ·have j:=b.1 x e;have k:=a.1 y c;have:=az.trans _ _ _ j k;rw[az.irrefl]at this;cases this
  subst f;rw[PN az a.2 b.2 fun z=>?_];have d:=h z;constructor
  ·intro hm;rcases Ja.1 (d.1 (List.mem_cons_of_mem _ hm))with e|e
   ·subst e;have:=a.1 z hm;rw[az.irrefl]at this;cases this
   ·exact e
  ·intro hm;rcases Ja.1 (d.2 (List.mem_cons_of_mem _ hm))with e|e
   ·subst e;have:=b.1 z hm;rw[az.irrefl]at this;cases this
   ·exact e
theorem aeF[Inhabited α](az:Sort.SWO lt)(k:∀a b,lt a b=false->lt b a=false->a=b){l:List α}(n:l.Nodup):xS lt (Sort.sort lt l.toArray).toList/\∀x,x∈(Sort.sort lt l.toArray).toList↔x∈l:=by
 obtain⟨ao,d⟩:=Sort.sort_sorts lt az l.toArray;obtain⟨m,hm⟩:=toA (Sort.sort lt l.toArray);rw[hm]at ao d ⊢;have f:m.length=l.length:=by simpa using ao.1
 have c:m.Perm l:=by
  have:=ao.2.2;rw[List.size_toArray,<-f]at this;have e:∀x:List α,(x.toArray.extract 0 x.length).toList=x:=fun x=>by simp
  rw[e m,f,e l]at this;exact this
 have o:m.Nodup:=c.nodup_iff.2 n;refine⟨?_,fun x=>c.mem_iff⟩;refine List.pairwise_iff_getElem.2 fun i j ak g p=>?_;have q:j<m.length:=g;have h:=d i j (Nat.zero_le _) p (by rw[List.size_toArray];omega);rw[aet,aet,getElem!_pos m i ak,getElem!_pos m j g]at h;cases U:lt m[i] m[j]with
 |true=>rfl|false =>
  have:=k _ _ U h;have:=(List.getElem_inj o).1 this;omega
def mX[DecidableEq α](lt:α->α->Bool)(x:α):List α->List α
 |[]=>[x]|t::r=>if x=t then t::r else if lt x t then x::t::r else t::mX lt x r
variable {x:α}
theorem PO[DecidableEq α]{y:α}:∀{l:List α},y∈mX lt x l↔y=x\/y∈l
 |[]=>by simp[mX]|t::r=>by
  rw[mX];split
  ·rename_i h;subst h;simp
  ·split
   ·simp
   ·simp only[Ja,PO (l:=r)];constructor
    ·rintro(h|h|h)<;>simp[h]
    ·rintro(h|h|h)<;>simp[h]
theorem aeH[DecidableEq α](az:Sort.SWO lt)(f:∀a b,lt a b=false->lt b a=false->a=b) :∀{l:List α},xS lt l->xS lt (mX lt x l)
 |[],_=>by simp[mX,xS]|t::r,h=>by
  have p:=LW.1 h;rw[mX];split
  ·exact h
  ·rename_i cc;split
   ·rename_i c;refine LW.2 ⟨fun y d=>?_,h⟩;rcases Ja.1 d with e|e
    ·rw[e];exact c
    ·exact az.trans _ _ _ c (p.1 y e)
   ·rename_i c;refine LW.2 ⟨fun y d=>?_,aeH az f p.2⟩;rcases PO.1 d with e|e
    ·grind
    ·exact p.1 y e
theorem E5[DecidableEq α](az:Sort.SWO lt)(c:∀a b,lt a b=false->lt b a=false->a=b):∀(xs acc:List α),xS lt acc->xS lt (xs.foldl (fun a x=>mX lt x a) acc)/\∀y,y∈xs.foldl (fun a x=>mX lt x a) acc↔y∈xs\/y∈acc
 |[],acc,h=>⟨h,fun y=>by simp⟩|x::xs,acc,h=>by
  obtain⟨d,U⟩:=E5 az c xs (mX lt x acc) (aeH az c h);refine⟨d,fun y=>?_⟩;rw[List.foldl_cons,U y,PO,Ja];constructor
  ·rintro(h|h|h)<;>simp[h]
  ·rintro((h|h)|h)<;>simp[h]
end
theorem PQ(a b:aj)(c:mn a b=false)(U:mn b a=false):a=b:=by
 rw[aev]at c U;have:=BB a b;simp only[decide_eq_false_iff_not]at c U;exact mP.1 (by omega)
theorem PR(a b:bE)(c:pf a b=false)(U:pf b a=false):a=b:=by
 have:=PF a b;simp only[decide_eq_false_iff_not]at c U;exact I6 (by omega)
theorem PS(s:aj):∀l,vW s l=mX mn s l
 |[]=>rfl|t::r=>by rw[vW,mX,PS s r]
instance:DecidableEq bE:=fun a b=>decidable_of_iff (k4 a b=0) ⟨I6,fun h=>by rw[h];exact aex b⟩
theorem PT(x:bE):∀l,vX x l=mX pf x l
 |[]=>rfl|t::r=>by
  rw[vX,mX,PT x r];by_cases h:x=t
  ·subst h;rw[if_pos (aex x),if_pos rfl]
  ·rw[if_neg (fun e=>h (I6 e)),if_neg h];by_cases U:k4 x t<0
   ·rw[if_pos U,if_pos (by simpa using U)]
   ·rw[if_neg U,if_neg (by simpa using U)]
variable {l:List aU}
theorem PU{ks:List aj}(b:ks.Nodup)(hm:∀x,x∈ks↔x∈pb l):(Sort.sort mn ks.toArray).toList=gP l:=by
 obtain⟨c,U⟩:=aeF E3 PQ b;have e:gP l=(pb l).foldl (fun a x=>mX mn x a) []:=by
  unfold gP;congr 1
  funext a x
  exact PS x a
 obtain⟨d,f⟩:=E5 E3 PQ (pb l) [] List.Pairwise.nil;rw[e];exact PN E3 c d fun x=>by rw[U,f,hm];simp
theorem PV{ks:List bE}(b:ks.Nodup)(hm:∀x,x∈ks↔x∈jr l):(Sort.sort pf ks.toArray).toList=jY l:=by
 obtain⟨c,U⟩:=aeF zL PR b;have e:jY l=(jr l).foldl (fun a x=>mX pf x a) []:=by
  unfold jY;congr 1
  funext a x
  exact PT x a
 obtain⟨d,f⟩:=E5 zL PR (jr l) [] List.Pairwise.nil;rw[e];exact PN zL c d fun x=>by rw[U,f,hm];simp
def hN(l:List bE):List (AV×AV):=l.map fun x=>(p5 x,.bool true)
def wc(x:bE):List bE->List bE
 |[]=>[x]|y::r=>if JC (p5 x) (p5 y)then x::y::r else y::wc x r
def s4(l:List bE)(x:bE):List bE:=if x∈l then l else wc x l
def E6(n:Nat)(l:List bE)(x:bE):Nat:=if x∈l then n else n+1
theorem PW(x y:bE):dB (p5 x) (p5 y)=decide (x=y):=by
 obtain⟨a,b,c⟩:=x;obtain⟨d,e,f⟩:=y;simp only[p5,dB,eqs,qj,bE.mk.injEq];by_cases g:a=d<;>by_cases U:b=e<;>by_cases h:c=f<;>simp[g,U,h]
theorem aeI:∀(l:List bE)(x:bE),gG (hN l) (p5 x)=if x∈l then some (.bool true)else none
 |[],_=>rfl|y::r,x=>by
  have ih:=aeI r x;simp only[hN]at ih;simp only[hN,I9,gG,PW,ih,decide_eq_true_eq,Ja];by_cases h:x=y<;>simp[h]
theorem aeJ:∀{l:List bE}{x:bE},x∈l->iJ (hN l) (p5 x) (.bool true)=hN l
 |y::r,x,h=>by
  by_cases e:x=y
  ·subst e;simp only[hN,I9,iJ,PW,decide_true,if_true]
  ·have ih:=aeJ (l:=r) (x:=x) (by simpa[e]using h);simp only[hN]at ih;simp only[hN,I9,iJ,PW,e,decide_false,Bool.false_eq_true,if_false,ih]
theorem aeK:∀(l:List bE)(x:bE),tf (hN l) (p5 x) (.bool true)=hN (wc x l)
 |[],_=>rfl|y::r,x=>by
  have ih:=aeK r x;simp only[hN]at ih;simp only[hN,I9,tf,wc];split
  ·rfl
  ·simp only[ih,I9]
theorem aBJ(n:Nat)(l:List bE)(x:bE):oG n (hN l) (p5 x) (.bool true)=.map (E6 n l x) (hN (s4 l x)):=by
 rw[oG,aeI,E6,s4];by_cases h:x∈l
 ·simp only[h,if_true,aeJ h]
 ·simp only[h,if_false,aeK]
theorem aBK(l:List bE):kG [1,1,2] (hN l)=true:=by cases l<;>rfl
variable {id n:Nat}{H:List ax}{l:List bE}
theorem aBL{a b:aj}{c:Bool} :tU [1,1,2] (.agg [.str a,.str b,.bool c]) (.bool true) id H (some (.map n (hN l)))=some (H.set id (.map (E6 n l ⟨a,b,c⟩) (hN (s4 l ⟨a,b,c⟩)))):=by
 have h:fb [1,1,2] (.agg [.str a,.str b,.bool c])=true:=rfl;have e:oG n (hN l) (.agg [.str a,.str b,.bool c]) (AV.aW (.bool true))=.map (E6 n l ⟨a,b,c⟩) (hN (s4 l ⟨a,b,c⟩)):=aBJ n l ⟨a,b,c⟩;simp only[tU,aBK,h,Bool.and_self,if_true,e]
variable {x y:bE}
theorem aeL :∀{l:List bE},y∈wc x l↔y=x\/y∈l
 |[]=>by simp[wc]|t::r=>by
  rw[wc];split
  ·simp
  ·simp only[Ja,aeL (l:=r)];constructor
   ·rintro(h|h|h)<;>simp[h]
   ·rintro(h|h|h)<;>simp[h]
theorem PX :∀{l:List bE},(wc x l).Perm (x::l)
 |[]=>.refl _|t::r=>by
  rw[wc];split
  ·exact .refl _
  ·exact(PX.cons t).trans (.swap x t r)
theorem aBM :y∈s4 l x↔y=x\/y∈l:=by
 unfold s4;split
 ·grind
 ·exact aeL
theorem aBN(h:l.Nodup)(x:bE):(s4 l x).Nodup:=by
 unfold s4;split
 ·exact h
 ·rename_i ah;exact(PX.nodup_iff).2 (List.nodup_cons.2 ⟨ah,h⟩)
theorem aBO(l:List bE)(x:bE):(s4 l x).length<=l.length+1:=by
 unfold s4;split
 ·omega
 ·rw[PX.length_eq];simp
def rS(l:List bE):List bE:=l
theorem aeM:∀l:List aj,chunk 1 l.length (hM l)=l.map AV.str
 |[]=>rfl|t::r=>by
  simp only[List.length_cons,chunk,hM,I9,if_true,List.headD_cons,List.drop_succ_cons,List.drop_zero,aeM r]
theorem aeN:∀l:List aj,(hM l).map AV.aW=hM l
 |[]=>rfl|t::r=>by simp only[hM,I9,aeN r];rfl
theorem aeO:∀l:List aj,(hM l).all AV.eb=true
 |[]=>rfl|t::r=>by simp only[hM,List.all_cons,aeO r];rfl
variable {t e:Nat}
theorem aBP{l:Env}{m:List aj}(h:m.length=n/\n<=M):o7 l H t e 1 id n 1 (some (.buf e (hM m)))=some ⟨N ((t,.v (.list (some e) 1 (m.map AV.str)))::l),H.set id .dead⟩:=by
 obtain⟨h,a⟩:=h;subst h;have U:(hM m).take m.length=hM m:=List.take_of_length_le (by rw[E2];omega);simp only[o7,Nat.mul_one,U,aeN,aeO,E2,true_and,Nat.le_refl,a,if_true,aeM];simp only[cj,List.foldr_cons]
theorem aeP:∀l:List bE,chunk 3 l.length (fA l)=l.map bE.enc
 |[]=>rfl|t::r=>by
  simp only[List.length_cons,chunk,fA,I9,bE.enc];simp only[show ¬(3=1) by decide,if_false,List.take_succ_cons,List.take_zero,List.drop_succ_cons,List.drop_zero,aeP r]
theorem aeQ:∀l:List bE,(fA l).map AV.aW=fA l
 |[]=>rfl|t::r=>by simp only[fA,I9,aeQ r];rfl
theorem aeR:∀l:List bE,(fA l).all AV.eb=true
 |[]=>rfl|t::r=>by simp only[fA,List.all_cons,aeR r];rfl
theorem aBQ{l:Env}{m:List bE}(h:m.length=n/\n<=M):o7 l H t e 3 id n 3 (some (.buf e (fA m)))=some ⟨N ((t,.v (.list (some e) 3 (m.map bE.enc)))::l),H.set id .dead⟩:=by
 obtain⟨h,a⟩:=h;have U:(fA m).take (n*3)=fA m:=List.take_of_length_le (by rw[B2,h];omega);simp only[o7,U,aeQ,aeR,B2,h,true_and,Nat.le_refl,a,if_true];rw[<-h,aeP];simp only[cj,List.foldr_cons]
attribute [go_sem 3000] aBP aBQ aBL
end AM
