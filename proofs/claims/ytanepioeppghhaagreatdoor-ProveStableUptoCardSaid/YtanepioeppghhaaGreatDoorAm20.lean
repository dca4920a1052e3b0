/- An abstract machine, and what of the given program it does, part 21. Conditions: none. -/
import Derived.Test.YtanepioeppghhaaGreatDoorAm19
import Derived.Shelf.SlSortCmp.WholeK
import Derived.Shelf.SlSortCmp.NoneTotal
set_option linter.unusedVariables false
namespace AM
open List renaming mem_cons_of_mem -> aKg,mem_cons -> aKh,mem_map -> aKi,mem_filter -> aKj,length_cons -> aKk,map_cons -> aKl,mem_flatMap -> aKn,mem_append -> aKo,length_append -> aKp,range -> aKr,all_eq_true -> aKs,getElem?_eq_getElem -> aKt,map_congr_left -> aKu,replicate -> aKv,length_nil -> aKw,cons_append -> aKx,append_assoc -> aKy,suffix_rfl -> aKz,sum_cons -> aKB,nil_append -> aKD,take_succ_cons -> aKE,mem_of_getElem? -> aKF,filter_append -> aKG,drop_succ_cons -> aKH,drop_zero -> aKI,length_map -> aKJ,length_eq_zero_iff -> aKK,drop_drop -> aKM,getElem?_eq_none -> aKN,mem_append_left -> aKO,getElem?_cons_zero -> aKP,getElem?_cons_succ -> aKQ
open Bool renaming and_eq_true -> aKm,false_eq_true -> aKA
open Nat renaming le_trans -> aKq,le_refl -> aKC,mul_le_mul_right -> aKR
open Option renaming map_eq_some_iff -> aKL
open Go Go.Proofs Go.Sort Go.Shelf
def zN(x:bE):List Value:=[.string ⟨x.src.toArray⟩,.string ⟨x.dst.toArray⟩,.bool x.neg]
def ug:AV->Value|.str s=>.string ⟨s.toArray⟩|.bool b=>.bool b|_=>.bool false
theorem E7:∀(l:List bE)c,c∈fA l->(∃s,c=.str s/\∃x∈l,s=x.src\/s=x.dst)\/∃b,c=.bool b
 |[],c,h=>by cases h|x::r,c,h=>by
  simp only[fA,aKh]at h;rcases h with rfl|rfl|rfl|h
  ·exact .inl ⟨_,rfl,x,by simp,.inl rfl⟩
  ·exact .inl ⟨_,rfl,x,by simp,.inr rfl⟩
  ·exact .inr ⟨_,rfl⟩
  ·rcases E7 r c h with⟨s,e,y,a,az⟩|h
   ·exact .inl ⟨s,e,y,aKg _ a,az⟩
   ·exact .inr h
theorem aeT:∀(l:List bE)(t:Nat),t<l.length*3->((fA l).map ug)[t]! = (zN l[t / 3]!)[t % 3]!
 |[],t,h=>by simp at h|x::r,0,_=>rfl|x::r,1,_=>rfl|x::r,2,_=>rfl|x::r,t+3,h=>by
  have:=aeT r t (by simp only[aKk]at h;omega);rw[show(t+3) / 3=t / 3+1 by omega,show(t+3) % 3=t % 3 by omega];simpa[fA]using this
theorem aeU(l:List bE):flatK zN 3 l.toArray=((fA l).map ug).toArray:=by
 refine ext_get! (by simp[B2]) fun t b=>?_;have a:t<l.length*3:=by simpa using b
 rw[get_flatK _ _ _ t (by simpa using a)];have:=aeT l t a;have ak:t / 3<l.length:=by omega
 simp only[List.getElem!_toArray]at this ⊢;rw[this]
section
variable {α:Type}[Inhabited α]{w:World}{g n:Nat}{os:Array Obj}{cur:Array Value}{e:TypeId}{dy:Nat×Nat}(enc:α->Value)(d:Array α)
theorem aBU(ae:w.heap[g]?=some (.cells cur e dy)):(grow (putRow enc (Sort.ahead w n) g 0 d) os).heap[g]?=some (.cells (putCells enc 0 d cur) e dy):=by
 have a:g<w.heap.size:=(Array.getElem?_eq_some_iff.1 ae).1;rw[heap_grow_old _ _ (by simpa[putRow,mapBlock]using a)];simp[putRow,mapBlock,Sort.ahead,Array.getElem?_modify,ae,onCells]
theorem aBV:w.grownBy (grow (putRow enc (Sort.ahead w n) g 0 d) os) (some g):=by
 refine⟨rfl,rfl,rfl,by simp[putRow,mapBlock,grow,Sort.ahead],fun k hk cc=>?_⟩;rw[heap_grow_old _ _ (by simpa[putRow,mapBlock]using hk)];have:g≠k:=fun e=>cc (by rw[e]);simp[putRow,mapBlock,Sort.ahead,Array.getElem?_modify,this]
end
variable {P:Program}{gl:cp}{b4:Ren}{f:Nat}
variable {H:List ax}{id e:Nat}
theorem aBW(L:SlLaysF0.n6 P b4)(u:∀w,(isAgg (b4.t 24)).run P w=.ok true w)(z:∀w,(Go.sizeOf (b4.t 24)).run P w=.ok 3 w)(A:∀args w,(callFunc f args).run P w=.ok (.enter f args) w)
  (B:∀(x y:bE)(W:World),Calls P f #[.agg (zN x).toArray,.agg (zN y).toArray] W fun e w'=>e=.returned (.int .i64 (k4 x y))/\∃q T,w'=grow (W.drewN q) T)
  (V:j6 P (b4.f 6)=true){l:List bE}(G:H[id]?=some (.buf e (fA l)))(bm:l.length<=M) :
  bn P gl (b4.f 6) [.bs id 0 l.length 3,.fn f []] H fun r H'=>r=.a8 []/\H'=H.set id (.buf e (fA (Sort.sort pf l.toArray).toList)):=by
 have dh:M=1099511627776:=rfl;refine⟨V,fun g w vs J C _=>?_⟩;cases C with
 |cons _ _ v ws p C =>
  cases C with
  |cons _ _ v2 ws Y Z =>
   cases Z;obtain⟨b,k,cap,K,au,aS,bI,rfl⟩:=p.sj;have PZ:v2=.func (.func f) #[] #[]:=by
    cases Y with
    |pure _ _ h=>cases h|fn _ _ ws h=>cases h;rfl
   subst PZ;obtain⟨D,k',bO,bY,⟨arr,ty,o,z2,z3,z4,z5⟩,⟨ri,t,ej⟩,_⟩:=J.heap id _ G;obtain rfl:D=b:=Option.some.inj (bO.symm.trans K);obtain⟨rfl,rfl,_⟩:arr=ri/\ty=e/\True:=by rw[o]at t;simp only[Option.some.injEq,Obj.cells.injEq]at t;exact⟨t.1,t.2.1,trivial⟩
   have lq:=B2 l;have E:∀(j:Nat)c,(fA l)[j]?=some c->arr[j]?=some (ug c)/\∀s,c=.str s->s.length<=M:=fun j c d=>by
    obtain⟨v,F,aQ,O,cO⟩:=z5 j c d;rcases E7 l c (aKF d)with⟨s,rfl,_⟩|⟨x,rfl⟩
    ·obtain⟨rfl,aD⟩:=O.lV;exact⟨F,fun s' h=>by cases h;exact aD⟩
    ·rw[O.nV]at F;exact⟨F,fun s h=>by cases h⟩
   have bw:=(Array.getElem?_eq_some_iff.1 o).1;have hH:HoldsK zN 3 w D 0 l.toArray:=fun j d=>by
    rw[aeU]at d ⊢;have Q:j<(fA l).length:=by simpa using d
    have hd:((fA l).map ug).toArray[j]! = ug (fA l)[j]:=by simp[getElem!_pos,Q]
    have a:=(E j _ (aKt Q)).1;rw[hd,Nat.zero_add];have U:arr.toList.take (fA l).length=(fA l).map ug:=by
     apply List.ext_getElem?;intro i;by_cases ak:i<(fA l).length
     ·rw[List.getElem?_take_of_lt ak,Array.getElem?_toList,(E i _ (aKt ak)).1,List.getElem?_map,aKt ak];rfl
     ·rw[List.getElem?_take_eq_none (by omega),aKN (by simp;omega)]
    unfold World.cell? World.frozen?;rw[o];simp only[a];exact⟨rfl,rfl⟩
   have hO:SWO (ltOf k4):=zL;refine(AnyQ.slices_SortFunc_eq L 3 u z zN (fun _=>rfl) (fun x v p=>by simp only[zN,aKh,List.not_mem_nil,or_false]at p;rcases p with rfl|rfl|rfl<;>rfl) k4 hO f #[] D 0 cap l.toArray w A (fun m os aHT _ x y=>B x y _) hH bw (by simp;omega)).mono ?_;rintro b3 w' ⟨rfl,n,os,rfl⟩;obtain⟨X,bp⟩:∃X,X=(Sort.sort pf l.toArray).toList:=⟨_,rfl⟩;have PL:pdq (ltOf k4) l.toArray 0 l.toArray.size (Lib.bitLen l.toArray.size) true true=X.toArray:=by
    rw[bp,bitLen_eq _ (by simp only[List.size_toArray];omega)];simp only[Sort.sort,Array.toArray_toList,List.size_toArray];rfl
   have R:X.Perm l:=by
    obtain⟨ao,_⟩:=Sort.sort_sorts pf zL l.toArray;obtain⟨m,hm⟩:=toA (Sort.sort pf l.toArray);rw[hm]at ao;rw[bp,hm];have S:m.length=l.length:=by simpa using ao.1
    have:=ao.2.2;rw[List.size_toArray,<-S]at this;have e:∀x:List bE,(x.toArray.extract 0 x.length).toList=x:=fun x=>by simp
    rw[e m,S,e l]at this;exact this
   rw[PL];have xR:X.length=l.length:=R.length_eq;have aHU:=B2 X;unfold sortWorldK putRowK;rw[aeU];obtain⟨g1,g2⟩:=J.aez (cs':=fA X) G K o (aBU _root_.id ((fA X).map ug).toArray o) (by simp[putCells]) (aBV _ _) (by omega) (fun i c a=>by
    have ak:i<(fA X).length:=(List.getElem?_eq_some_iff.1 a).1;have xH:i<arr.size:=by omega
    refine⟨ug c,?_,?_,?_,?_⟩
    ·have yi:((fA X).map ug).toArray[i]! = ug c:=by
      rw[aKt ak]at a;simp only[Option.some.injEq]at a;simp[getElem!_pos,ak,a]
     rw[aKt ak]at a;simp only[Option.some.injEq]at a;simp[putCells,xH,ak,a]
    ·rcases E7 X c (aKF a)with⟨s,rfl,_⟩|⟨x,rfl⟩<;>rfl
    ·rcases E7 X c (aKF a)with⟨s,rfl,x,ah,az⟩|⟨x,rfl⟩
     ·refine .pure _ _ (.str _ ?_);have hm:x∈l:=R.mem_iff.1 ah;have zO:∀(l:List bE),x∈l->AV.str s∈fA l:=fun l=>by
       induction l with
       |nil=>intro h;cases h|cons y r ih =>
        intro h;simp only[fA,aKh];rcases aKh.1 h with rfl|h
        ·rcases az with rfl|rfl<;>simp
        ·exact .inr (.inr (.inr (ih h)))
      obtain⟨j,d⟩:=List.getElem?_of_mem (zO l hm);exact(E j _ d).2 s rfl
     ·exact .pure _ _ (.bool _)
    ·rcases E7 X c (aKF a)with⟨s,rfl,_⟩|⟨x,rfl⟩
     ·exact yc _
     ·exact fun _ _ _ h=>by cases h)
   exact⟨_,.a8 [],_,g,rfl,⟨rfl,by rw[<-bp];rfl⟩,g1,g2,.a8 [] [] .nil,e6.lU (by simp)⟩
theorem aB1(L:SlLaysF0.n6 P b4)(b:j6 P (b4.f 6)=true)(H:List ax):bn P gl (b4.f 6) [.aV 3,.fn f []] H fun r H'=>r=.a8 []/\H'=H:=by
 refine⟨b,fun g w vs c a _=>?_⟩;cases a with
 |cons _ _ v ws d a =>
  cases a with
  |cons _ _ v2 ws j i =>
   cases i;cases d with
   |pure _ _ h =>
    cases h;refine(AnyF.slices_SortFunc_none L none 0 v2 w).mono ?_;rintro e w' ⟨rfl,rfl⟩;exact⟨_,.a8 [],_,g,rfl,⟨rfl,rfl⟩,ef.refl _ _,c,.a8 [] [] .nil,e6.lU (by simp)⟩
def uh(x y:List UInt8):Int:=if Op.bytesLess x y=true then -1 else if(Op.bytesLess x y||x==y)=false then 1 else 0
def B4(c d:Int):Int:=if c≠0 then c else d
structure aeV(p:Prop):Prop where
 h:p
theorem P0(W:World)(A:Array Value)(e:TypeId)(i:Nat):(W.alloc (.cells A e (0,0))).cell? ⟨W.heap.size,i,none⟩=A[i]?:=by
 unfold World.cell? World.alloc;simp only[Array.getElem?_push_size];rfl
theorem aeW(W:World)(o:Obj){a:Addr}{v:Value}(h:W.cell? a=some v):(W.alloc o).cell? a=some v:=by
 have b:a.block<W.heap.size:=World.block_lt_of_cell? W a h;rw[World.cell?_of_block (w:=W) (by simp only[World.alloc];exact Array.getElem?_push_lt b▸(Array.getElem?_eq_getElem b).symm)];exact h
theorem B5(W:World)(d:Nat)(a:Addr):({ W with drawn:=d }:World).cell? a=W.cell? a:=rfl
theorem aB2(W:World)(A B:Array Value)(e:TypeId)(i:Nat):((W.alloc (.cells A e (0,0))).alloc (.cells B e (0,0))).cell? ⟨W.heap.size,i,none⟩=A[i]?/\((W.alloc (.cells A e (0,0))).alloc (.cells B e (0,0))).cell? ⟨W.heap.size+1,i,none⟩=B[i]?:=by
 constructor
 ·unfold World.cell? World.alloc;simp only[Array.getElem?_push,Array.size_push];rw[if_neg (by omega),if_pos trivial];rfl
 ·have:=P0 (W.alloc (.cells A e (0,0))) B e i;rwa[show(W.alloc (.cells A e (0,0))).heap.size=W.heap.size+1 from Array.size_push _]at this
theorem aeX(x y:aj):uh x y=dk x y:=by
 rw[uh,HR];cases a:Op.bytesLess x y with
 |true=>rfl|false =>
  simp only[aKA,if_false,Bool.false_or];cases U:Op.bytesLess y x with
  |true =>
   have cc:(x==y)=false:=by
    rw[beq_eq_false_iff_ne];rintro rfl;rw[a]at U;cases U
   rw[cc];rfl
  |false =>
   have b:dk x y=0:=by rw[HR,a,U];rfl
   have:x=y:=mP.1 b;rw[this];simp
theorem aB3(x y:bE):k4 x y=B4 (B4 (uh x.src y.src) (uh x.dst y.dst)) (if x.neg=y.neg then 0 else if y.neg=true then -1 else 1):=by
 rw[aeX,aeX,k4];unfold B4;by_cases a:dk x.src y.src=0
 ·by_cases U:dk x.dst y.dst=0
  ·simp[a,U]
  ·simp[a,U]
 ·simp[a]
open Go
open Enc (enc)
theorem ae7(a:List (aj×Int))(s:aj)(v:Int)(t:aj):lP (fz a s v) t=if t=s then v else lP a t:=by
 unfold lP;rw[vN];split<;>rfl
def p6(ns:List aj)(cN:List (aj×Int)):Nat:=(ns.map fun s=>(lP cN s).toNat).sum
variable {ns:List aj}{cN:List (aj×Int)}
theorem aCx{b:Nat}(h:∀s,lP cN s<=b):p6 ns cN<=ns.length*b:=by
 induction ns with
 |nil=>simp[p6]|cons x r ih =>
  have:=h x;simp only[p6,aKl,aKB,aKk]at ih ⊢;rw[Nat.succ_mul];omega
variable {s:aj}{v:Int}
theorem ae8(a:0<=lP cN s)(b:lP cN s<v):∀{ns:List aj},p6 ns cN<=p6 ns (fz cN s v)/\(s∈ns->p6 ns cN<p6 ns (fz cN s v))
 |[]=>by simp[p6]|x::r=>by
  obtain⟨c,U⟩:=ae8 a b (ns:=r);simp only[p6,aKl,aKB,ae7]at c U ⊢;by_cases ah:x=s
  ·grind
  ·grind
def wg(b:Int)(cN:List (aj×Int)):Prop:=∀s,0<=lP cN s/\lP cN s<=b
variable {b:Int}
theorem ae9(h:wg b cN)(e:bE):0<=zH cN e/\zH cN e<=b+1:=by
 have:=h e.dst;unfold zH;split<;>omega
theorem afa(h:wg b cN)(a:0<=v)(c:v<=b):wg b (fz cN s v):=fun t=>by
 rw[ae7];split
 ·exact⟨a,c⟩
 ·exact h t
theorem P7{n:Int} :∀{es:List bE}{cN a:List (aj×Int)}{d g:Bool},(∀e∈es,e.src∈ns)->wg n cN->pc n es cN d=some (a,g) ->
  wg n a/\p6 ns cN<=p6 ns a/\(g=true->d=true\/p6 ns cN<p6 ns a)
 |[],cN,a,d,g,_,c,h=>by
  simp only[pc,Option.some.injEq,Prod.mk.injEq]at h;obtain⟨rfl,rfl⟩:=h;exact⟨c,aKC _,.inl⟩
 |e::r,cN,a,d,g,az,c,h=>by
  rw[pc]at h;split at h
  ·rename_i i;split at h
   ·cases h
   ·rename_i m;have j:=ae9 c e;obtain⟨k,o,_⟩:=P7 (fun e he=>az e (aKg _ he)) (afa c j.1 (by omega)) h;obtain⟨p,l⟩:=ae8 (ns:=ns) (c e.src).1 i;have:=l (az e (by simp));exact⟨k,by omega,fun _=>.inr (by omega)⟩
  ·exact P7 (fun e he=>az e (aKg _ he)) c h
variable {n:Nat}
theorem afb(a:ns.length=n){es:List bE}(az:∀e∈es,e.src∈ns):∀(f:Nat){cN:List (aj×Int)},wg n cN->n*n+1<f+p6 ns cN->sZ n es f cN≠none
 |0,cN,c,h=>by
  have:=aCx (ns:=ns) (b:=n) fun s=>(c s).2;rw[a]at this;omega
 |f+1,cN,c,h=>by
  rw[sZ];split
  ·simp
  ·rename_i ao;obtain⟨d,i,g⟩:=P7 az c ao;have:=(g rfl).resolve_left (by simp);exact afb a az f d (by omega)
  ·simp
theorem afd(n:Nat):wg n []:=fun s=>by simp[lP,getM]
variable {l:List aU}
theorem afe{x:aj}:x∈gP l↔x∈pb l:=by
 have e:gP l=(pb l).foldl (fun a x=>mX mn x a) []:=by
  unfold gP;congr 1
  funext a x
  exact PS x a
 rw[e,(E5 E3 PQ (pb l) [] List.Pairwise.nil).2 x];simp
theorem aCy{x:bE}:x∈jY l↔x∈jr l:=by
 have e:jY l=(jr l).foldl (fun a x=>mX pf x a) []:=by
  unfold jY;congr 1
  funext a x
  exact PT x a
 rw[e,(E5 zL PR (jr l) [] List.Pairwise.nil).2 x];simp
theorem aCz{e:bE}(h:e∈jY l):e.src∈gP l/\e.dst∈gP l:=by
 rw[aCy]at h;rw[afe,afe];simp only[jr,aKn,aKj,aKi]at h;obtain⟨r,⟨a,c⟩,x,⟨ah,U⟩,rfl⟩:=h;simp only[pb,aKj,aKn,aKh,aKi];exact⟨⟨⟨r,a,.inl rfl⟩,c⟩,⟨⟨r,a,.inr ⟨x,ah,rfl⟩⟩,U⟩⟩
theorem aCA(l:List aU):∃R,sZ (gP l).length (jY l) ((gP l).length*(gP l).length+2) []=some R:=by
 have:=afb (n:=(gP l).length) (ns:=gP l) rfl (fun e he=>(aCz he).1) ((gP l).length*(gP l).length+2) (afd _) (by omega);exact Option.ne_none_iff_exists'.1 this
theorem Jb(cN:List (aj×Int))(s:aj):vO (.int .i64 0) false ((getM cN s).map (AV.int .i64))=.int .i64 (lP cN s):=by
 unfold lP;cases getM cN s<;>rfl
def p7(l:List aU):AV:=match s0 l with
 |none=>.a8 [.list none 2 [],.int .i64 10]|some cN=>.a8 [.list none 2 (cN.map fun p=>(eu.mk p.1 p.2).enc),.int .i64 0]
theorem aff(s:aj):∀(a:List eu)(i:Nat),(jq (fun x:eu=>x.name==s) a i = -1/\ml (a.map fun x=>(x.name,x.level)) s = -1) \/
  ∃k,k<a.length/\jq (fun x:eu=>x.name==s) a i=((i+k:Nat):Int)/\ml (a.map fun x=>(x.name,x.level)) s=a[k]!.level
 |[],i=>.inl ⟨rfl,rfl⟩|x::r,i=>by
  rw[jq];by_cases h:x.name=s
  ·have c:(x.name==s)=true:=by simpa using h
   refine .inr ⟨0,by simp,?_,?_⟩
   ·simp only[c,if_true];rfl
   ·simp[ml,getM,h]
  ·have c:(x.name==s)=false:=by simpa using h
   have j:ml ((x::r).map fun x=>(x.name,x.level)) s=ml (r.map fun x=>(x.name,x.level)) s:=by
    simp only[ml,aKl,getM,Ne.symm h,if_false]
   rw[j];simp only[c,aKA,if_false];rcases aff s r (i+1)with⟨g,d⟩|⟨k,g,d,m⟩
   ·exact .inl ⟨g,d⟩
   ·exact .inr ⟨k+1,by simp only[aKk];omega,by rw[d];congr 1;omega,by rw[m];simp⟩
def ui(e:Nat):List Nat->AV
 |[]=>.aV 1|x::r=>.list (some e) 1 ((x::r).map p3)
def mY(lv:Nat->Int)(k n:Nat):List Nat:=(aKr k).filter fun i=>lv i==(n:Int)
def kf(e:Nat)(lv:Nat->Int)(S k:Nat):List AV:=(aKr S).map fun n=>ui e (mY lv k n)
theorem afg(lv:Nat->Int)(k n:Nat):mY lv (k+1) n=if lv k=(n:Int)then mY lv k n++[k]else mY lv k n:=by
 rw[mY,List.range_succ,aKG];split
 ·rename_i h;simp[mY,h]
 ·rename_i h;simp[mY,h]
theorem Fb(e:Nat)(lv:Nat->Int)(S k:Nat):(kf e lv S k).length=S:=by simp[kf]
variable {lv:Nat->Int}{S k w:Nat}
theorem P8(h:w<S):(kf e lv S k)[w]?=some (ui e (mY lv k w)):=by
 simp[kf,h]
theorem aCB(h:lv k<0):kf e lv S (k+1)=kf e lv S k:=by
 unfold kf;refine aKu fun n _=>?_;rw[afg,if_neg (by omega)]
theorem aCC(d:lv k=(w:Int))(h:w<S):kf e lv S (k+1)=(kf e lv S k).set w (.list (some e) 1 ((mY lv k w).map p3++[p3 k])):=by
 apply List.ext_getElem?;intro n;rw[List.getElem?_set,Fb];by_cases a:n<S
 ·rw[P8 a,afg,d];by_cases c:w=n
  ·subst c;rw[if_pos rfl,if_pos rfl,if_pos h];cases mY lv k w with
   |nil=>rfl|cons x r=>simp[ui]
  ·rw[if_neg (by omega),if_neg c,P8 a]
 ·have g:(kf e lv S (k+1))[n]?=none:=aKN (by rw[Fb];omega);have U:(kf e lv S k)[n]?=none:=aKN (by rw[Fb];omega);rw[g,if_neg (by omega),U]
theorem aCD(e:Nat)(lv:Nat->Int)(S:Nat):kf e lv S 0=aKv S (.aV 1):=by
 unfold kf;have:(fun n=>ui e (mY lv 0 n))=fun _=>AV.aV 1:=rfl;rw[this,List.map_const',List.length_range]
theorem aCE(e:Nat)(r:List Nat):(ui e r).aW.can=s3 r:=by
 cases r with
 |nil=>simp only[ui,AV.aW,NJ,s3,List.map_nil]|cons x r =>
  simp only[ui,AV.aW,zb,s3,List.map_map];rw[show(x::r).map (AV.can∘p3)=(x::r).map p3 from aKu fun a _=>by simp only[Function.comp,p3,AV.can]]
theorem aCF(e:Nat)(o:Option Nat)(lv:Nat->Int)(S k:Nat):bQ (.list o 1 ((kf e lv S k).map AV.aW)) (.list none 1 ((aKr S).map fun n=>s3 (mY lv k n))):=by
 refine NK ?_;rw[zb];congr 1
 simp only[kf,List.map_map];exact aKu fun n _=>aCE e _
variable {x:AV}
theorem aCG{cs:List AV}(h:cs[w]?=some x):vH 1 w (some (.buf e cs))=some [x]:=by
 obtain⟨a,U⟩:=List.getElem?_eq_some_iff.1 h;rw[Bu,if_pos (by omega),List.drop_eq_getElem_cons a,U];rfl
theorem afh(x:AV):∀(cs:List AV)(w:Nat),w<cs.length->setCells cs w [x]=cs.set w x
 |[],w,h=>by simp at h|t::r,0,_=>by simp[setCells]|t::r,w+1,h=>by
  have:=afh x r w (by simpa using h);simp only[setCells,List.set_cons_succ]at this ⊢;first|done|(rw[<-this];first|done|simp)
theorem afi{E:Env}{cs:List AV}(h:w<cs.length):sL E H id w [x] (some (.buf e cs))=some ⟨E,H.set id (.buf e (cs.set w x))⟩:=by
 rw[D4,if_pos (by simp only[aKk,aKw];omega),afh x cs w h]
theorem afj:∀cs:List AV,chunk 1 cs.length cs=cs
 |[]=>rfl|t::r=>by simp only[aKk,chunk,if_true,List.headD_cons,aKH,aKI,afj r]
theorem aCH{l:Env}{t:Nat}{cs:List AV}(h:cs.length=n/\n<=M)(ao:(cs.map AV.aW).all AV.eb=true) :
  o7 l H t e 1 id n 1 (some (.buf e cs))=some ⟨N ((t,.v (.list (some e) 1 (cs.map AV.aW)))::l),H.set id .dead⟩:=by
 obtain⟨rfl,a⟩:=h;simp only[o7,Nat.mul_one,List.take_length,ao,true_and,aKC,a,if_true];have:=afj (cs.map AV.aW);rw[aKJ]at this;rw[this];simp only[cj,List.foldr_cons]
theorem aCI(e:Nat)(lv:Nat->Int)(S k:Nat):((kf e lv S k).map AV.aW).all AV.eb=true:=by
 rw[aKs];intro x ah;simp only[kf,List.map_map,aKi,Function.comp]at ah;obtain⟨n,_,rfl⟩:=ah;cases mY lv k n<;>rfl
theorem aCJ(e:Nat)(r:List Nat):(ui e r=.aV 1/\r.map p3=[])\/ui e r=.list (some e) 1 (r.map p3):=by
 cases r with
 |nil=>exact .inl ⟨rfl,rfl⟩|cons x r=>exact .inr rfl
theorem P9:∀(a:List (aj×Int))(m:Int),m<=a.foldl (fun m p=>max m p.2) m/\∀p∈a,p.2<=a.foldl (fun m p=>max m p.2) m
 |[],m=>⟨Int.le_refl _,fun p h=>by cases h⟩|q::r,m=>by
  obtain⟨c,U⟩:=P9 r (max m q.2);rw[List.foldl_cons];refine⟨by omega,fun p ao=>?_⟩;rcases aKh.1 ao with rfl|ao
  ·omega
  ·exact U p ao
variable {α:Type}
theorem afk{v:α}:∀{l:List (aj×α)},getM l s=some v->∃p∈l,p.2=v
 |[],h=>by cases h|(k,u)::r,h=>by
  rw[getM]at h;split at h
  ·simp_all
  ·obtain⟨p,a,U⟩:=afk h;exact⟨p,aKg _ a,U⟩
theorem aCK(a:List (aj×Int))(s:aj):ml a s<=vY a:=by
 unfold ml vY;obtain⟨c,U⟩:=P9 a (-1);cases h:getM a s with
 |none=>exact c|some v =>
  obtain⟨p,d,g⟩:=afk h;rw[<-g];exact U p d
theorem afl(x:α):∀n:Nat,(aKv n [x]).flatten=aKv n x
 |0=>rfl|n+1=>by simp only[List.replicate_succ,List.flatten_cons,afl x n,List.singleton_append]
theorem aCL(lv:Nat->Int)(k n:Nat):(mY lv k n).length<=k:=by
 have:=List.length_filter_le (fun i=>lv i==(n:Int)) (aKr k);rw[List.length_range]at this;exact this
mutual
def fa:I->aj|.mk n l=>n++[40]++hZ l++[41]
def hZ:List I->aj|[]=>[]|t::r=>(fa t++[44])++hZ r
end
def wh:aj->Bool|[]=>false|c::_=>decide (65<=c.toNat)&&decide (c.toNat<=90)
def kE(t:I):Bool:=decide (t.args.length=0)&&wh t.name
def ox(s:List ba)(n:aj):Option I:=(s.find? fun b=>b.var==n).map (·.term)
mutual
def eO:I->I->List ba->List ba×Bool
 |.mk n l,t,s=>if kE (.mk n l)then(match ox s n with|some u=>(s,hi u t)|none=>(s++[⟨n,t⟩],true))
  else if n != t.name||decide (l.length≠t.args.length)then([],false)else js l t.args s
def js:List I->List I->List ba->List ba×Bool
 |p::bP,t::bu,s=>if(eO p t s).2 then js bP bu (eO p t s).1 else((eO p t s).1,false)|[],_,s=>(s,true)|_::_,[],s=>(s,true)
end
mutual
def gQ:I->List ba->Option I
 |.mk n l,s=>if kE (.mk n l)then ox s n else(j1 l s).map (I.mk n)
def j1:List I->List ba->Option (List I)
 |[],_=>some []|t::r,s=>match gQ t s with
  |none=>none|some u=>(j1 r s).map (u::·)
end
theorem Qk:∀(l:List I)(t:I),hZ (l++[t])=hZ l++(fa t++[44])
 |[],t=>by simp[hZ]|u::r,t=>by simp only[aKx,hZ,Qk r t,aKy]
variable {l:List I}{i:Nat}
theorem aDg(h:i<l.length):hZ (l.take (i+1))=hZ (l.take i)++(fa l[i]!++[44]):=by rw[bZ h,Qk]
theorem Ql:∀(l:List I)(i:Nat),(hZ (l.take i)).length<=(hZ l).length
 |[],i=>by simp[hZ]|t::r,0=>by simp[hZ]|t::r,i+1=>by
  have:=Ql r i;simp only[aKE,hZ,aKp]at this ⊢;omega
theorem afz:∀{l:List I}{s:List ba}{m:List I},j1 l s=some m->m.length=l.length
 |[],s,m,h=>by simp only[j1,Option.some.injEq]at h;subst h;rfl|t::r,s,m,h=>by
  rw[j1]at h;split at h
  ·cases h
  ·cases a:j1 r s with
   |none=>rw[a]at h;cases h|some q =>
    rw[a]at h;simp only[Option.map_some,Option.some.injEq]at h;subst h;simp[afz a]
def kg(a:I)(s:List ba):List I->List (List ba)->Int->Option (List (List ba)×Int)
 |[],dr,left=>some (dr,left)|t::bu,dr,left=>if t.name != a.name||decide (t.args.length≠a.args.length)then kg a s bu dr left
  else if decide (left-1<0)||decide ((if(eO a t s).2 then dr++[(eO a t s).1]else dr).length>5000)then none
  else kg a s bu (if(eO a t s).2 then dr++[(eO a t s).1]else dr) (left-1)
def lQ(a:I)(atoms:List I):List (List ba)->List (List ba)->Int->Option (List (List ba)×Int)
 |[],dr,left=>some (dr,left)|s::r,dr,left=>match kg a s atoms dr left with
  |none=>none|some (jd,hA)=>lQ a atoms r jd hA
def j2(atoms:List I):List Lit->List (List ba)->Int->Option (List (List ba)×Int)
 |[],out,left=>some (out,left)|x::r,out,left=>if x.neg||x.atom.name==hW then j2 atoms r out left else match lQ x.atom atoms out [] left with
  |none=>none|some (wi,hA)=>j2 atoms r wi hA
def p8(n:Nat)(l:List (List ba)):Prop:=∀s∈l,s.length<=n
theorem Qm:∀{l:List I}{i:Nat},i<l.length->((cM l).drop (i*2)).take 1=[.str l[i]!.name]/\((cM l).drop (i*2+1)).take 1=[.list none 2 (l[i]!.args.map I.enc)]
 |[],i,h=>by simp at h|t::r,0,_=>by simp[cM]|t::r,i+1,h=>by
  have:=Qm (l:=r) (i:=i) (by simpa using h);rw[show(i+1)*2=i*2+2 by omega,show i*2+2+1=i*2+1+2 by omega];simpa[cM]using this
theorem aDh(h:i<l.length):vH 1 (i*2) (some (.buf e (cM l)))=some [.str l[i]!.name]:=by
 rw[Bu,(Qm h).1,kC,if_pos (by omega)]
theorem aDi(h:i<l.length):vH 1 (i*2+1) (some (.buf e (cM l)))=some [.list none 2 (l[i]!.args.map I.enc)]:=by
 rw[Bu,(Qm h).2,kC,if_pos (by omega)]
attribute [go_sem 3000] aDh aDi
variable {d:Nat}{K:an->Prop}{t:aM K}
theorem aDj{s:an} :om s d e 2 K t (.aV 2) (some (2,[.agg [.str [],.aV 2]]))=c7 { s with heap:=s.heap++[ax.buf e [.str [],.aV 2],.dead] } d (.bs s.heap.length 0 1 2) K ⟨⟩:=by
 simp only[om];rw[if_pos ⟨trivial,trivial,by decide⟩];rfl
theorem afA:∀l:List I,(cM l).map AV.aW=cM l
 |[]=>rfl|t::r=>by simp only[cM,aKl,afA r];rfl
variable {S:List I}
theorem aDk{e0:Env}(h:H[id]?=some (.buf e (cM S))/\n=S.length/\n+1<=M) :
  om ⟨e0,H⟩ d e 2 K t (.bs id 0 n 2) (some (2,[.agg [.str [],.aV 2]]))=c7 ⟨e0,H.set id .dead++[ax.buf e (cM S++[.str [],.aV 2]),.dead]⟩ d (.bs H.length 0 (n+1) 2) K ⟨⟩:=by
 obtain⟨a,rfl,U⟩:=h;have c:(cM S).take (S.length*2)=cM S:=List.take_of_length_le (by rw[kC];omega);simp only[om,a];rw[if_pos ⟨trivial,trivial,trivial,by rw[kC];omega,by simpa using U⟩,c,afA];rfl
theorem afB(x y:AV):∀(S:List I)(a b:AV),setCells (cM S++[a,b]) (S.length*2) [x,y]=cM S++[x,y]
 |[],a,b=>rfl|t::r,a,b=>by
  have:=afB x y r a b;rw[aKk,show(r.length+1)*2=r.length*2+2 by omega];simp only[cM,aKx,setCells]at this ⊢;rw[show r.length*2+2+1=r.length*2+1+2 by omega];simp only[List.set_cons_succ];rw[this]
theorem afC:∀(S:List I)(t:I),cM (S++[t])=cM S++[.str t.name,.list none 2 (t.args.map I.enc)]
 |[],t=>rfl|u::r,t=>by simp only[aKx,cM,afC r t]
theorem afD{P:Program}{gl:cp}{D:bc}{b:Bool}{x v:aI}{s:an} :bV P gl D s K t (.lf b n x v)=b7 (aH gl s (.lf b n x v)) K ⟨⟩:=_root_.id rfl
variable {t:I}
theorem afE(h:H[id]?=some (.buf e (cM S++[.str [],.aV 2]))):pv true 2 H (some (.ptr id (S.length*2))) (some t.enc)=some (H.set id (.buf e (cM (S++[t])))):=by
 have c:(cM S++[AV.str [],AV.aV 2]).length=S.length*2+2:=by rw[aKp,kC];rfl
 have a:t.enc.cells=[.str t.name,.list none 2 (t.args.map I.enc)]:=by rw[t.pR];rfl
 simp only[pv,h];rw[if_pos ⟨trivial,by rw[a];rfl,by rw[a];rfl,by rw[c];omega⟩,a];simp only[aKl,List.map_nil,AV.aW];rw[afB,afC]
theorem afF{o z:Nat}{c:AV}(h:H[id]?=some (.cells [c])):pv false 1 H (some (.ptr id 0)) (some (.bs i o n z))=some (H.set id (.cells [.bs i o n z])):=by
 simp only[pv,h];rfl
def j3(t:I):Option I:=if decide (t.args.length=1)&&(t.name==[105,110,105,116]||t.name==[110,101,120,116])then some (.mk [116,114,117,101] t.args)
 else if decide (t.args.length=2)&&t.name==[108,101,103,97,108]then some (.mk [100,111,101,115] t.args)else none
def qW(S:List I):List aU->List I->Int->Option (List I×Int)
 |[],more,left=>some (more,left)|r::rs,more,left=>match j2 S r.body [[]] left with
  |none=>none|some (all,hA)=>qW S rs (more++all.filterMap (gQ r.head)) hA
def gv(p:List (aj×Bool)×List I)(t:I):List (aj×Bool)×List I:=if !((getM p.1 (fa t)).getD false)&&decide (c0 t<=4)then(fz p.1 (fa t) true,p.2++[t])else p
def p9(t:I):Bool:=decide ((fa t).length<=M)&&decide (c0 t<=1000000)
def xZ(l:List aU):Nat->List (aj×Bool)×List I->Int->Int->Option Bool
 |0,_,_,_=>none|f+1,p,n,left=>if decide (n<(p.2.length:Int))&&decide (p.2.length<=1000)then(match qW p.2 l [] left with
   |none=>some false|some (more,hA)=>if !((more++p.2.filterMap j3).all p9)then none else xZ l f ((more++p.2.filterMap j3).foldl gv p) p.2.length hA)
  else some (decide (p.2.length<=1000))
def iu(l:List aU)(given:List I):Option Bool:=if !(given.all p9)then none else xZ l 1003 (given.foldl gv ([],[])) (-1) 1000000
theorem afQ(p:List (aj×Bool)×List I)(t:I):p.2.length<=(gv p t).2.length/\(gv p t).2.length<=p.2.length+1:=by
 unfold gv;split<;>simp
theorem QM(h:e9 s=true):wh s=true:=by
 unfold e9 oh at h;cases s with
 |nil=>simp at h|cons c r=>simp_all[wh,jn]
theorem QN(h:fo s=true):wh s=false:=by
 unfold fo oh at h;cases s with
 |nil=>rfl|cons c r =>
  simp_all[wh,jn];omega
theorem af7(h:(hh s).isSome=true):wh s=false:=by
 unfold hh at h;cases s with
 |nil=>rfl|cons c r =>
  simp only at h;split at h
  ·rename_i a;have:=aKs.1 a.2.2 c (by simp);simp only[hv,aKm,decide_eq_true_eq]at this;simp only[wh,Bool.and_eq_false_iff,decide_eq_false_iff_not];omega
  ·cases h
theorem Jk{v:Bool}(h:ct n t v=true):kE t=hl t:=by
 unfold kE hl;by_cases a:t.args.length=0
 ·rw[decide_eq_true a,Bool.true_and,Bool.true_and];cases n with
  |zero=>cases h|succ n =>
   rw[ct,if_pos a]at h;simp only[aKm,Bool.or_eq_true]at h;obtain⟨_,(h|h)|h⟩:=h
   ·rw[QN h];cases c:e9 t.name with
    |false=>rfl|true=>have:=QM c;rw[QN h]at this;cases this
   ·rw[af7 h];cases c:e9 t.name with
    |false=>rfl|true=>have:=QM c;rw[af7 h]at this;cases this
   ·rw[h.2,QM h.2]
 ·rw[decide_eq_false a];rfl
def je(s:List ba):Sub:=s.map fun b=>(b.var,b.term)
theorem Jl(n:aj):∀s:List ba,ox s n=getM (je s) n
 |[]=>rfl|b::r=>by
  have ih:=Jl n r;unfold ox at ih ⊢;rw[List.find?_cons];simp only[je,aKl,getM]at ih ⊢;by_cases h:n=b.var
  ·subst h;simp
  ·grind
theorem aDS(u t:I):hi u t=(cf u t==0):=by
 rw[Bool.eq_iff_iff,aaL,beq_iff_eq];exact⟨fun h=>by rw[h];exact H2 t,vL u t⟩
theorem af8:∀(n:Nat)(p g:I)(s:List ba),ct n p true=true->(eO p g s).2=(eF p g (je s)).1/\((eO p g s).2=true->je (eO p g s).1=(eF p g (je s)).2)
 |0,p,g,s,h=>by cases h|n+1,.mk c l,g,s,h=>by
  have j:=Jk h;have o:=sX h;rw[eO,eF,j];cases C:hl (.mk c l)with
  |true =>
   simp only[if_true,mh,Jl];cases getM (je s) c with
   |none=>exact⟨rfl,fun _=>by simp[je]⟩|some u=>exact⟨aDS u g,fun _=>rfl⟩
  |false =>
   simp only[aKA,if_false];by_cases a:c≠g.name\/l.length≠g.args.length
   ·grind
   ·have z:(c != g.name||decide (l.length≠g.args.length))=false:=by
     simp only[not_or,Decidable.not_not]at a;simp[a.1,a.2]
    rw[z,if_neg (by simp),if_neg a];have key:∀(l m:List I)(s:List ba),(∀u∈l,ct n u true=true)->l.length=m.length->(js l m s).2=(gh l m (je s)).1/\((js l m s).2=true->je (js l m s).1=(gh l m (je s)).2):=fun l=>by
     induction l with
     |nil=>intro m s _ _;rw[js,gh];exact⟨rfl,fun _=>rfl⟩;all_goals simp|cons x r ih =>
      intro m s A hm;cases m with
      |nil=>simp at hm|cons y q =>
       obtain⟨B,U⟩:=af8 n x y s (A x (by simp));rw[js,gh,<-B];cases ah:(eO x y s).2 with
       |false=>simp|true=>grind
    simp only[not_or,Decidable.not_not]at a;exact key l g.args s o.2.2.1 a.2
theorem QO:∀(n:Nat)(t:I)(s:List ba)(u:I),ct n t true=true->gQ t s=some u->iF (je s) t=u
 |0,t,s,u,h,_=>by cases h|n+1,.mk g l,s,u,h,ak=>by
  have z:=Jk h;have A:=sX h;rw[gQ,z]at ak;rw[OK];cases o:hl (.mk g l)with
  |true =>
   rw[o]at ak;simp only[if_true,Jl]at ak;show(getM (je s) g).getD _=u;rw[ak];rfl
  |false =>
   rw[o]at ak;simp only[aKA,if_false]at ak ⊢;have key:∀(l:List I)(m:List I),(∀x∈l,ct n x true=true)->j1 l s=some m->l.map (iF (je s))=m:=fun l=>by
    induction l with
    |nil=>intro m _ h;simp only[j1,Option.some.injEq]at h;rw[<-h];rfl|cons x r ih =>
     intro m p h;rw[j1]at h;cases ah:gQ x s with
     |none=>rw[ah]at h;cases h|some y =>
      rw[ah]at h;cases c:j1 r s with
      |none=>rw[c]at h;cases h|some q =>
       rw[c]at h;simp only[Option.map_some,Option.some.injEq]at h;rw[<-h,aKl,QO n x s y (p x (by simp)) ah,ih q (fun u B=>p u (aKg _ B)) c]
   cases c:j1 l s with
   |none=>rw[c]at ak;cases ak|some m =>
    rw[c]at ak;simp only[Option.map_some,Option.some.injEq]at ak;show(if l.length=0 then I.mk g l else .mk g (l.map _))=u;by_cases j:l.length=0
    ·rw[if_pos j,<-ak];cases l with
     |nil=>simp only[j1,Option.some.injEq]at c;rw[<-c]|cons a b=>simp at j
    ·rw[if_neg j,key l m A.2.2.1 c,ak]
theorem af9:∀(n:Nat)(t:I)(s:List ba),ct n t true=true->(∀x∈dG t,e9 x=true->(getM (je s) x).isSome=true)->(gQ t s).isSome=true
 |0,t,s,h,_=>by cases h|n+1,.mk g l,s,h,ae=>by
  have p:=Jk h;have q:=sX h;rw[gQ,p];cases j:hl (.mk g l)with
  |true =>
   rw[if_pos rfl,Jl];simp only[hl,aKm,decide_eq_true_eq]at j;exact ae g (by rw[qI,if_pos j.1];simp[I.name]) j.2
  |false =>
   rw[if_neg (by simp),Option.isSome_map];have key:∀(l:List I),(∀x∈l,ct n x true=true)->(∀u∈l,∀x∈dG u,e9 x=true->(getM (je s) x).isSome=true)->(j1 l s).isSome=true:=fun l=>by
    induction l with
    |nil=>intro _ _;rfl|cons x r ih =>
     intro m o;obtain⟨y,z⟩:=Option.isSome_iff_exists.1 (af9 n x s (m x (by simp)) (o x (by simp)));rw[j1,z];simp only[Option.isSome_map];exact ih (fun u a=>m u (aKg _ a)) fun u a=>o u (aKg _ a)
   refine key l q.2.2.1 fun u a x ah A=>ae x ?_ A;rw[qI];by_cases c:(I.mk g l).args.length=0
   ·exfalso;simp only[I.args]at c;rw[aKK]at c;rw[c]at a;cases a
   ·rw[if_neg c];exact ER.2 ⟨u,a,ah⟩
mutual
theorem key_inj:∀(t u:I){r r':aj},mi t->mi u->fa t++r=fa u++r'->t=u/\r=r'
 |.mk n l,.mk m k,r,r',h1,U,h=>by
  simp only[mi]at h1 U;simp only[fa,aKy,aKx,aKD]at h;obtain⟨rfl,e⟩:=BQ h1.1 U.1 (BR _) (BR _) h;simp only[List.cons.injEq,true_and]at e;obtain⟨rfl,a⟩:=aga l k h1.2 U.2 e;exact⟨rfl,a⟩
theorem aga:∀(l m:List I){r r':aj},pZ l->pZ m->hZ l++41::r=hZ m++41::r'->l=m/\r=r'
 |[],[],r,r',_,_,h=>by simpa[hZ]using h|[],.mk n k::m,r,r',_,U,h=>by
  simp only[pZ,mi]at U;simp only[hZ,fa,aKD,aKy,aKx]at h;cases n with
  |nil=>simp at h|cons c n=>simp at h;exact absurd h.1.symm (U.1.1 c (by simp)).2.1
 |.mk n k::l,[],r,r',h1,_,h=>by
  simp only[pZ,mi]at h1;simp only[hZ,fa,aKD,aKy,aKx]at h;cases n with
  |nil=>simp at h|cons c n=>simp at h;exact absurd h.1 (h1.1.1 c (by simp)).2.1
 |t::l,u::m,r,r',h1,U,h=>by
  simp only[pZ]at h1 U;simp only[hZ,aKy,aKx,aKD]at h;obtain⟨rfl,e⟩:=key_inj t u h1.1 U.1 h;simp only[List.cons.injEq,true_and]at e;obtain⟨rfl,a⟩:=aga l m h1.2 U.2 e;exact⟨rfl,a⟩
end
variable {u:I}
theorem agb(a:mi t)(U:mi u)(h:fa t=fa u):t=u:=(key_inj t u (r:=[]) (r':=[]) a U (by rw[h])).1
def zR(A:List I)(p:I)(σ:Sub):List Sub:=(iE A p.name).flatMap fun a=>if(eF p a σ).1=true then[(eF p a σ).2]else[]
def exts(A:List I):List Lit->Sub->List Sub
 |[],σ=>[σ]|l::gE,σ=>(iE A l.atom.name).flatMap fun a=>if(eF l.atom a σ).1=true then exts A gE (eF l.atom a σ).2 else[]
theorem aDT(A:List I)(l:Lit)(c:List Lit)(σ:Sub):exts A (l::c) σ=(zR A l.atom σ).flatMap (exts A c):=by
 rw[exts,zR,List.flatMap_assoc];congr 1;funext a
 by_cases h:(eF l.atom a σ).1=true<;>simp[h]
theorem agc(S:List I)(c:List Lit)(hd:I):∀(g:List Lit)(σ:Sub),hz S c hd g σ=((exts S g σ).filter fun j=>c.all (qN S j)).map fun j=>iF j hd
 |[],σ=>by
  rw[hz,exts];by_cases h:c.all (qN S σ)=true<;>simp[h]
 |l::g,σ=>by
  rw[hz,exts,List.filter_flatMap,List.map_flatMap];congr 1;funext a
  by_cases h:(eF l.atom a σ).1=true
  ·rw[if_pos h,if_pos h,agc S c hd g]
  ·rw[if_neg h,if_neg h];rfl
theorem aDU(t:I)(bu:List I)(p:I)(σ:Sub):zR (t::bu) p σ=(if t.name=p.name then(if(eF p t σ).1=true then[(eF p t σ).2]else[])else[])++zR bu p σ:=by
 unfold zR iE;by_cases h:t.name=p.name
 ·grind
 ·grind
def rY(a:I)(s:List ba)(t:I):Option (List ba):=if(t.name != a.name||decide (t.args.length≠a.args.length))=true then none else if(eO a t s).2=true then some (eO a t s).1 else none
theorem agd{p:I}{s:List ba}(h:ct 4 p true=true)(c:fo p.name=true):∀bu:List I,(bu.filterMap (rY p s)).map je=zR bu p (je s)
 |[]=>rfl|t::bu=>by
  have ih:=agd (s:=s) h c bu;have g:hl p=false:=by
   rw[<-Jk h,kE,QN c];simp
  obtain⟨j,U⟩:=af8 4 p t s h;rw[List.filterMap_cons,aDU];by_cases a:t.name=p.name
  ·rw[if_pos a];by_cases aE:t.args.length=p.args.length
   ·have e:rY p s t=if(eO p t s).2=true then some (eO p t s).1 else none:=by unfold rY;rw[if_neg (by simp[a,aE])]
    rw[e,<-j];cases hm:(eO p t s).2 with
    |true=>grind|false=>grind
   ·have e:rY p s t=none:=by unfold rY;rw[if_pos (by simp[aE])]
    have m:(eF p t (je s)).1=false:=by
     rw[ac4,if_neg (by rw[g];simp),if_pos (.inr fun e=>aE e.symm)]
    rw[e,m];simp only[aKA,if_false];rw[ih];rfl
  ·have e:rY p s t=none:=by unfold rY;rw[if_pos (by simp[a])]
   rw[e,if_neg a];exact ih
variable {a:I}
theorem QP{s:List ba}:∀{bu:List I}{c g:List (List ba)}{left m:Int},kg a s bu c left=some (g,m) ->
  g=c++bu.filterMap (rY a s)/\(c.length<=5000->g.length<=5000)
 |[],c,g,left,m,h=>by
  simp only[kg,Option.some.injEq,Prod.mk.injEq]at h;obtain⟨rfl,_⟩:=h;simp
 |t::bu,c,g,left,m,h=>by
  rw[kg]at h;rw[List.filterMap_cons];by_cases j:(t.name != a.name||decide (t.args.length≠a.args.length))=true
  ·have e:rY a s t=none:=by unfold rY;rw[if_pos j]
   rw[if_pos j]at h;rw[e];exact QP h
  ·have p:rY a s t=if(eO a t s).2=true then some (eO a t s).1 else none:=by unfold rY;rw[if_neg j]
   rw[if_neg j]at h;rw[p];by_cases o:(decide (left-1<0)||decide ((if(eO a t s).2 then c++[(eO a t s).1]else c).length>5000))=true
   ·rw[if_pos o]at h;cases h
   ·rw[if_neg o]at h;simp only[Bool.or_eq_true,decide_eq_true_eq,not_or]at o;obtain⟨e,ae⟩:=QP h;cases hm:(eO a t s).2 with
    |true=>grind|false=>grind
variable {A:List I}
theorem age(m:ct 4 a true=true)(o:fo a.name=true) :∀{out c g:List (List ba)}{left j:Int},lQ a A out c left=some (g,j) ->
  g.map je=c.map je++(out.map je).flatMap (zR A a)/\(c.length<=5000->g.length<=5000)
 |[],c,g,left,j,h=>by
  simp only[lQ,Option.some.injEq,Prod.mk.injEq]at h;obtain⟨rfl,_⟩:=h;simp
 |s::out,c,g,left,j,h=>by
  rw[lQ]at h;split at h
  ·cases h
  ·rename_i B C p;obtain⟨q,r⟩:=QP p;obtain⟨y,z⟩:=age m o h;refine⟨?_,fun ae=>z (r ae)⟩;rw[y,q,List.map_append,agd m o,aKl,List.flatMap_cons,aKy]
theorem QQ :∀{body:List Lit}{out all:List (List ba)}{left g:Int},(∀l∈body,ct 4 l.atom true=true/\fo l.atom.name=true)->j2 A body out left=some (all,g) ->
  all.map je=(out.map je).flatMap (exts A (body.filter eX))/\(out.length<=5000->all.length<=5000)
 |[],out,all,left,g,_,h=>by
  simp only[j2,Option.some.injEq,Prod.mk.injEq]at h;obtain⟨rfl,_⟩:=h;refine⟨?_,id⟩;show _=(out.map je).flatMap fun σ=>[σ];rw[List.flatMap_singleton']
 |x::r,out,all,left,g,j,h=>by
  have o:=fun l(m:l∈r)=>j l (aKg _ m);rw[j2]at h;rw[List.filter_cons];by_cases c:(x.neg||x.atom.name==hW)=true
  ·rw[if_pos c]at h;have:eX x=false:=by rw[eX,<-Bool.not_or,c];rfl
   rw[this];exact QQ o h
  ·rw[if_neg c]at h;have p:(x.neg||x.atom.name==hW)=false:=by simpa using c
   have:eX x=true:=by rw[eX,<-Bool.not_or,p];rfl
   rw[this,if_pos rfl];split at h
   ·cases h
   ·rename_i C D m;obtain⟨q,y⟩:=age (j x (by simp)).1 (j x (by simp)).2 m;obtain⟨z,B⟩:=QQ o h;refine⟨?_,fun _=>B (y (by simp))⟩;rw[z,q,List.map_nil,aKD,List.flatMap_assoc];congr 1;funext σ
    rw[aDT]
theorem aDV{f:I->Nat}:∀{S A:List I},S.Nodup->(∀a∈S,a∈A)->(S.map f).sum<=(A.map f).sum
 |[],A,_,_=>by simp|s::S,A,c,h=>by
  rw[List.nodup_cons]at c;obtain⟨u,v,rfl⟩:=List.append_of_mem (h s (by simp));have:=aDV (f:=f) (S:=S) (A:=u++v) c.2 fun a aE=>by
   have:=h a (aKg _ aE);simp only[aKo,aKh]at this ⊢;rcases this with h|rfl|h
   ·exact .inl h
   ·exact absurd aE c.1
   ·exact .inr h
  simp only[aKl,aKB,List.map_append,List.sum_append]at this ⊢;omega
theorem ar0{f g:I->Nat}(h:∀a,f a<=g a):∀l:List I,(l.map f).sum<=(l.map g).sum
 |[]=>by simp|a::l=>by have:=ar0 h l;have:=h a;simp only[aKl,aKB];omega
theorem ar1(g:S.Nodup)(h:∀a∈S,a∈A):∀(c:List Lit)(σ:Sub),(exts S c σ).length<=(exts A c σ).length
 |[],σ=>by simp[exts]|l::c,σ=>by
  rw[exts,exts,List.length_flatMap,List.length_flatMap];refine aKq (m:=((iE S l.atom.name).map fun a=>(if(eF l.atom a σ).1=true then exts A c (eF l.atom a σ).2 else[]).length).sum) ?_ (aDV (g.filter _) fun a aE=>?_)
  ·refine ar0 (fun a=>?_) _;by_cases hm:(eF l.atom a σ).1=true
   ·rw[if_pos hm,if_pos hm];exact ar1 g h c _
   ·rw[if_neg hm,if_neg hm];exact aKC _
  ·obtain⟨j,U⟩:=aKj.1 aE;exact aKj.2 ⟨h a j,U⟩
theorem agf(h:∀a∈S,a∈A):∀(g:List Lit)(σ:Sub),∀j∈exts S g σ,j∈exts A g σ
 |[],σ,j,c=>c|l::g,σ,j,c=>by
  rw[exts,aKn]at c ⊢;obtain⟨a,aE,c⟩:=c;obtain⟨m,U⟩:=aKj.1 aE;refine⟨a,aKj.2 ⟨h a m,U⟩,?_⟩;split at c
  ·rename_i hm;rw[if_pos hm];exact agf h g _ j c
  ·cases c
theorem agh(cq:iq A):∀(j:List Lit)(σ:Sub),qR σ->∀g∈exts A j σ,qR g/\∀x,e9 x=true->((getM σ x).isSome=true\/∃l∈j,x∈dG l.atom)->(getM g x).isSome=true
 |[],σ,m,g,c=>by
  rw[exts,List.mem_singleton]at c;subst c;refine⟨m,fun x _ h=>?_⟩;rcases h with h|⟨_,h,_⟩
  ·exact h
  ·cases h
 |l::j,σ,m,g,c=>by
  rw[exts,aKn]at c;obtain⟨a,aE,c⟩:=c;split at c
  ·rename_i hm;obtain⟨q,U⟩:=agh cq j _ (IT _ _ m (cq a (Iu aE))) g c;refine⟨q,fun x ah h=>U x ah ?_⟩;rcases h with h|⟨r,o,p⟩
   ·exact .inl (adU h)
   ·rcases aKh.1 o with rfl|o
    ·exact .inl (Pc _ _ _ hm x p ah)
    ·exact .inr ⟨r,o,p⟩
  ·cases c
structure qY(p:List (aj×Bool)×List I):Prop where
 k:∀s,(getM p.1 s).getD false=true↔∃a∈p.2,fa a=s
 d:∀a∈p.2,c0 a<=4
theorem qY.nil:qY ([],[]):=⟨fun s=>by simp[getM],fun a h=>by cases h⟩
theorem qY.add{p:List (aj×Bool)×List I}(h:qY p)(t:I):qY (gv p t)/\(c0 t<=4->∃a∈(gv p t).2,fa a=fa t)/\∃x,(gv p t).2=p.2++x/\∀a∈x,a=t:=by
 unfold gv;by_cases c:(!((getM p.1 (fa t)).getD false)&&decide (c0 t<=4))=true
 ·rw[if_pos c];simp only[aKm,decide_eq_true_eq,Bool.not_eq_true']at c;refine⟨⟨fun s=>?_,fun a aE=>?_⟩,fun _=>⟨t,by simp,rfl⟩,[t],rfl,by simp⟩
  ·simp only[vN];by_cases az:s=fa t
   ·grind
   ·rw[if_neg az,h.k];constructor
    ·grind
    ·grind
  ·rcases aKo.1 aE with aE|aE
   ·exact h.d a aE
   ·grind
 ·rw[if_neg c];refine⟨h,fun hd=>?_,[],by simp,by simp⟩;rw[decide_eq_true hd,Bool.and_true]at c;simp only[Bool.not_eq_true',Bool.not_eq_false]at c;exact(h.k _).1 c
theorem qY.QR:∀(l:List I){p:List (aj×Bool)×List I},qY p->qY (l.foldl gv p)/\(∀t∈l,c0 t<=4->∃a∈(l.foldl gv p).2,fa a=fa t)/\∃x,(l.foldl gv p).2=p.2++x/\∀a∈x,a∈l
 |[],p,h=>⟨h,by simp,[],by simp,by simp⟩|t::l,p,h=>by
  obtain⟨c,U,x,g,o⟩:=h.add t;obtain⟨j,q,y,m,r⟩:=qY.QR l c;refine⟨j,fun u z hd=>?_,x++y,by rw[List.foldl_cons,m,g,aKy],fun a aE=>?_⟩
  ·grind
  ·grind
theorem agi :∀{l:List aU}{more c:List I}{left g:Int},qW S l more left=some (c,g)->(∀t∈more,t∈c) /\
  (∀r∈l,∃j all m,j2 S r.body [[]] j=some (all,m)/\∀s∈all,∀h,gQ r.head s=some h->h∈c)/\(∀t∈c,t∈more\/∃r∈l,∃j all m,j2 S r.body [[]] j=some (all,m)/\∃s∈all,gQ r.head s=some t)
 |[],more,c,left,g,h=>by
  simp only[qW,Option.some.injEq,Prod.mk.injEq]at h;obtain⟨rfl,_⟩:=h;exact⟨fun _ h=>h,by simp,fun t h=>.inl h⟩
 |r::l,more,c,left,g,h=>by
  rw[qW]at h;split at h
  ·cases h
  ·rename_i all y z;obtain⟨p,U,B⟩:=agi h;refine⟨fun t o=>p t (aKO _ o),fun q C=>?_,fun t o=>?_⟩
   ·grind
   ·grind
theorem QU(cq:iq A){r:aU}(p:RV1 r){left B:Int}{all:List (List ba)}(h:j2 A r.body [[]] left=some (all,B)) :
  (∀s∈all,∀t,gQ r.head s=some t->ct 8 t false=true)/\(∀c∈exts A (r.body.filter eX) [],∃s∈all,gQ r.head s=some (iF c r.head))/\(exts A (r.body.filter eX) []).length<=5000:=by
 have ae:∀l∈r.body,ct 4 l.atom true=true/\fo l.atom.name=true:=fun l C=>p.a _ (by simp only[fU,aKh,aKi];exact .inr ⟨l,C,rfl⟩);have j:=(p.a r.head (by simp[fU])).1;obtain⟨e,b⟩:=QQ ae h;have m:all.map je=exts A (r.body.filter eX) []:=by rw[e];simp[je]
 have ah:=agh cq (r.body.filter eX) [] (fun _ h=>by cases h);have y:∀c∈exts A (r.body.filter eX) [],∀x∈dG r.head,e9 x=true->(getM c x).isSome=true:=fun c g x q o=>(ah c g).2 x o (.inr (p.safe q o));refine⟨fun s az t g=>?_,fun c g=>?_,by rw[<-m,aKJ];exact b (by simp)⟩
 ·have hm:je s∈exts A (r.body.filter eX) []:=by rw[<-m];exact aKi.2 ⟨s,az,rfl⟩
  rw[<-QO 4 _ _ _ j g];exact ES (n:=4) (ah _ hm).1 j fun _ x q o=>y _ hm x q o
 ·rw[<-m]at g;obtain⟨s,az,rfl⟩:=aKi.1 g;obtain⟨u,z⟩:=Option.isSome_iff_exists.1 (af9 4 r.head s j (y _ (by rw[<-m];exact aKi.2 ⟨s,az,rfl⟩)));exact⟨s,az,by rw[z,QO 4 _ _ _ j z]⟩
structure qZ(l:List aU)(A:List I):Prop where
 n:A.length<=1000
 v:iq A
 c:∀r∈l,∀gr∈exts A (r.body.filter eX) [],c0 (iF gr r.head)<=4->iF gr r.head∈A
 h:∀r∈l,(exts A (r.body.filter eX) []).length<=5000
theorem aDW(h:ct 4 t false=true)(c:j3 t=some u):ct 4 u false=true:=by
 have key:∀n:aj,fo n=true->t.args.length≠0->ct 4 (.mk n t.args) false=true:=fun n m j=>by
  rw[xJ]at h ⊢;rw[if_neg j]at h;rw[if_neg (by simpa[I.args]using j)];simp only[aKm,I.args,I.name]at h ⊢;exact⟨h.1,h.2.1,m⟩
 unfold j3 at c;split at c
 ·rename_i g;simp only[aKm,decide_eq_true_eq]at g;cases c;exact key _ (by decide) (by omega)
 ·split at c
  ·rename_i g;simp only[aKm,decide_eq_true_eq]at g;cases c;exact key _ (by decide) (by omega)
  ·cases c
theorem agj{l:List aU}(y:∀r∈l,RV1 r):∀(f:Nat)(p:List (aj×Bool)×List I)(n left:Int),qY p->iq p.2->(n>=p.2.length->p.2.length<=1000->qZ l p.2)->xZ l f p n left=some true->∃A,qZ l A/\∀a∈p.2,a∈A
 |0,p,n,left,_,_,_,h=>by cases h|f+1,p,n,left,fK,c,U,h=>by
  rw[xZ]at h;split at h
  ·rename_i G;simp only[aKm,decide_eq_true_eq]at G;split at h
   ·cases h
   ·rename_i more V hm;split at h
    ·cases h
    ·obtain⟨W,B,J⟩:=agi hm;have o:∀t∈more++p.2.filterMap j3,ct 8 t false=true:=fun t g=>by
      rcases aKo.1 g with g|g
      ·rcases J t g with h|⟨r,j,_,all,_,q,s,az,e⟩
       ·cases h
       ·exact(QU c (y r j) q).1 s az t e
      ·obtain⟨u,L,e⟩:=List.mem_filterMap.1 g;exact xK (aDW (c u L) e) (by omega)
     obtain⟨C,O,x,m,Q⟩:=qY.QR (more++p.2.filterMap j3) fK;have z:iq ((more++p.2.filterMap j3).foldl gv p).2:=fun a aE=>by
      have hd:=C.d a aE;rw[m]at aE;rcases aKo.1 aE with aE|aE
      ·exact c a aE
      ·exact O9 (o a (Q a aE)) hd
     obtain⟨A,cq,az⟩:=agj y f _ _ _ C z (fun R D=>by
      have ah:x=[]:=by
       rw[m,aKp]at R;exact aKK.1 (by omega)
      rw[ah,List.append_nil]at m;rw[m]at D ⊢;refine⟨D,c,fun r j T g hd=>?_,fun r j=>?_⟩
      ·obtain⟨_,all,_,q,E⟩:=B r j;obtain⟨s,az,e⟩:=(QU c (y r j) q).2.1 T g;have F:=aKO (p.2.filterMap j3) (E s az _ e);obtain⟨a,aE,hk⟩:=O _ F hd;rw[m]at aE;rw[<-agb (sY (c a aE)) (sY (o _ F)) hk];exact aE
      ·obtain⟨_,all,_,q,E⟩:=B r j;exact(QU c (y r j) q).2.2) h
     exact⟨A,cq,fun a aE=>az a (by rw[m];exact aKO _ aE)⟩
  ·grind
theorem aDY{l:List aU}{g:List I}(o:∀r∈l,RV1 r)(c:∀a∈g,ct 4 a false=true)(h:iu l g=some true):∃A,qZ l A/\∀a∈g,a∈A:=by
 unfold iu at h;split at h
 ·cases h
 ·obtain⟨p,q,x,j,y⟩:=qY.QR g qY.nil;simp only[aKD]at j;have m:iq (g.foldl gv ([],[])).2:=fun a aE=>c a (y a (by rw[<-j];exact aE));obtain⟨A,cq,az⟩:=agj o _ _ _ _ p m (fun z _=>by omega) h;refine⟨A,cq,fun a aE=>az a ?_⟩;obtain⟨b,ae,e⟩:=q a aE (IV (c a aE));rw[<-agb (sY (m b ae)) (sY (c a aE)) e];exact ae
mutual
def fe(k:Nat):I->Prop|.mk n l=>n.length<=1048576/\l.length<=k/\Fl k l
def Fl(k:Nat):List I->Prop|[]=>True|t::r=>fe k t/\Fl k r
end
theorem Ca :∀{l:List I},Fl k l↔∀t∈l,fe k t
 |[]=>by simp[Fl]|t::r=>by simp only[Fl,Ca (l:=r),aKh,forall_eq_or_imp]
theorem Fm :fe k t↔t.name.length<=1048576/\t.args.length<=k/\∀u∈t.args,fe k u:=by
 obtain⟨n,l⟩:=t;simp only[fe,Ca,I.name,I.args]
def Cb(r:aU):Prop:=fe 1048576 r.head/\∀x∈r.body,fe 1048576 x.atom
structure Jm(P:Program)(T L S B X zS R Cc:TypeId):Prop where
 Jn:Hk P T L S
 bp:∃f0 f1:Field,P.underlying X=some (.struct #[f0,f1])/\f0.type=B/\f0.offset=0/\f1.type=T/\f1.offset=1
 aDZ:P.underlying zS=some (.slice X)
 dN:∃f0 f1:Field,P.underlying R=some (.struct #[f0,f1])/\f0.type=T/\f0.offset=0/\f1.type=zS/\f1.offset=2
 aD0:P.underlying Cc=some (.slice R)
 fl:P.underlying B=some .bool
 Jo:P.cellsOf B=1
 agl:P.cellsOf X=3
 aD1:P.cellsOf zS=1
 Fo:P.cellsOf R=3
section
variable {H:Type}{enc:TypeId×Value->H}{P:Program}{w:World}{base:Nat}{spare:Nat->Bool}{held:Bool}{γ:e4}{jN:DataW H->Nat}
theorem fB.cat{a b:List AV}{x y:List Value}(g:fB γ a x)(U:fB γ b y):fB γ (a++b) (x++y):=by
 cases g with
 |nil=>exact U|cons c cs v ws p q r=>exact .cons _ _ _ _ p q (fB.cat r U)
variable {z:Nat}
theorem agm{f:α->List AV}{b:Nat}:∀(n off:Nat){Q:α->Prop},(∀i,i<n->∃x:α,(f x).length=z/\e5 γ b (off+i*z) (f x)/\Q x)->∃xs:List α,xs.length=n/\eI γ b off z (xs.map fun x=>.agg (f x))/\∀x∈xs,Q x
 |0,_,_,_=>⟨[],rfl,.nil _ _ _,fun _ h=>by cases h⟩|n+1,off,Q,h=>by
  obtain⟨t,c,g,m⟩:=h 0 (by omega);obtain⟨bu,j,U,o⟩:=agm n (off+z) (Q:=Q) fun i ak=>by
   have:=h (i+1) (by omega);rwa[show off+(i+1)*z=off+z+i*z by rw[Nat.add_mul];omega]at this
  refine⟨t::bu,by simp[j],?_,fun x ah=>?_⟩
  ·rw[aKl];exact .cons _ _ _ _ _ c (by simpa[AV.cells]using g) U
  ·grind
variable {d:DataW H}{bP:List MemPlace}
theorem Jp(f:α->List AV)(Q:α->Prop){E L:TypeId}(hk:k<=M)(ae:y1 jN)(cg:P.underlying L=some (.slice E))(D:P.cellsOf E=z+1)(F:∀b o v,w.cell? ⟨b,o,none⟩=some v->γ b o=some v) 
  (ih:∀cs d bP,DataW.trod enc P w base spare held n E cs=some (d,bP)->jN d<=k->∃x:α,fB γ (f x) cs/\Q x){cs:List Value}(h:DataW.trod enc P w base spare held (n+1) L cs=some (d,bP))(hd:jN d<=k) :
  ∃(xs:List α)(v:Value),cs=[v]/\df γ (.list none (z+1) (xs.map fun x=>.agg (f x))) v/\xs.length<=k/\∀x∈xs,Q x:=by
 rcases DataW.trod_slice cg h with⟨rfl,ah⟩|⟨a,len,cap,elems,p,m,hm,rfl,ah,X,Y,Z,C,G,_⟩
 ·exact⟨[],_,rfl,.jD _ _ _ (by simp),Nat.zero_le _,fun _ h=>by cases h⟩
 ·simp at hm;subst hm;simp only[Prod.mk.injEq]at ah;obtain⟨rfl,_⟩:=ah;have sQ:len<=k:=by have:=ae.len (elems.map (·.1)) (p.map (·.1));simp at this;omega
  by_cases J:len=0
  ·subst J;exact⟨[],_,rfl,.jD _ _ _ (by simp),Nat.zero_le _,fun _ h=>by cases h⟩
  ·have g:∀i,i<len->∃c x,fB γ (f x) c/\Q x/\c.length=z+1/\∀k v,c[k]?=some v->w.cell? ((a.add (i*(z+1))).add k)=some v:=fun i ak=>by
    have j:=G i ak;rw[aKt (by omega),Option.bind_eq_some_iff]at j;obtain⟨c,U,q⟩:=j;rw[D]at U;obtain⟨t,O,B⟩:=ih c _ _ (by rw[q]) (aKq (ae.slice _ _ _ (aKi.2 ⟨elems[i],List.getElem_mem _,rfl⟩)) hd);obtain⟨R,T⟩:=anC U;exact⟨c,t,O,B,R,T⟩
   have r:a.spot=none:=by
    obtain⟨c,t,_,_,j,U⟩:=g 0 (by omega);have q:=anD (U 0 _ (aKt (by omega)));simpa[Addr.add]using q
   obtain⟨sx,y,sp⟩:=a;simp only at r;subst r;obtain⟨bu,j,U,q⟩:=agm (γ:=γ) (f:=f) (b:=sx) (z:=z+1) len y (Q:=Q) fun i ak=>by
    obtain⟨c,t,j,B,V,U⟩:=g i ak;refine⟨t,by rw[<-j.len,V],Up j fun k v W=>F _ _ _ ?_,B⟩;have:=U k v W;rwa[ni,ni]at this
   refine⟨bu,_,rfl,?_,by omega,q⟩;have:=df.list (γ:=γ) sx y cap (z+1) (bu.map fun x=>.agg (f x)) (by simp;omega) (by simp;omega) U;rw[aKJ,j]at this;exact this
variable {T L S B X zS R Cc:TypeId}
theorem agp{s:Nat}{l:List AV}{v:Value}(h:df γ (.list none s l) v):v.oneCell'=true:=by cases h<;>rfl
theorem Jq(ae:y1 jN)(pK:Hk P T L S)(p:∀b o v,w.cell? ⟨b,o,none⟩=some v->γ b o=some v):∀(n:Nat)(cs:List Value)(d:DataW H)(bP:List MemPlace),
  DataW.trod enc P w base spare held n T cs=some (d,bP)->jN d<=1048576->∃t:I,fB γ t.cells cs/\fe 1048576 t
 |0,cs,d,bP,h,_=>by simp[DataW.trod]at h|n+1,cs,d,bP,h,hd=>by
  have W:M=1099511627776:=rfl;obtain⟨C,D,dL,E,F,G,J⟩:=pK.dL;obtain⟨xs,m,hm,ah,q,O,r⟩:=DataW.trod_struct dL h;simp at hm;subst hm;rw[pK.DG]at q
  match cs,q,xs,O with
  |[Y,c1],_,[Z,x1],_ =>
   have j:=r 0 C rfl;have g:=r 1 D rfl;rw[E,F,pK.MA]at j;rw[G,J,pK.anB]at g;simp only[aKI,aKE,List.take_zero,aKH,aKP,aKQ]at j g;simp only[Prod.mk.injEq]at ah;obtain⟨rfl,_⟩:=ah;obtain⟨s,az,rfl,_⟩:=DataW.trod_string pK.dg j;have Q:jN x1.1<=1048576:=aKq (ae.agg _ _ (by simp)) hd;have U:∃(xs:List I)(v:Value),[c1]=[v]/\df γ (.list none 2 (xs.map fun x:I=>.agg x.cells)) v/\xs.length<=1048576/\∀x∈xs,fe 1048576 x:=by
    cases n with
    |zero=>simp[DataW.trod]at g|succ n=>exact Jp (z:=1) I.cells (fe 1048576) (by omega) ae pK.cg pK.DG p (fun cs d bP h hd=>Jq ae pK p n cs d bP h hd) g Q
   obtain⟨bu,v,y,ao,c,V⟩:=U;simp only[List.cons.injEq,and_true]at az y;subst az y;have c:s.data.toList.length<=1048576:=aKq (ae.str _) (aKq (ae.agg [.lit (.string s.data.toList),x1.1] _ (by simp)) hd);refine⟨.mk s.data.toList bu,?_,Fm.2 ⟨c,by assumption,V⟩⟩;simp only[I.cells,I.name,I.args];have e:eA bu=bu.map fun x:I=>.agg x.cells:=by rw[vj];exact aKu fun t _=>t.xd
   rw[e];refine .cons _ _ _ _ rfl ?_ (.cons _ _ _ _ (agp ao) ao .nil);have:=df.str (γ:=γ) s.data.toList (by omega);simpa using this
theorem aD2(ae:y1 jN)(pK:Hk P T L S)(c:∀b o v,w.cell? ⟨b,o,none⟩=some v->γ b o=some v){cs:List Value} 
  (h:DataW.trod enc P w base spare held n L cs=some (d,bP))(hd:jN d<=1048576):∃(bu:List I)(v:Value),cs=[v]/\df γ (Enc.enc bu) v/\bu.length<=1048576/\∀t∈bu,fe 1048576 t:=by
 have m:M=1099511627776:=rfl;cases n with
 |zero=>simp[DataW.trod]at h|succ n =>
  obtain⟨bu,v,g,U,j⟩:=Jp (z:=1) I.cells (fe 1048576) (by omega) ae pK.cg pK.DG c (fun cs d bP h hd=>Jq ae pK c n cs d bP h hd) h hd;refine⟨bu,v,g,?_,j⟩;have e:(bu.map fun x:I=>AV.agg x.cells)=bu.map I.enc:=aKu fun t _=>t.xd.symm;rw[e]at U;exact U
def Lit.cs(x:Lit):List AV:=.bool x.neg::x.atom.cells
theorem aD3(ae:y1 jN)(c:Jm P T L S B X zS R Cc)(y:∀b o v,w.cell? ⟨b,o,none⟩=some v->γ b o=some v){cs:List Value} 
  (h:DataW.trod enc P w base spare held n X cs=some (d,bP))(hd:jN d<=1048576):∃x:Lit,fB γ x.cs cs/\fe 1048576 x.atom:=by
 cases n with
 |zero=>simp[DataW.trod]at h|succ n =>
  obtain⟨C,D,bp,E,F,G,J⟩:=c.bp;obtain⟨xs,m,hm,ah,p,O,q⟩:=DataW.trod_struct bp h;simp at hm;subst hm;rw[c.agl]at p
  match cs,p,xs,O with
  |[V,c1,c2],_,[W,x1],_ =>
   have g:=q 0 C rfl;have j:=q 1 D rfl;rw[E,F,c.Jo]at g;rw[G,J,c.Jn.DG]at j;simp only[aKI,aKE,List.take_zero,aKH,aKP,aKQ]at g j;simp only[Prod.mk.injEq]at ah;obtain⟨rfl,_⟩:=ah;obtain⟨b,r,Y⟩:=DataW.trod_bool c.fl g;simp only[List.cons.injEq,and_true]at r;subst r;obtain⟨t,Q,U⟩:=Jq ae c.Jn y n _ _ _ j (aKq (ae.agg _ _ (by simp)) hd);exact⟨⟨b,t⟩,.cons _ _ _ _ rfl (.bool b) Q,U⟩
def aU.cs(r:aU):List AV:=r.head.cells++[.list none 3 (r.body.map fun x=>.agg x.cs)]
theorem aD4(ae:y1 jN)(c:Jm P T L S B X zS R Cc)(j:∀b o v,w.cell? ⟨b,o,none⟩=some v->γ b o=some v){cs:List Value} 
  (h:DataW.trod enc P w base spare held n R cs=some (d,bP))(hd:jN d<=1048576):∃r:aU,fB γ r.cs cs/\Cb r:=by
 have bm:M=1099511627776:=rfl;cases n with
 |zero=>simp[DataW.trod]at h|succ n =>
  obtain⟨D,E,dN,F,G,J,O⟩:=c.dN;obtain⟨xs,m,hm,ah,q,Q,y⟩:=DataW.trod_struct dN h;simp at hm;subst hm;rw[c.Fo]at q
  match cs,q,xs,Q with
  |[jk,c1,c2],_,[aO,x1],_ =>
   have p:=y 0 D rfl;have g:=y 1 E rfl;rw[F,G,c.Jn.DG]at p;rw[J,O,c.aD1]at g;simp only[aKI,aKE,List.take_zero,aKH,aKP,aKQ]at p g;simp only[Prod.mk.injEq]at ah;obtain⟨rfl,_⟩:=ah;obtain⟨t,U,V⟩:=Jq ae c.Jn j n _ _ _ p (aKq (ae.agg _ _ (by simp)) hd);have W:jN x1.1<=1048576:=aKq (ae.agg _ _ (by simp)) hd;have Y:∃(xs:List Lit)(v:Value),[c2]=[v]/\df γ (.list none 3 (xs.map fun x:Lit=>.agg x.cs)) v/\xs.length<=1048576/\∀x∈xs,fe 1048576 x.atom:=by
    cases n with
    |zero=>simp[DataW.trod]at g|succ n=>exact Jp (z:=2) Lit.cs (fun x=>fe 1048576 x.atom) (by omega) ae c.aDZ c.agl j (fun cs d bP h hd=>aD3 ae c j h hd) g W
   obtain⟨Z,v,C,ao,_,w8⟩:=Y;simp only[List.cons.injEq,and_true]at C;subst C;exact⟨⟨t,Z⟩,fB.cat U (.cons _ _ _ _ (agp ao) ao .nil),V,w8⟩
theorem aD5(ae:y1 jN)(c:Jm P T L S B X zS R Cc)(j:∀b o v,w.cell? ⟨b,o,none⟩=some v->γ b o=some v){cs:List Value} 
  (h:DataW.trod enc P w base spare held n Cc cs=some (d,bP))(hd:jN d<=1048576):∃(g:List aU)(v:Value),cs=[v]/\df γ (Enc.enc g) v/\g.length<=1048576/\∀r∈g,Cb r:=by
 have C:M=1099511627776:=rfl;cases n with
 |zero=>simp[DataW.trod]at h|succ n =>
  obtain⟨bu,v,p,U,q⟩:=Jp (z:=2) aU.cs Cb (by omega) ae c.aD0 c.Fo j (fun cs d bP h hd=>aD4 ae c j h hd) h hd;refine⟨bu,v,p,?_,q⟩;have m:∀t:I,t.cells=[.str t.name,.list none 2 (t.args.map I.enc)]:=fun t=>by rw[I.cells,vj]
  have y:∀x:Lit,AV.agg x.cs=x.enc:=fun x=>by rw[Lit.cs,m];rfl
  have e:(bu.map fun x:aU=>AV.agg x.cs)=bu.map aU.enc:=aKu fun t _=>by
   rw[aU.cs,m,aKu fun x _=>y x];rfl
  rw[e]at U;exact U
end
mutual
def iH:I->Nat|.mk _ l=>1+nO l
def nO:List I->Nat|[]=>0|t::r=>iH t+nO r
end
theorem QW:∀{l:List I}{t:I},t∈l->iH t<=nO l
 |u::l,t,h=>by
  simp only[nO];rcases aKh.1 h with rfl|h
  ·omega
  ·have:=QW h;omega
theorem Cd(t:I):1<=iH t:=by cases t;simp only[iH];omega
theorem agq:∀l:List I,l.length<=nO l
 |[]=>by simp|t::r=>by have:=agq r;have:=Cd t;simp only[aKk,nO];omega
theorem QX :∀(n:Nat)(t:I),iH t<=n->n<=60->fe k t->fe 59 t
 |0,t,h,_,_=>by have:=Cd t;omega|n+1,.mk g l,h,j,aA=>by
  simp only[iH]at h;simp only[fe,Ca]at aA ⊢;have:=agq l;exact⟨aA.1,by omega,fun u c=>QX n u (by have:=QW c;omega) (by omega) (aA.2.2 u c)⟩
theorem Jr:∀(n:Nat)(t:I),iH t<=n->c0 t<=n
 |0,t,h=>by have:=Cd t;omega|n+1,.mk g l,h=>by
  simp only[iH]at h;have key:∀l:List I,nO l<=n->iX l<=n:=fun l=>by
   induction l with
   |nil=>intro _;simp[iX]|cons u r ih =>
    intro c;simp only[nO]at c;have j:=Jr n u (by omega);have U:=ih (by omega);simp only[iX];omega
  have:=key l (by omega);simp only[c0];omega
theorem QY(h:c0 t<=d+1):∀u∈t.args,c0 u<=d:=fun u c=>by
 have:=Bz c;rw[vI]at h;omega
variable {m:Int}
theorem agr{f:I->Int} :∀(l:List I)(n:Int),(∀t∈l,1<=f t)->jA f m l n<=m->n+(l.map f).sum=jA f m l n
 |[],n,_,_=>by simp[jA]|t::r,n,h,hm=>by
  have j:=h t (by simp);by_cases c:n>m
  ·simp only[jA,if_pos c]at hm;omega
  ·simp only[jA,if_neg c]at hm ⊢;have:=agr r (n+f t) (fun u g=>h u (aKg _ g)) hm;simp only[aKl,aKB];omega
theorem ags(hm:0<=m/\m<=1000):∀(d:Nat)(t:I),jB m d t<=m->(iH t:Int)<=jB m d t
 |0,t,h=>by
  simp only[jB]at h;omega
 |d+1,.mk p l,h=>by
  rw[acq]at h ⊢;simp only[I.args]at h ⊢;have ae:=fun u(c:u∈l)=>(Ic hm d u).1;have az:=agr l 1 ae h;have j:=On l 1 ae (by omega) h;have key:∀l:List I,(∀u∈l,(iH u:Int)<=jB m d u)->(nO l:Int)<=(l.map (jB m d)).sum:=fun l=>by
   induction l with
   |nil=>intro _;simp[nO]|cons u r ih =>
    intro g;have q:=g u (by simp);have U:=ih fun w o=>g w (aKg _ o);simp only[nO,aKl,aKB];omega
  have y:=key l fun u c=>ags hm d u (j.2 u c);simp only[iH];omega
theorem QZ{m:Nat}(hm:m<=1000)(h:jC m t=true):iH t<=m:=by
 simp only[jC,decide_eq_true_eq]at h;have:=ags (m:=m) ⟨by omega,by omega⟩ _ t h;omega
def oD:Nat->Nat|0=>0|d+1=>1048579+59*oD d
theorem Q0:∀(d:Nat)(t:I),fe 59 t->c0 t<=d->(fa t).length+1<=oD d
 |0,t,_,h=>by rw[vI]at h;omega|d+1,.mk p l,aA,h=>by
  have hd:=QY h;simp only[fe,Ca]at aA;have key:∀l:List I,(∀u∈l,(fa u).length+1<=oD d)->(hZ l).length<=l.length*oD d:=fun l=>by
   induction l with
   |nil=>intro _;simp[hZ]|cons u r ih =>
    intro c;have j:=c u (by simp);have U:=ih fun w o=>c w (aKg _ o);simp only[hZ,aKp,aKk,aKw,Nat.add_mul,Nat.one_mul]at U ⊢;omega
  have j:=key l fun u g=>Q0 d u (aA.2.2 u g) (hd u g);have U:l.length*oD d<=59*oD d:=aKR _ aA.2.1;simp only[fa,oD,aKp,aKk,aKw];omega
theorem aD6:oD 4<=M/\oD 3=3713018239:=by
 have:M=1099511627776:=rfl;rw[this];decide
theorem agt :∀(n:Nat)(t:I),fe k t->iH t<=n->(fa t).length+1<=iH t*1048579
 |0,t,_,h=>by have:=Cd t;omega|n+1,.mk p l,aA,h=>by
  simp only[fe,Ca]at aA;simp only[iH]at h ⊢;have key:∀l:List I,(∀u∈l,(fa u).length+1<=iH u*1048579)->(hZ l).length<=nO l*1048579:=fun l=>by
   induction l with
   |nil=>intro _;simp[hZ]|cons u r ih =>
    intro c;have j:=c u (by simp);have U:=ih fun w o=>c w (aKg _ o);simp only[hZ,nO,aKp,aKk,aKw]at U ⊢;omega
  have j:=key l fun u g=>agt n u (aA.2.2 u g) (by have:=QW g;omega);simp only[fa,aKp,aKk,aKw];omega
theorem Q1(c:(fa t).length<=1000000000000)(U:c0 t<=1000000):p9 t=true:=by
 have:M=1099511627776:=rfl;simp only[p9,aKm,decide_eq_true_eq];omega
def mr(s:List ba):Prop:=∀b∈s,fe 59 b.term/\c0 b.term<=3
variable {s:List ba}
theorem aD7{n:aj}(h:ox s n=some u):∃b∈s,b.term=u:=by
 unfold ox at h;rw[aKL]at h;obtain⟨b,c,U⟩:=h;exact⟨b,List.mem_of_find?_eq_some c,U⟩
theorem Q2:∀(p t:I)(s:List ba),fe 59 t->c0 t<=3->mr s->mr (eO p t s).1
 |.mk o l,t,s,aA,hd,az=>by
  rw[eO];split
  ·split
   ·exact az
   ·intro b ae;rw[aKo]at ae;rcases ae with ae|ae
    ·exact az b ae
    ·grind
  ·split
   ·intro b ae;cases ae
   ·have key:∀(l m:List I)(s:List ba),(∀p∈l,∀(t:I)(s:List ba),fe 59 t->c0 t<=3->mr s->mr (eO p t s).1)->(∀u∈m,fe 59 u/\c0 u<=3)->mr s->mr (js l m s).1:=fun l=>by
     induction l with
     |nil=>intro m s _ _ h;rw[js];exact h;all_goals simp|cons x r ih =>
      intro m s g hm h;cases m with
      |nil=>rw[js];exact h|cons y q =>
       have j:=g x (by simp) y s (hm y (by simp)).1 (hm y (by simp)).2 h;rw[js];split
       ·simp_all
       ·exact j
    refine key l t.args s (fun p ao t s=>Q2 p t s) (fun u c=>⟨(Fm.1 aA).2.2 u c,?_⟩) az;have:=QY (d:=2) hd u c;omega
theorem aD8(p t:I)(s:List ba)(o:t.args.length=p.args.length)(aA:fe 59 t)(hd:c0 t<=4)(az:mr s):mr (eO p t s).1:=by
 obtain⟨c,l⟩:=p;by_cases g:l.length=0
 ·refine Q2 (.mk c l) t s aA ?_ az;rw[vI,aKK.1 (o.trans g)];simp[iX]
 ·have z:kE (.mk c l)=false:=by(unfold kE;rw[show(I.mk c l).args.length=l.length from rfl,decide_eq_false g];rfl)
  rw[eO,z,if_neg (by simp)];split
  ·intro b ae;cases ae
  ·have key:∀(l m:List I)(s:List ba),(∀u∈m,fe 59 u/\c0 u<=3)->mr s->mr (js l m s).1:=fun l=>by
    induction l with
    |nil=>intro m s _ h;rw[js];exact h;all_goals simp|cons x r ih =>
     intro m s hm h;cases m with
     |nil=>rw[js];exact h|cons y q =>
      have B:=Q2 x y s (hm y (by simp)).1 (hm y (by simp)).2 h;rw[js];split
      ·grind
      ·exact B
   exact key l t.args s (fun u j=>⟨(Fm.1 aA).2.2 u j,QY (d:=3) hd u j⟩) az
def zT(A:List I):Prop:=∀a∈A,fe 59 a/\c0 a<=4
theorem Q3(a:I)(s:List ba)(az:mr s):∀(l:List I)(c:List (List ba))(left:Int)(q:List (List ba)×Int),zT l->(∀s∈c,mr s)->kg a s l c left=some q->∀s∈q.1,mr s
 |[],c,left,q,_,j,h=>by
  simp only[kg,Option.some.injEq]at h;subst h;exact j
 |t::bu,c,left,q,cq,j,h=>by
  rw[kg]at h;split at h
  ·exact Q3 a s az bu c left q (fun u g=>cq u (aKg _ g)) j h
  ·rename_i r;by_cases p:(decide (left-1<0)||decide ((if(eO a t s).2 then c++[(eO a t s).1]else c).length>5000))=true
   ·rw[if_pos p]at h;cases h
   ·rw[if_neg p]at h;refine Q3 a s az bu _ _ q (fun u g=>cq u (aKg _ g)) ?_ h;have o:t.args.length=a.args.length:=by grind
    have y:=aD8 a t s o (cq t (by simp)).1 (cq t (by simp)).2 az;intro u g;split at g
    ·grind
    ·exact j u g
theorem agu(a:I)(A:List I)(cq:zT A):∀(l c:List (List ba))(left:Int)(q:List (List ba)×Int),(∀s∈l,mr s)->(∀s∈c,mr s)->lQ a A l c left=some q->∀s∈q.1,mr s
 |[],c,left,q,_,g,h=>by
  simp only[lQ,Option.some.injEq]at h;subst h;exact g
 |s::r,c,left,q,j,g,h=>by
  rw[lQ]at h;split at h
  ·cases h
  ·rename_i o p he;exact agu a A cq r o p q (fun u y=>j u (aKg _ y)) (Q3 a s (j s (by simp)) A c left _ cq g he) h
theorem Q4(A:List I)(cq:zT A):∀(body:List Lit)(out:List (List ba))(left:Int)(q:List (List ba)×Int),(∀s∈out,mr s)->j2 A body out left=some q->∀s∈q.1,mr s
 |[],out,left,q,aA,h=>by
  simp only[j2,Option.some.injEq]at h;subst h;exact aA
 |x::r,out,left,q,aA,h=>by
  rw[j2]at h;split at h
  ·exact Q4 A cq r out left q aA h
  ·split at h
   ·cases h
   ·rename_i c g he;exact Q4 A cq r c g q (agu x.atom A cq out [] left _ aA (fun _ h=>by cases h) he) h
theorem agv(az:mr s):∀(n:Nat)(h u:I),iH h<=n->fe 59 h->gQ h s=some u->fe 59 u/\(fa u).length+1<=iH h*(1048579+oD 3)/\c0 u<=n+3
 |0,h,u,c,_,_=>by have:=Cd h;omega|n+1,.mk o l,u,c,aA,ak=>by
  rw[gQ]at ak;split at ak
  ·obtain⟨b,ae,rfl⟩:=aD7 ak;obtain⟨g,U⟩:=az b ae;refine⟨g,?_,by omega⟩;have G:=Q0 3 b.term g U;have J:1*(1048579+oD 3)<=iH (.mk o l)*(1048579+oD 3):=aKR _ (Cd _);omega
  ·rw[aKL]at ak;obtain⟨m,hm,rfl⟩:=ak;simp only[fe,Ca]at aA ⊢;simp only[iH]at c ⊢;have key:∀(l m:List I),nO l<=n->(∀u∈l,fe 59 u)->j1 l s=some m->(∀u∈m,fe 59 u)/\(hZ m).length<=nO l*(1048579+oD 3)/\iX m<=n+3:=fun l=>by
    induction l with
    |nil=>intro m _ _ h;simp only[j1,Option.some.injEq]at h;subst h;simp[hZ,iX]|cons x r ih =>
     intro m p aA h;simp only[nO]at p;rw[j1]at h;split at h
     ·cases h
     ·rename_i y z;rw[aKL]at h;obtain⟨q,B,rfl⟩:=h;obtain⟨L,C,O⟩:=agv az n x y (by omega) (aA x (by simp)) z;obtain⟨Q,D,R⟩:=ih q (by omega) (fun u j=>aA u (aKg _ j)) B;refine⟨fun u j=>?_,?_,?_⟩
      ·grind
      ·simp only[hZ,nO,aKp,aKk,aKw,Nat.add_mul]at C D ⊢;omega
      ·simp only[iX];omega
   obtain⟨E,F,T⟩:=key l m (by omega) aA.2.2 hm;refine⟨⟨aA.1,by rw[afz hm];exact aA.2.1,E⟩,?_,by simp only[c0];omega⟩;simp only[fa,aKp,aKk,aKw,Nat.add_mul]at F ⊢;omega
theorem agw(dg:zT S):∀(l:List aU)(more:List I)(left:Int)(q:List I×Int),(∀r∈l,fe 59 r.head/\iH r.head<=20)->(∀t∈more,fe 59 t/\p9 t=true)->qW S l more left=some q->∀t∈q.1,fe 59 t/\p9 t=true
 |[],more,left,q,_,hm,h=>by
  simp only[qW,Option.some.injEq]at h;subst h;exact hm
 |r::l,more,left,q,g,hm,h=>by
  rw[qW]at h;split at h
  ·cases h
  ·rename_i all j he;refine agw dg l _ j q (fun r o=>g r (aKg _ o)) ?_ h;intro t c;rw[aKo]at c;rcases c with c|c
   ·exact hm t c
   ·obtain⟨s,az,ak⟩:=List.mem_filterMap.1 c;obtain⟨p,U⟩:=g r (by simp);obtain⟨y,z,C⟩:=agv (Q4 S dg r.body [[]] left _ (fun s az=>by rw[List.mem_singleton]at az;subst az;intro b ae;cases ae) he s az) 20 _ _ U p ak;have B:iH r.head*(1048579+oD 3)<=20*(1048579+oD 3):=aKR _ U;rw[aD6.2]at z B;exact⟨y,Q1 (by omega) (by omega)⟩
theorem aEa(h:fe 59 t/\c0 t<=4)(c:j3 t=some u):fe 59 u/\p9 u=true:=by
 have key:∀n:aj,n.length<=4->fe 59 (.mk n t.args)/\p9 (.mk n t.args)=true:=fun n j=>by
  have g:fe 59 (.mk n t.args):=Fm.2 ⟨by simp only[I.name];omega,(Fm.1 h.1).2⟩;have U:c0 (.mk n t.args)<=4:=by have:=h.2;rw[vI]at this ⊢;exact this
  have o:=Q0 4 _ g U;have p:oD 4=219069124680:=by decide
  exact⟨g,Q1 (by omega) (by omega)⟩
 unfold j3 at c;split at c
 ·cases c;exact key _ (by decide)
 ·grind
theorem Q5:∀(l:List I)(p:List (aj×Bool)×List I),(∀t∈l,fe 59 t)->zT p.2->zT (l.foldl gv p).2
 |[],p,_,h=>h|t::l,p,c,h=>by
  rw[List.foldl_cons];refine Q5 l _ (fun u j=>c u (aKg _ j)) ?_;unfold gv;split
  ·rename_i g;simp only[aKm,decide_eq_true_eq]at g;intro a aE;simp only[aKo,List.mem_singleton]at aE;rcases aE with aE|rfl
   ·exact h a aE
   ·exact⟨c _ (by simp),g.2⟩
  ·exact h
variable {l:List aU}
theorem agx(g:∀r∈l,fe 59 r.head/\iH r.head<=20):∀(f:Nat)(p:List (aj×Bool)×List I)(n left:Int),zT p.2->n<=1000->1002<=f+n->(xZ l f p n left).isSome=true
 |0,p,n,left,_,h1,U=>by omega|f+1,p,n,left,ao,h1,U=>by
  rw[xZ];split
  ·rename_i o;simp only[aKm,decide_eq_true_eq]at o;cases hm:qW p.2 l [] left with
   |none=>rfl|some q =>
    obtain⟨more,C⟩:=q;have y:=agw ao l [] left _ g (fun _ h=>by cases h) hm;have j:∀t∈more++p.2.filterMap j3,fe 59 t/\p9 t=true:=fun t c=>by
     rw[aKo]at c;rcases c with c|c
     ·exact y t c
     ·obtain⟨u,z,B⟩:=List.mem_filterMap.1 c;exact aEa (ao u z) B
    simp only;rw[if_neg (by
     rw[aKs.2 fun t c=>(j t c).2];simp)]
    exact agx g f _ _ _ (Q5 _ _ (fun t c=>(j t c).1) ao) (by omega) (by omega)
  ·rfl
variable {g:List I}
theorem agy(h:∀r∈l,fe k r.head/\iH r.head<=20)(c:∀a∈g,fe k a/\iH a<=60):(iu l g).isSome=true:=by
 have o:∀a∈g,fe 59 a:=fun a aE=>QX 60 a (c a aE).2 (by omega) (c a aE).1;unfold iu;rw[if_neg (by
  rw[aKs.2 fun a aE=>Q1 (t:=a) (by have p:=agt 60 a (c a aE).1 (c a aE).2;have:=(c a aE).2;omega) (by have:=Jr 60 a (c a aE).2;omega)];simp)]
 exact agx (fun r j=>⟨QX 20 _ (h r j).2 (by omega) (h r j).1,(h r j).2⟩) _ _ _ _ (Q5 _ _ o (by intro a aE;cases aE)) (by omega) (by omega)
variable {L:List aU}{r:aU}
theorem qZ.aEb(C:qZ L A)(o:r∈L)(dg:∀a∈S,a∈A){h:I}(c:h∈o9 S r)(hd:c0 h<=4):h∈A:=by
 rw[o9,agc]at c;obtain⟨j,p,rfl⟩:=aKi.1 c;exact C.c r o j (agf dg _ _ j (aKj.1 p).1) hd
theorem qZ.aJX(C:qZ L A)(c:r∈L)(h:S.Nodup)(dg:∀a∈S,a∈A):(o9 S r).length<=5000:=by
 rw[o9,agc,aKJ];exact aKq (List.length_filter_le _ _) (aKq (ar1 h dg _ _) (C.h r c))
theorem qZ.ar2(C:qZ L A)(c:S.Nodup)(dg:∀a∈S,a∈A):∀l:List aU,(∀r∈l,r∈L)->(en l S).length<=l.length*5000
 |[],_=>by simp[en]|r::l,h=>by
  have o:=C.aJX (h r (by simp)) c dg;have U:=C.ar2 c dg l fun q j=>h q (aKg _ j);simp only[en,List.flatMap_cons,aKp,aKk]at U ⊢;omega
theorem qZ.round(C:qZ L A)(j:∀r∈l,r∈L)(dg:∀a∈S,a∈A)(hd:k3 (en l S)=false):∀h∈en l S,h∈A:=fun h c=>by
 have o:=c;rw[en,aKn]at c;obtain⟨r,p,c⟩:=c;rw[k3,List.any_eq_false]at hd;have:=hd h o;exact C.aEb (j r p) dg c (by simpa using this)
theorem qZ.agz(C:qZ L A)(z:∀r∈l,r∈L):∀(f:Nat)(S:List I),jy S->(∀a∈S,a∈A)->514<=f+S.length->1<=f->∃e c,nH f l S=some (e,c)/\jy c/\(∀a∈c,a∈A)/\∀a∈S,a∈c
 |0,S,_,_,_,h=>by omega|f+1,S,cq,dg,Q,_=>by
  rw[nH];have F:iq S:=fun a aE=>C.v a (dg a aE);cases hd:k3 (en l S)with
  |true=>exact⟨3,S,if_pos rfl,cq,dg,fun _ h=>h⟩|false =>
   rw[if_neg (by simp)];have B:=C.round z dg hd;by_cases p:gF l S=[]
   ·exact⟨0,S,if_pos p,cq,dg,fun _ h=>h⟩
   ·rw[if_neg p];have q:∀a∈fu (S++gF l S),a∈A:=fun a aE=>by
     rw[oi,aKo]at aE;rcases aE with aE|aE
     ·exact dg a aE
     ·exact B a (ov.1 aE).1
    have y:=sR (S++gF l S);have D:(fu (S++gF l S)).length<=A.length:=List.Nodup.length_le_of_subset (ET y) q;have R:=C.n;rw[if_neg (by omega)];obtain⟨x,ah⟩:=List.exists_mem_of_ne_nil _ p;have G:x∉S:=fun hm=>by
     have o:=(ov.1 ah).2;rw[(Pe F (C.v x (B x (ov.1 ah).1))).2 hm]at o;cases o
    have T:S.length+1<=(fu (S++gF l S)).length:=by
     have:=List.Nodup.length_le_of_subset (l₁:=x::S) (l₂:=fu (S++gF l S)) (List.nodup_cons.2 ⟨G,ET cq⟩) fun a aE=>by
      rw[oi,aKo];rcases aKh.1 aE with rfl|aE
      ·exact .inr ah
      ·exact .inl aE
     simpa using this
    have j:∀a∈S,a∈fu (S++gF l S):=fun a aE=>by rw[oi,aKo];exact .inl aE
    by_cases E:512<(fu (S++gF l S)).length
    ·rw[if_pos E];exact⟨11,_,rfl,y,q,j⟩
    ·rw[if_neg E];obtain⟨e,c,o,U,J,O⟩:=C.agz z f _ y q (by omega) (by omega);exact⟨e,c,o,U,J,fun a aE=>O a (j a aE)⟩
theorem qZ.agB(C:qZ L A)(p:∀r∈l,r∈L):∀(rows:List (List Nat))(S:List I),(∀c∈rows,∀k∈c,k<l.length)->jy S->(∀a∈S,a∈A)->∃e h,vZ l rows S=some (h,e)/\jy h/\(∀a∈h,a∈A)
 |[],S,_,cq,dg=>⟨0,S,rfl,cq,dg⟩|c::rows,S,hk,cq,dg=>by
  obtain⟨e,h,q,U,y,_⟩:=C.agz (l:=c.map (l[·]!)) (fun r j=>by
   obtain⟨k,o,rfl⟩:=aKi.1 j;exact p _ (ft (hk c (by simp) k o))) 600 S cq dg (by omega) (by omega)
  rw[vZ,q];by_cases he:e=0
  ·simp only[he,if_true];exact C.agB p rows h (fun r j=>hk r (aKg _ j)) U y
  ·simp only[he,if_false];exact⟨e,[],rfl,List.Pairwise.nil,by simp⟩
theorem aEd(C:qZ L A)(c:∀r∈l,r∈L)(j:∀a∈g,a∈A):∃S e,fq l g=some (S,e)/\jy S/\∀a∈S,a∈A:=by
 unfold fq;split
 ·exact⟨_,_,rfl,List.Pairwise.nil,by simp⟩
 ·split
  ·exact⟨_,_,rfl,List.Pairwise.nil,by simp⟩
  ·split
   ·exact⟨_,_,rfl,List.Pairwise.nil,by simp⟩
   ·obtain⟨e,S,h⟩:=C.agB c (kd l).1 (fu g) (fun o p k hk=>aea p hk) (sR g) (fun a aE=>j a ((oi _ _).1 aE));exact⟨S,e,h⟩
theorem agC{m:List aU}{g':List I}(cg:iu l g=some true)(hm:∀r,r∈m↔r∈l)(o:∀a,a∈g'↔a∈g):∃S e,fq m g'=some (S,e)/\S.length<=1000/\jy S/\(e=0->∃A,qZ l A/\iq A/\(∀a∈S,a∈A)/\∀a∈g,a∈A):=by
 by_cases c:hY m=0
 ·cases j:k5 g' with
  |true =>
   simp only[k5,aKm,aKs]at j;obtain⟨A,C,cq⟩:=aDY (fun r q=>(zJ c).2 r ((hm r).2 q)) (fun a aE=>aeb (j.2 a ((o a).2 aE))) cg;obtain⟨S,e,y,U,p⟩:=aEd C (fun r z=>(hm r).1 z) (g:=g') (fun a aE=>cq a ((o a).1 aE));exact⟨S,e,y,aKq (List.Nodup.length_le_of_subset (ET U) p) C.n,U,fun _=>⟨A,C,C.v,p,cq⟩⟩
  |false =>
   unfold fq;rw[if_neg (by simpa using c),j];by_cases az:(kd m).2≠0
   ·rw[if_pos az];exact⟨_,_,rfl,by simp,List.Pairwise.nil,fun h=>absurd h az⟩
   ·rw[if_neg az];exact⟨_,_,rfl,by simp,List.Pairwise.nil,fun h=>by cases h⟩
 ·unfold fq;rw[if_pos (by simpa using c)];exact⟨_,_,rfl,by simp,List.Pairwise.nil,fun h=>absurd h c⟩
variable {fi:List I}
theorem asc :∀(j:List Lit)(σ:Sub),(∀l∈j,∀a∈S,a.name=l.atom.name->a∈fi)->∀o∈exts S j σ,o∈exts fi j σ
 |[],σ,_,o,h=>h|l::j,σ,h,o,c=>by
  rw[exts,aKn]at c ⊢;obtain⟨a,aE,c⟩:=c;simp only[iE,aKj,beq_iff_eq]at aE;refine⟨a,by simp only[iE,aKj,beq_iff_eq];exact⟨h l (by simp) a aE.1 aE.2,aE.2⟩,?_⟩;split at c
  ·rename_i hm;rw[if_pos hm];exact asc j _ (fun l p=>h l (aKg _ p)) o c
  ·cases c
theorem asd{σ:Sub}{p:I}(h:fo p.name=true):(iF σ p).name=p.name/\(iF σ p).args.length=p.args.length:=by
 have c:¬hl p=true:=fun c=>by
  have:=QM (show e9 p.name=true by simp[hl]at c;exact c.2);rw[QN h]at this;cases this
 rw[OK,if_neg c];split
 ·exact⟨rfl,rfl⟩
 ·exact⟨rfl,by simp[I.args]⟩
structure Rb(r:aU):Prop extends RV1 r where
 hd:r.head.name≠hW
 hE:∀l∈r.body,l.atom.name=hW->l.atom.args.length=2
theorem asf:∀{l:List I}{h:Bool},rO l h=0->(∀a∈l.head?,mf a h=0)/\∀a∈l.drop 1,mf a false=0
 |[],_,_=>by simp|t::r,h,he=>by
  rw[rO]at he;split at he
  ·rename_i c;obtain⟨j,o⟩:=asf he;refine⟨by simpa using c,fun a aE=>?_⟩;cases r with
   |nil=>cases aE|cons u r =>
    rcases aKh.1 (by simpa using aE)with rfl|aE
    ·exact j _ rfl
    ·exact o a (by simpa using aE)
  ·rename_i c;exact absurd he c
theorem aJ3(h:h6 r=0):Rb r:=by
 refine⟨aAr h,?_,?_⟩;all_goals
  unfold h6 at h;split at h
  ·cases h
  split at h
  ·rename_i U;exact absurd h U
  rename_i U;obtain⟨o,p⟩:=asf (by simpa using U)
 ·intro j;have c:=o r.head rfl;have hk:xy r.head.name=some ⟨hW,2,false,true⟩:=by rw[j];rfl
  unfold mf at c;rw[hk]at c;grind
 ·intro l q j;have c:=p l.atom (aKi.2 ⟨l,q,rfl⟩);have hk:xy l.atom.name=some ⟨hW,2,false,true⟩:=by rw[j];rfl
  unfold mf at c;rw[hk]at c;by_cases U:l.atom.args.length=2
  ·exact U
  ·grind
theorem ash(h:hY l=0):∀r∈l,Rb r:=by
 unfold hY at h;split at h
 ·cases h
 ·intro r c;refine aJ3 ?_;cases j:l.find? fun r=>!(h6 r==0)with
  |none=>grind|some s=>grind
theorem atE(c:RV1 r){x:I}(h:x∈o9 S r):x.name=r.head.name:=by
 rw[o9,agc]at h;obtain⟨j,_,rfl⟩:=aKi.1 h;exact(asd (c.a r.head (by simp[fU])).2).1
theorem VF(dg:iq S)(y:iq fi)(z:Rb r)(D:∀l∈r.body,eX l=true->∀a∈S,a.name=l.atom.name->a∈fi)
  (U:∀l∈r.body,l.neg=true->l.atom.name≠hW->∀a,a.name=l.atom.name->(a∈S↔a∈fi)){x:I}(ah:x∈o9 S r):x∈o9 fi r:=by
 rw[o9,agc]at ah ⊢;obtain⟨q,j,rfl⟩:=aKi.1 ah;rw[aKj]at j;refine aKi.2 ⟨q,aKj.2 ⟨asc _ _ (fun l c=>D l (aKj.1 c).1 (aKj.1 c).2) q j.1,?_⟩,rfl⟩;have E:=(agh dg _ [] (fun _ h=>by cases h) q j.1).1;rw[aKs]at j ⊢;intro l c;have F:=j.2 l c;rw[aKj]at c;have o:l.atom∈fU r:=by simp only[fU,aKh,aKi];exact .inr ⟨l,c.1,rfl⟩
 obtain⟨B,G⟩:=asd (σ:=q) (z.a l.atom o).2;rw[<-F];unfold qN;rw[B,G];by_cases hd:l.atom.name=hW
 ·rw[z.hE l c.1 hd,hd];rfl
 ·have p:(l.atom.name==hW)=false:=by simpa using hd
  have J:l.neg=true:=by
   have:=c.2;simpa[eX,p]using this
  rw[p];simp only[Bool.false_and,aKA,if_false];congr 2
  have C:=ES (v:=true) (n:=4) E (z.a l.atom o).1 (fun h=>by cases h);rw[Bool.eq_iff_iff,Pe y C,Pe dg C];exact(U l c.1 J hd _ B).symm
theorem VM{n:Int}:∀{es:List bE}{cN c:List (aj×Int)}{j:Bool},pc n es cN j=some (c,false)->j=false/\c=cN/\∀e∈es,zH cN e<=lP cN e.src
 |[],cN,c,j,h=>by
  simp only[pc,Option.some.injEq,Prod.mk.injEq]at h;exact⟨h.2,h.1.symm,by simp⟩
 |e::r,cN,c,j,h=>by
  rw[pc]at h;split at h
  ·split at h
   ·cases h
   ·cases (VM h).1
  ·rename_i y;obtain⟨o,p,q⟩:=VM h;exact⟨o,p,fun x ah=>by
    rcases aKh.1 ah with rfl|ah
    ·omega
    ·exact q x ah⟩
theorem atO{es:List bE}:∀{f:Nat}{cN c:List (aj×Int)},wg n cN->sZ n es f cN=some (some c)->wg n c/\∀e∈es,zH c e<=lP c e.src
 |0,_,_,_,h=>by cases h|f+1,cN,c,j,h=>by
  rw[sZ]at h;split at h
  ·cases h
  ·rename_i ao;exact atO (P7 (ns:=es.map bE.src) (fun e he=>aKi.2 ⟨e,he,rfl⟩) j ao).1 h
  ·rename_i ao;simp only[Option.some.injEq]at h;subst h;obtain⟨_,rfl,q⟩:=VM ao;exact⟨j,q⟩
theorem atP{f:aj->α}{s:aj}:∀{ks:List aj},s∈ks->getM (ks.map fun s=>(s,f s)) s=some (f s)
 |k::r,h=>by
  rw[aKl,getM];by_cases e:s=k
  ·rw[if_pos e,e]
  ·rw[if_neg e];exact atP (by simpa[e]using h)
structure atQ(l:List aU)(lv:aj->Int)(n:Nat):Prop where
 o:kd l=((aKr n).map fun k:Nat=>(aKr l.length).filter fun i=>lv l[i]!.head.name==(k:Int),0)
 h:∀r∈l,r.head.name≠hW->0<=lv r.head.name/\lv r.head.name<n
 b:∀r∈l,r.head.name≠hW->∀x∈r.body,x.atom.name≠hW->lv x.atom.name+(if x.neg then 1 else 0)<=lv r.head.name
theorem aJ5(h:(kd l).2=0):∃lv n,atQ l lv n:=by
 have O:=h;unfold kd at h;split at h
 ·cases h
 ·rename_i p q;have B:=q;unfold s0 at q;rw[aKL]at q;obtain⟨cN,c,rfl⟩:=q;cases y:sZ (gP l).length (jY l) ((gP l).length*(gP l).length+2) []with
  |none=>rw[y]at c;cases c|some o =>
   rw[y]at c;simp only[Option.getD_some]at c;subst c;obtain⟨C,D⟩:=atO (afd _) y;have z:∀s∈gP l,ml ((gP l).map fun s=>(s,lP cN s)) s=lP cN s:=fun s az=>by rw[ml,atP az];rfl
   have E:∀r∈l,r.head.name≠hW->r.head.name∈gP l:=fun r j hd=>by
    rw[afe];simp only[pb,aKj,aKn,aKh];exact⟨⟨r,j,.inl rfl⟩,by simpa using hd⟩
   refine⟨ml ((gP l).map fun s=>(s,lP cN s)),(vY ((gP l).map fun s=>(s,lP cN s))+1).toNat,?_,fun r j hd=>?_,fun r j hd x ah F=>?_⟩
   ·unfold kd;rw[B]
   ·have Q:=aCK ((gP l).map fun s=>(s,lP cN s)) r.head.name;have U:=(C r.head.name).1;rw[<-z _ (E r j hd)]at U;omega
   ·have he:(⟨r.head.name,x.atom.name,x.neg⟩:bE)∈jY l:=by
     rw[aCy];simp only[jr,aKn,aKj,aKi];exact⟨r,⟨j,by simpa using hd⟩,x,⟨ah,by simpa using F⟩,rfl⟩
    obtain⟨G,J⟩:=aCz he;rw[z _ G,z _ J];exact D _ he
theorem aB8(o:∀r∈l,RV1 r):∀{f:Nat}{A c:List I},iq A->nH f l A=some (0,c)->iq c/\(∀a∈A,a∈c)/\(∀a∈en l c,a∈c)/\∀x∈c,x∈A\/∃B,iq B/\(∀a∈A,a∈B)/\(∀a∈B,a∈c)/\x∈en l B
 |0,_,_,_,h=>by cases h|f+1,A,c,cq,h=>by
  rw[nH]at h;split at h
  ·cases h
  ·rename_i hd;have q:k3 (en l A)=false:=by simpa using hd
   split at h
   ·rename_i C;simp only[Option.some.injEq,Prod.mk.injEq,true_and]at h;subst h;refine⟨cq,fun _ h=>h,fun a aE=>?_,fun x ah=>.inl ah⟩;have p:=EU o cq q aE;cases y:kc A a with
    |true=>exact(Pe cq p).1 y|false =>
     have:=ov.2 ⟨aE,y⟩;rw[C]at this;cases this
   ·split at h
    ·cases h
    ·split at h
     ·cases h
     ·have p:iq (fu (A++gF l A)):=fun a aE=>by
       rw[oi,aKo]at aE;rcases aE with aE|aE
       ·exact cq a aE
       ·exact EU o cq q (ov.1 aE).1
      obtain⟨D,z,E,F⟩:=aB8 o p h;have j:∀a∈A,a∈fu (A++gF l A):=fun a aE=>by rw[oi,aKo];exact .inl aE
      refine⟨D,fun a aE=>z a (j a aE),E,fun x ah=>?_⟩;rcases F x ah with h|⟨B,G,J,O,Q⟩
      ·rw[oi,aKo]at h;rcases h with h|h
       ·exact .inl h
       ·exact .inr ⟨A,cq,fun _ h=>h,fun a aE=>z a (j a aE),(ov.1 h).1⟩
      ·exact .inr ⟨B,G,fun a aE=>J a (j a aE),O,Q⟩
structure VR(l:List aU)(lv:aj->Int)(g:List I)(k:Nat)(A:List I):Prop where
 v:iq A
 i:∀a∈g,a∈A
 s:∀x∈A,x∈g\/∃r∈l,lv r.head.name<k/\x∈o9 A r
 c:∀r∈l,lv r.head.name<k->∀x∈o9 A r,x∈A
theorem aB9{lv:aj->Int}(j:∀r∈l,Rb r)(L:atQ l lv n) :∀(m k:Nat){A O:List I},VR l lv g k A ->
  vZ l ((List.range' k m).map fun k:Nat=>(aKr l.length).filter fun i=>lv l[i]!.head.name==(k:Int)) A=some (O,0)->VR l lv g (k+m) O
 |0,k,A,O,h,he=>by
  simp only[List.range'_zero,List.map_nil,vZ,Option.some.injEq,Prod.mk.injEq,and_true]at he;subst he;exact h
 |m+1,k,A,O,h,he=>by
  rw[List.range'_succ,aKl,vZ]at he;obtain⟨R,dN⟩:∃R,R=((aKr l.length).filter fun i=>lv l[i]!.head.name==(k:Int)).map (l[·]!):=⟨_,rfl⟩;rw[<-dN]at he;have Q:∀r,r∈R↔r∈l/\lv r.head.name=k:=fun r=>by
   rw[dN];simp only[aKi,aKj,List.mem_range,beq_iff_eq];constructor
   ·rintro⟨i,⟨o,U⟩,rfl⟩;exact⟨ft o,U⟩
   ·rintro⟨o,U⟩;obtain⟨i,ak,e⟩:=List.mem_iff_getElem.1 o;have aX:l[i]! = r:=by rw[getElem!_pos l i ak,e]
    exact⟨i,⟨ak,by rw[aX];exact U⟩,aX⟩
  split at he
  ·cases he
  ·rename_i e B az;split at he
   ·rename_i X;subst X;have p:∀r∈R,RV1 r:=fun r mC=>(j r ((Q r).1 mC).1).toRV1;obtain⟨T,z,v3,v4⟩:=aB8 p h.v az
    -- what is new has the level k
    have sU:∀x∈B,lv x.name<k->x∈A:=fun x ah hk=>by
     rcases v4 x ah with Y|⟨C,c1,V,D,Z⟩
     ·exact Y
     ·obtain⟨r,W,E⟩:=aKn.1 Z;rw[atE (p r W) E,((Q r).1 W).2]at hk;omega
    have hq:∀r∈l,∀x∈r.body,x.atom.name≠hW->lv x.atom.name+(if x.neg then 1 else 0)<=lv r.head.name:=fun r c x ah MS=>L.b r c (j r c).hd x ah MS;have VW:∀r∈l,lv r.head.name<=k->∀C:List I,(∀a∈A,a∈C)->(∀a∈C,a∈B)->∀x∈r.body,x.neg=true->x.atom.name≠hW->∀a,a.name=x.atom.name->(a∈C↔a∈B):=fun r c F C V D x ah G MS a aE=>by
     have o:=hq r c x ah MS;rw[G,<-aE]at o;simp only[if_true]at o;exact⟨D a,fun ae=>V a (sU a ae (by omega))⟩
    have J:∀r∈l,lv r.head.name<k->∀x,x∈o9 A r↔x∈o9 B r:=fun r c F x=>by
     constructor
     ·exact VF h.v T (j r c) (fun y _ _ a aE _=>z a aE) (VW r c (by omega) A (fun _ h=>h) z)
     ·refine VF T h.v (j r c) (fun y a1 ae a aE G=>?_) (fun y a1 G hd a aE=>(VW r c (by omega) A (fun _ h=>h) z y a1 G hd a aE).symm);refine sU a aE ?_;have aJ6:y.atom.name≠hW:=by simp only[eX,aKm,Bool.not_eq_true',beq_eq_false_iff_ne]at ae;exact ae.2
      have:=hq r c y a1 aJ6;rw[G];split at this<;>omega
    refine(show k+1+m=k+(m+1) by omega)▸aB9 j L m (k+1) (A:=B) ⟨T,fun a aE=>z a (h.i a aE),fun x ah=>?_,fun r c F x ah=>?_⟩ he
    ·rcases v4 x ah with Y|⟨C,c1,V,D,Z⟩
     ·rcases h.s x Y with q|⟨r,c,F,E⟩
      ·exact .inl q
      ·exact .inr ⟨r,c,by omega,(J r c F x).1 E⟩
     ·obtain⟨r,W,E⟩:=aKn.1 Z;obtain⟨c,F⟩:=(Q r).1 W;exact .inr ⟨r,c,by omega,VF c1 T (j r c) (fun y _ _ a aE _=>D a aE) (VW r c (by omega) C V D) E⟩
    ·by_cases hk:lv r.head.name=k
     ·exact v3 x (aKn.2 ⟨r,(Q r).2 ⟨c,hk⟩,ah⟩)
     ·have gJ:lv r.head.name<k:=by omega
      exact z x (h.c r c gJ x ((J r c gJ x).2 ah))
   ·rename_i X;simp only[Option.some.injEq,Prod.mk.injEq]at he;exact absurd he.2 X
theorem VX(h:fq l g=some (A,0)):iq A/\hY l=0/\(∀a∈g,a∈A)/\∀x,x∈A↔x∈g\/x∈en l A:=by
 unfold fq at h;split at h
 ·rename_i y;simp only[Option.some.injEq,Prod.mk.injEq]at h;exact absurd h.2 y
 ·rename_i y;have j:hY l=0:=by omega
  split at h
  ·rename_i z;simp only[Option.some.injEq,Prod.mk.injEq]at h;exact absurd h.2 z
  ·rename_i z;split at h
   ·cases h
   ·rename_i U;have B:k5 g=true:=by simpa using U
    obtain⟨lv,n,L⟩:=aJ5 (l:=l) (by omega);have o:=ash j;rw[L.o]at h;simp only[List.range_eq_range' (n:=n)]at h;have fK:VR l lv g 0 (fu g):=⟨fun a aE=>(aAL B).2 a ((oi _ _).1 aE),fun a aE=>(oi _ _).2 aE,fun x ah=>.inl ((oi _ _).1 ah),fun r c hk=>by
     have:=(L.h r c (o r c).hd).1;omega⟩
    have h5:=aB9 o L n 0 fK h;rw[Nat.zero_add]at h5;refine⟨h5.v,j,h5.i,fun x=>⟨fun ah=>?_,fun ah=>?_⟩⟩
    ·rcases h5.s x ah with q|⟨r,c,_,p⟩
     ·exact .inl q
     ·exact .inr (aKn.2 ⟨r,c,p⟩)
    ·rcases ah with ah|ah
     ·exact h5.i x ah
     ·obtain⟨r,c,p⟩:=aKn.1 ah;exact h5.c r c (L.h r c (o r c).hd).2 x p
theorem aEs:∀{f:Nat}{l:List aU}{A c:List I},A.length<=512->nH f l A=some (0,c)->c.length<=512
 |0,_,_,_,_,h=>by cases h|f+1,l,A,c,cq,h=>by
  rw[nH]at h;split at h
  ·cases h
  ·split at h
   ·simp only[Option.some.injEq,Prod.mk.injEq,true_and]at h;rw[<-h];exact cq
   ·split at h
    ·cases h
    ·split at h
     ·cases h
     ·exact aEs (by omega) h
theorem aEt :∀{rows:List (List Nat)}{A c:List I},A.length<=512->vZ l rows A=some (c,0)->c.length<=512
 |[],A,c,cq,h=>by
  simp only[vZ,Option.some.injEq,Prod.mk.injEq,and_true]at h;rw[<-h];exact cq
 |row::rows,A,c,cq,h=>by
  rw[vZ]at h;split at h
  ·cases h
  ·rename_i e B az;split at h
   ·rename_i j;subst j;exact aEt (aEs cq az) h
   ·rename_i j;simp only[Option.some.injEq,Prod.mk.injEq]at h;exact absurd h.2 j
theorem aEu :∀{rows:List (List Nat)}{A c:List I}{e:Nat},vZ l rows A=some (c,e)->e≠0->c=[]
 |[],A,c,e,h,j=>by
  simp only[vZ,Option.some.injEq,Prod.mk.injEq]at h;exact absurd h.2.symm j
 |row::rows,A,c,e,h,j=>by
  rw[vZ]at h;split at h
  ·cases h
  ·split at h
   ·exact aEu h j
   ·simp only[Option.some.injEq,Prod.mk.injEq]at h;exact h.1.symm
theorem aJ7(h:fq l g=some (S,e))(c:e≠0):S=[]:=by
 unfold fq at h;split at h
 ·simp only[Option.some.injEq,Prod.mk.injEq]at h;exact h.1.symm
 ·split at h
  ·simp only[Option.some.injEq,Prod.mk.injEq]at h;exact h.1.symm
  ·split at h
   ·simp only[Option.some.injEq,Prod.mk.injEq]at h;exact h.1.symm
   ·exact aEu h c
theorem aJ8(h:fq l g=some (A,0)):A.length<=512/\∀a∈A,fo a.name=true:=by
 obtain⟨_,o,_,p⟩:=VX h;have c:k5 g=true:=by
  unfold fq at h;split at h
  ·simp only[Option.some.injEq,Prod.mk.injEq]at h;omega
  ·split at h
   ·simp only[Option.some.injEq,Prod.mk.injEq]at h;omega
   ·split at h
    ·cases h
    ·rename_i q;simpa using q
 constructor
 ·unfold fq at h;split at h
  ·simp only[Option.some.injEq,Prod.mk.injEq]at h;omega
  ·split at h
   ·simp only[Option.some.injEq,Prod.mk.injEq]at h;omega
   ·split at h
    ·cases h
    ·exact aEt (aKq (Od g) (aAL c).1) h
 ·intro a aE;rcases(p a).1 aE with q|q
  ·simp only[k5,aKm]at c;have:=aKs.1 c.2 a q;simp only[zI,aKm,Bool.or_eq_true,beq_iff_eq]at this;rcases this.1 with q|q
   ·rw[q.1];rfl
   ·rw[q.1];rfl
  ·obtain⟨r,y,ah⟩:=aKn.1 q;have j:=(ash o r y).toRV1;rw[atE j ah];exact(j.a r.head (by simp[fU])).2
def pk(c:Nat->Bool):Nat->Nat->Nat->Nat
 |0,bh,_=>bh|f+1,bh,ak=>if bh<ak then(if c ((bh+ak) / 2)then pk c f ((bh+ak) / 2+1) ak else pk c f bh ((bh+ak) / 2))else bh
variable {bh ak:Nat}
theorem Fq(c:Nat->Bool)(h:ak<=bh):∀f,pk c f bh ak=bh
 |0=>rfl|f+1=>by rw[pk,if_neg (by omega)]
theorem Jt(c:Nat->Bool):∀f bh ak,ak-bh<=f->pk c (f+1) bh ak=pk c f bh ak
 |0,bh,ak,h=>by rw[Fq c (by omega),Fq c (by omega)]|f+1,bh,ak,h=>by
  by_cases j:bh<ak
  ·rw[pk,if_pos j];conv=>rhs;rw[pk,if_pos j]
   split
   ·exact Jt c f _ _ (by omega)
   ·exact Jt c f _ _ (by omega)
  ·rw[Fq c (by omega),Fq c (by omega)]
theorem aEK(c:Nat->Bool){f:Nat}(h:ak-bh<=f)(j:bh<ak):pk c f bh ak=if c ((bh+ak) / 2)then pk c f ((bh+ak) / 2+1) ak else pk c f bh ((bh+ak) / 2):=by
 cases f with
 |zero=>omega|succ f =>
  conv=>lhs;rw[pk,if_pos j]
  rw[Jt c f _ _ (by omega),Jt c f _ _ (by omega)]
def mu(s:List ba)(v:aj):Nat:=pk (fun k=>decide (dk s[k]!.var v<0)) s.length 0 s.length
def qd(s:List ba)(v:aj):Bool:=decide (mu s v<s.length)&&(dk s[mu s v]!.var v==0)
def uk(t:I):Bool:=decide (t.args.length=0)&&e9 t.name
mutual
def nP:I->I->List ba->Option (List ba×Bool)
 |.mk n l,g,s=>if uk (.mk n l)then(if qd s n then some (s,hi s[mu s n]!.term g)else if s.length=0 then some ([⟨n,g⟩],true)else none)
  else if n != g.name||decide (l.length≠g.args.length)then some ([],false)else rZ l g.args s
def rZ:List I->List I->List ba->Option (List ba×Bool)
 |p::bP,g::gs,s=>match nP p g s with
  |none=>none|some (s',true)=>rZ bP gs s'|some (_,false)=>some ([],false)
 |[],_,s=>some (s,true)|_::_,[],s=>some (s,true)
end
mutual
theorem agK:∀{p g:I}{s:List ba}{R:List ba×Bool},nP p g s=some R->s.length<=1->R.1.length<=1
 |.mk n l,g,s,R,h,az=>by
  rw[nP]at h;split at h
  ·split at h
   ·simp only[Option.some.injEq]at h;subst h;exact az
   ·split at h
    ·simp only[Option.some.injEq]at h;subst h;simp
    ·cases h
  ·split at h
   ·simp only[Option.some.injEq]at h;subst h;simp
   ·exact agL h az
theorem agL:∀{l m:List I}{s:List ba}{R:List ba×Bool},rZ l m s=some R->s.length<=1->R.1.length<=1
 |p::c,g::gs,s,R,h,az=>by
  rw[rZ]at h;split at h
  ·cases h
  ·rename_i j e;exact agL h (agK e az)
  ·simp only[Option.some.injEq]at h;subst h;simp
 |[],_,s,R,h,az=>by
  rw[rZ]at h
  ·simp only[Option.some.injEq]at h;subst h;exact az
  all_goals simp
 |_::_,[],s,R,h,az=>by
  rw[rZ]at h;simp only[Option.some.injEq]at h;subst h;exact az
end
def wo(s:List ba)(i:Nat):Bool:=e9 s[i]!.var&&ct 4 s[i]!.term true&&!(decide (0<i)&&(Op.bytesLess s[i]!.var s[i-1]!.var||s[i]!.var==s[i-1]!.var))
def oE(s:List ba):Bool:=decide (s.length<=64)&&(aKr s.length).all (wo s)
theorem aEL(ak:i<s.length)(h:wo s i=false):oE s=false:=by
 have:(aKr s.length).all (wo s)=false:=List.all_eq_false.2 ⟨i,List.mem_range.2 ak,by rw[h];simp⟩;rw[oE,this,Bool.and_false]
theorem aEM(c:s.length<=64)(h:∀i,i<s.length->wo s i=true):oE s=true:=by
 rw[oE,decide_eq_true c,Bool.true_and,aKs];exact fun i ak=>h i (List.mem_range.1 ak)
def kh(s:List ba):AV:=if s=[]then .aV 3 else .list none 3 (s.map ba.enc)
theorem aEN:kh []=.aV 3:=rfl
theorem agM(h:s≠[]):kh s=.list none 3 (s.map ba.enc):=if_neg h
instance aT.kh(s:List ba):aT (kh s) s:=by
 unfold AM.kh;split
 ·rename_i h;rw[h];exact aT.abz
 ·exact inferInstance
def r0(p g:I)(s:List ba):Option (List ba×Bool) :=
 if !(ct 4 g false&&oE s)then some ([],false)else match nP p g s with
 |none=>none|some (out,ok)=>if ok&&oE out then some (out,true)else some ([],false)
open Enc (enc)
def agY(s:an)(z:List AV)(K:an->Prop)(v:AV)(_:aM K):Prop:=match v with
 |.bs id off n sz=>b7 (if z.length=sz/\0<n then bz s (aKv n z).flatten (.ao id off)else if n=0 then some s else none) K ⟨⟩|.list _ _ []=>K s|.aV _=>K s|_=>False
variable {z:List AV}
theorem aFl{P:Program}{gl:cp}{D:bc}{x:aI}{s:an}{t:aM K}:bV P gl D s K t (.sb e z x)=bK (bg gl s.env x) (fun v=>agY s z K v ⟨⟩) ⟨⟩:=by
 have h:bV P gl D s K t (.sb e z x)=b7 (aH gl s (.sb e z x)) K ⟨⟩:=_root_.id rfl;rw[h];simp only[aH];cases bg gl s.env x with
 |none=>rfl|some v=>cases v with
  |list o n xs=>cases xs<;>rfl|_=>rfl
theorem aFm{s:an}{off sz:Nat}{t:aM K}:agY s z K (.bs id off n sz) t=b7 (if z.length=sz/\0<n then bz s (aKv n z).flatten (.ao id off)else if n=0 then some s else none) K ⟨⟩:=_root_.id rfl
theorem agZ:∀(C A B:List AV),B.length=C.length->setCells (A++B) A.length C=A++C
 |[],A,B,h=>by obtain rfl:B=[]:=aKK.1 h;rw[setCells]
 |c::C,A,b::B,h=>by
  have j:(A++b::B).set A.length c=(A++[c])++B:=by rw[List.set_append_right _ _ (aKC _),Nat.sub_self];simp
  rw[setCells,j];have:=agZ C (A++[c]) B (by simpa using h);rw[aKp]at this;rw[show A.length+1=A.length+[c].length from rfl,this];simp
def um(S:List I)(n:Nat):List AV:=cM S++(aKv n [AV.str [],AV.aV 2]).flatten
theorem aFn(S:List I):um S 0=cM S:=by simp[um]
variable {l:List I}
theorem aFo{E:Env}(hk:k+n=l.length) :
  sL E (fF e H id l) id (k*2) (aKv n [AV.str [],AV.aV 2]).flatten (some (.buf e (cM l)))=some ⟨E,H.set id (.buf e (um (l.take k) n))⟩:=by
 have c:cM l=cM (l.take k)++cM (l.drop k):=by rw[<-Oj,List.take_append_drop]
 have h:(cM (l.take k)).length=k*2:=by rw[kC,List.length_take];omega
 rw[D4,if_pos (by rw[Oi,kC];omega)];rw[c,<-h,agZ _ _ _ (by rw[Oi,kC,List.length_drop];omega)];simp[fF,um]
theorem aFp{l:Env}{t:Nat}{m:List I}(h:m.length=n/\n<=M):o7 l H t e 2 id n 2 (some (.buf e (um m k)))=some ⟨N ((t,.v (.list (some e) 2 (m.map I.enc)))::l),H.set id .dead⟩:=by
 obtain⟨h,c⟩:=h;have U:(um m k).take (n*2)=cM m:=by rw[um,List.take_append_of_le_length (by rw[kC];omega)];exact List.take_of_length_le (by rw[kC,h];exact aKC _)
 have j:n*2<=(um m k).length:=by rw[um,aKp,kC];omega
 simp only[o7,U,BE,Eo,j,true_and,c,if_true];rw[<-h,Ep];simp only[cj,List.foldr_cons]
attribute [go_sem 3000] aFp aFo
attribute [go_sem] aFm
attribute [go_sem ↓ 4000] aFl
theorem ag0[Inhabited α](d:α->Bool):∀(L:List α)(i:Nat),(jq d L i = -1/\∀t∈L,d t=false)\/∃k,k<L.length/\jq d L i=((i+k:Nat):Int)/\(∀t∈L.take k,d t=false)/\d L[k]! = true
 |[],i=>.inl ⟨rfl,fun _ h=>by cases h⟩|t::r,i=>by
  rw[jq];by_cases h:d t=true
  ·exact .inr ⟨0,by simp,by rw[if_pos h];rfl,fun _ h=>by simp at h,by simpa using h⟩
  ·have j:d t=false:=by simpa using h
   rw[if_neg h];rcases ag0 d r (i+1)with⟨o,U⟩|⟨k,o,U,p,q⟩
   ·exact .inl ⟨o,fun u c=>(aKh.1 c).elim (fun e=>e▸j) (U u)⟩
   ·refine .inr ⟨k+1,by simp;omega,by rw[U];congr 1;omega,fun u c=>?_,by simpa using q⟩;rw[aKE]at c;exact(aKh.1 c).elim (fun e=>e▸j) (p u)
theorem ag1{d:α->Bool}{L:List α}(h:∀t∈L,d t=false):L.filter (fun t=>!d t)=L:=List.filter_eq_self.2 fun t c=>by rw[h t c];rfl
def qe(d:I->Bool)(L:List I)(j k:Nat)(l:List I):Prop:=j<=L.length/\k<j/\l.length=L.length/\l.take k=(L.take j).filter (fun t=>!d t)/\l.drop j=L.drop j
variable {d:I->Bool}{L:List I}
theorem qe.start(c:k<L.length)(U:∀t∈L.take k,d t=false)(h:d L[k]! = true):qe d L (k+1) k L :=
 ⟨c,Nat.lt_succ_self _,rfl,by rw[bZ c,aKG,ag1 U];simp only[List.filter,h,Bool.not_true,List.append_nil],rfl⟩
variable {j:Nat}
theorem qe.same(h:qe d L j k l)(c:j<L.length):l[j]! = L[j]!:=by
 have o:=congrArg (·[0]!) h.2.2.2.2;have p:j<l.length:=h.2.2.1▸c;simp only[fY c,fY p]at o;simpa using o
theorem qe.drop(h:qe d L j k l)(c:j<L.length)(hd:d L[j]! = true):qe d L (j+1) k l:=by
 obtain⟨y,U,o,p,q⟩:=h;refine⟨c,by omega,o,?_,?_⟩
 ·rw[bZ c,aKG,p];simp only[List.filter,hd,Bool.not_true,List.append_nil]
 ·rw[<-aKM,<-aKM,q]
theorem qe.Pg(h:qe d L j k l)(c:j<L.length)(hd:d L[j]! = false):qe d L (j+1) (k+1) (l.set k l[j]!):=by
 have az:=h.same c;obtain⟨C,U,o,p,q⟩:=h;refine⟨c,by omega,by rw[List.length_set];exact o,?_,?_⟩
 ·have hk:k<(l.set k l[j]!).length:=by rw[List.length_set];omega
  rw[bZ c,aKG,<-p,bZ hk,az];have y:(l.set k L[j]!).take k=l.take k:=by rw[List.take_set_of_le (aKC _)]
  have B:(l.set k L[j]!)[k]! = L[j]!:=by rw[getElem!_pos _ _ (by rw[List.length_set];omega),List.getElem_set_self]
  rw[y,B];simp only[List.filter,hd,Bool.not_false]
 ·rw[List.drop_set_of_lt (by omega),<-aKM,<-aKM,q]
theorem qe.len(h:qe d L j k l)(o:j=L.length):l.take k=L.filter (fun t=>!d t)/\(L.filter (fun t=>!d t)).length=k/\k<L.length:=by
 obtain⟨p,U,q,c,y⟩:=h;rw[o,List.take_length]at c;exact⟨c,by rw[<-c,List.length_take];omega,by omega⟩
def lu(c:UInt8):Bool:=decide (c.toNat=32)||decide (c.toNat=10)
def zU(c:UInt8):Bool:=decide (c.toNat=45)||(decide (48<=c.toNat)&&decide (c.toNat<=57))||(decide (97<=c.toNat)&&decide (c.toNat<=122))||(decide (65<=c.toNat)&&decide (c.toNat<=90))
def qf:aj->aj|[]=>[]|c::r=>if lu c then qf r else c::r
def r2:aj->aj|[]=>[]|c::r=>if zU c then c::r2 r else[]
def r3:aj->aj|[]=>[]|c::r=>if zU c then r3 r else c::r
def kF(r:aj):aj×aj:=(r2 (qf r),r3 (qf r))
def gY(x:Nat)(r:aj):Bool×aj:=match qf r with
 |[]=>(false,[])|c::q=>if c.toNat=x then(true,q)else(false,c::q)
mutual
def x0:Nat->aj->aj->Option (I×aj)
 |0,_,_=>none|f+1,n,r=>if(gY 40 r).1 then(match Cg f [] (gY 40 r).2 with
   |none=>none|some (l,q)=>some (.mk n l,(gY 41 q).2))else some (.mk n [],(gY 40 r).2)
def Cg:Nat->List I->aj->Option (List I×aj)
 |0,_,_=>none|f+1,l,r=>if r=[]then some (l,r)else match x0 f (kF r).1 (kF r).2 with
  |none=>none|some (t,q)=>if(gY 44 q).1 then Cg f (l++[t]) (gY 44 q).2 else some (l++[t],(gY 44 q).2)
end
def wq(r:aj):aj×aj:=kF (kF (gY 46 r).2).2
def wu(w:aj×aj):aj×aj:=if w.1=[110,111,116]then kF w.2 else w
def Ch:Nat->List Lit->aj->Option (List Lit×aj)
 |0,_,_=>none|f+1,l,r=>if r=[]then some (l,r)else if(gY 46 r).1 then some (l,(gY 46 r).2)else
  if(wu (wq r)).1=[]then some (l,(wu (wq r)).2)else match x0 f (wu (wq r)).1 (wu (wq r)).2 with
  |none=>none|some (t,q)=>Ch f (l++[⟨decide ((wq r).1=[110,111,116]),t⟩]) q
def Ft(f:Nat)(n r:aj):Option (aU×aj):=match x0 f n r with
 |none=>none|some (t,q)=>match Ch f [] q with
  |none=>none|some (b,hL)=>some (⟨t,b⟩,hL)
def zV:Nat->List aU->aj->Option (List aU)
 |0,_,_=>none|f+1,l,r=>if(kF r).1=[]then some l else match Ft f (kF r).1 (kF r).2 with
  |none=>none|some (x,q)=>zV f (l++[x]) q
def zW:Nat->List I->aj->Option (List I)
 |0,_,_=>none|f+1,l,r=>if r=[]then some l else match x0 f (kF r).1 (kF r).2 with
  |none=>none|some (t,q)=>if(gY 44 q).1 then zW f (l++[t]) (gY 44 q).2 else some (l++[t])
def dP(s r:aj):ax:=.cells [.str s,.int .i64 ((s.length-r.length:Nat):Int)]
theorem Fu:∀r:aj,qf r <:+ r
 |[]=>aKz|c::r=>by
  rw[qf];split
  ·exact(Fu r).trans (List.suffix_cons c r)
  ·exact aKz
theorem ag2:∀r:aj,r3 r <:+ r
 |[]=>aKz|c::r=>by
  rw[r3];split
  ·exact(ag2 r).trans (List.suffix_cons c r)
  ·exact aKz
theorem wv(r:aj):(kF r).2 <:+ r:=(ag2 _).trans (Fu r)
theorem ta(x:Nat)(r:aj):(gY x r).2 <:+ r:=by
 have h:=Fu r;rw[gY];split
 ·exact List.nil_suffix
 ·rename_i c q e;rw[e]at h;split
  ·exact(List.suffix_cons c q).trans h
  ·exact h
variable {r:aj}
theorem Rj{s:aj}{c:UInt8}(h:c::r <:+ s):r.length+1<=s.length/\s[s.length-(r.length+1)]?=some c/\r <:+ s/\s.length-(r.length+1)+1=s.length-r.length:=by
 obtain⟨p,rfl⟩:=h;refine⟨by simp,?_,⟨p++[c],by simp⟩,by simp only[aKp,aKk];omega⟩;rw[show(p++c::r).length-(r.length+1)=p.length by simp];simp
mutual
theorem x4:∀{f:Nat}{n r:aj}{t:I}{q:aj},x0 f n r=some (t,q)->q <:+ r
 |0,_,_,_,_,h=>by cases h|f+1,n,r,t,q,h=>by
  rw[x0]at h;split at h
  ·split at h
   ·cases h
   ·rename_i l c e;simp only[Option.some.injEq,Prod.mk.injEq]at h;rw[<-h.2];exact((ta 41 c).trans (ag3 e)).trans (ta 40 r)
  ·simp only[Option.some.injEq,Prod.mk.injEq]at h;rw[<-h.2];exact ta 40 r
theorem ag3:∀{f:Nat}{l:List I}{r:aj}{m:List I}{q:aj},Cg f l r=some (m,q)->q <:+ r
 |0,_,_,_,_,h=>by cases h|f+1,l,r,m,q,h=>by
  rw[Cg]at h;split at h
  ·simp only[Option.some.injEq,Prod.mk.injEq]at h;rw[<-h.2];exact aKz
  ·split at h
   ·cases h
   ·rename_i t c e;have o:=(x4 e).trans (wv r);split at h
    ·exact((ag3 h).trans (ta 44 c)).trans o
    ·simp only[Option.some.injEq,Prod.mk.injEq]at h;rw[<-h.2];exact(ta 44 c).trans o
end
theorem ag4(w:aj×aj):(wu w).2 <:+ w.2:=by
 unfold wu;split
 ·exact wv _
 ·exact aKz
theorem aFz(r:aj):(wq r).2 <:+ r:=((wv _).trans (wv _)).trans (ta 46 r)
theorem ag5:∀{f:Nat}{l:List Lit}{r:aj}{m:List Lit}{q:aj},Ch f l r=some (m,q)->q <:+ r
 |0,_,_,_,_,h=>by cases h|f+1,l,r,m,q,h=>by
  rw[Ch]at h;have c:=(ag4 (wq r)).trans (aFz r);split at h
  ·simp only[Option.some.injEq,Prod.mk.injEq]at h;rw[<-h.2];exact aKz
  ·split at h
   ·simp only[Option.some.injEq,Prod.mk.injEq]at h;rw[<-h.2];exact ta 46 r
   ·split at h
    ·simp only[Option.some.injEq,Prod.mk.injEq]at h;rw[<-h.2];exact c
    ·split at h
     ·cases h
     ·rename_i t o e;exact((ag5 h).trans (x4 e)).trans c
theorem aFA{f:Nat}{n:aj}{x:aU}{q:aj}(h:Ft f n r=some (x,q)):q <:+ r:=by
 unfold Ft at h;split at h
 ·cases h
 ·rename_i t p c;split at h
  ·cases h
  ·rename_i b y o;simp only[Option.some.injEq,Prod.mk.injEq]at h;rw[<-h.2];exact(ag5 o).trans (x4 c)
def uo(e:Nat)(l:List I):AV:=if l=[]then .aV 2 else .list (some e) 2 (l.map I.enc)
def tb(e:Nat)(l:List AV):AV:=if l=[]then .aV 3 else .list (some e) 3 l
theorem aFB(e:Nat)(l:List I):bQ (uo e l) (.list none 2 (l.map I.enc)):=by
 unfold uo;split
 ·rename_i h;rw[h];exact bQ.aV 2
 ·exact bQ.disown _ _ _
theorem aFC(e:Nat)(l:List AV):bQ (tb e l) (.list none 3 l):=by
 unfold tb;split
 ·rename_i h;rw[h];exact bQ.aV 3
 ·exact bQ.disown _ _ _
theorem bn.kB{P:Program}{gl:cp}{f:Nat}{xs:List AV}{K:AV->List ax->Prop}(h:bn P gl f xs H fun c H'=>∃r,bQ c r/\cP r/\K r H'):bn P gl f xs H K :=
 ⟨h.1,fun g w vs o U p=>(h.2 g w vs o U p).mono fun _ _ ⟨v,c,H',g',q,⟨r,cv,y,B⟩,C,D,E,_⟩=>⟨v,r,H',g',q,B,C,D,cv _ _ E,y.gb⟩⟩
theorem Fv{s:aj}(h:r <:+ s):r.length<=s.length:=h.length_le
end AM
