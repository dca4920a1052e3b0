/- An abstract machine, and what of the given program it does, part 10. Conditions: none. -/
import Derived.Test.YtljpaghckmbmlaaGreatDoorAm8
import Derived.Shelf.SlSortCmp.WholeK
import Derived.Shelf.SlSortCmp.NoneTotal
set_option linter.unusedSimpArgs false
set_option linter.unusedVariables false
namespace AM
open List renaming map_cons -> aqt,mem_cons_of_mem -> aqv,mem_cons -> aqw,length_cons -> aqx,mem_map -> aqE,mem_filter -> aqH,mem_append -> aqI,length_append -> aqT,cons_append -> avO,all_eq_true -> avP,append_assoc -> avQ,getElem?_eq_getElem -> avR,map_congr_left -> avS,length_nil -> avT,sum_cons -> avX,mem_flatMap -> avY,range -> ax6,nil_append -> aKc,pairwise_cons -> aLO,foldl_cons -> aLY,drop_succ_cons -> aLZ,drop_zero -> aL0,take_of_length_le -> aL1,take_append_drop -> aPw,size_toArray -> aPP,mem_of_getElem? -> aPQ,length_map -> aPR,length_filter_le -> aPS,take_succ_cons -> aPT,length_eq_zero_iff -> aPU,countP_eq_length_filter -> aPV,getElem?_eq_none -> aPW,mem_append_left -> aPY,getElem?_cons_zero -> aPZ,getElem?_cons_succ -> aP0,countP_mono_left -> aP3
open Bool renaming and_eq_true -> aqB,false_eq_true -> aqV
open Nat renaming le_trans -> aqU,mul_le_mul_right -> aP1
open Option renaming ne_none_iff_exists' -> aPX,map_eq_some_iff -> aP2
open Go
theorem ajp{P:Program}{gl:cQ}{S E sz fz l:Nat}{d:List cW}{n:cW}(h:Jc P fz l S E sz d n=true)(g:∀k,qw sz k=true->su d n k)
  {H:List ay}{id mid m:Nat}{es:List (AV×AV)}(p:H[id]?=some (.cells [.map mid]))(q:H[mid]?=some (.map m es))(s:∀e∈es,fo e.2=true)(o:∀e∈es,qw sz e.1=true)(u:es.length<=M) :
  bB P gl fz [.aS sz,.fn l [.ptr id 0]] H λr H'=>(es=[]/\r=.aS sz/\H'=H)\/(es≠[]/\∃ks:List AV,ks.Perm (es.map (·.1))/\r=.bI H.length 0 ks.length sz/\H'=H++[.buf E (ks.map AV.cells).flatten,.dead]):=by
 simp only[Jc,aqB]at h;obtain⟨⟨⟨⟨⟨v,w⟩,x⟩,y⟩,a⟩,b⟩:=h;obtain⟨i,z,ej⟩:=asN v;split at a
 case h_2=>cases a
 rename_i fn A;split at b
 case h_2=>cases b
 rename_i G j;simp only[aqB]at a b;obtain⟨a,f⟩:=a;obtain⟨b,B⟩:=b;split at a
 case h_2=>cases a
 rename_i c C;split at b
 case h_2=>cases b
 rename_i J D;split at f
 case h_2=>cases f
 rename_i t F;simp only[beq_iff_eq]at f;subst f;exact asH ej w A C (by apply Array.ext';simpa using F) a j D (by apply Array.ext';simpa using B) b x y p q s (λe he=>g _ (o e he)) o u
theorem ajq{α β:Type}{f:α->β}:∀{l:List α}{ks:List β},ks.Perm (l.map f)->∃c:List α,c.Perm l/\ks=c.map f:=by
 intro l ks h;obtain⟨c,d,e⟩:∃c:List α,c.map f=ks/\c.Perm l:=by
  generalize hm:l.map f=m at h;induction h generalizing l with
  |nil=>simp_all|cons x h ih =>
   cases l with
   |nil=>cases hm|cons y r =>
    simp only[aqt,List.cons.injEq]at hm;obtain⟨g,d,e⟩:=ih hm.2;exact⟨y::g,by rw[aqt,d,hm.1],e.cons _⟩
  |swap x y r =>
   match l,hm with
   |a::b::g,hm =>
    simp only[aqt,List.cons.injEq]at hm;exact⟨b::a::g,by simp_all,.swap _ _ _⟩
  |trans d e i j =>
   obtain⟨s,k,n⟩:=j hm;obtain⟨o,p,q⟩:=i k;exact⟨o,p,q.trans n⟩
 exact⟨c,e,d.symm⟩
theorem ajr:∀l:List ak,((l.map AV.str).map AV.cells).flatten=im l
 |[]=>rfl|s::r=>by simp only[aqt,List.flatten_cons,ajr r,im];rfl
def qQ(x:bR):AV:=.agg [.str x.src,.str x.dst,.bool x.neg]
theorem aHZ:∀l:List bR,((l.map qQ).map AV.cells).flatten=fW l
 |[]=>rfl|s::r=>by simp only[aqt,List.flatten_cons,aHZ r,fW,qQ,AV.cells];rfl
theorem ajs:∀l:List bR,((l.map bR.enc).map AV.cells).flatten=fW l
 |[]=>rfl|s::r=>by simp only[aqt,List.flatten_cons,ajs r,fW,bR.enc,AV.cells];rfl
section
variable {α:Type}{lt:α->α->Bool}
def y2(lt:α->α->Bool)(l:List α):Prop:=l.Pairwise λa b=>lt a b=true
theorem Sn(ax:Sort.SWO lt):∀{l m:List α},y2 lt l->y2 lt m->(∀x,x∈l↔x∈m)->l=m
 |[],[],_,_,_=>rfl|[],y::m,_,_,h=>by have:=(h y).2 be;cases this|x::l,[],_,_,h=>by have:=(h x).1 be;cases this|x::l,y::m,h1,f,h=>by
  have a:=aLO.1 h1;have b:=aLO.1 f;have g:x=y:=by
   have i:=(h x).1 be;have j:=(h y).2 be;rcases aqw.1 i with e|e
   ·exact e
   ·rcases aqw.1 j with c|c
    ·exact c.symm
    ·have k:=b.1 x e;have n:=a.1 y c;have:=ax.trans _ _ _ k n;rw[ax.irrefl]at this;cases this
  subst g;rw[Sn ax a.2 b.2 λz=>?_];have d:=h z;constructor
  ·intro hm;rcases aqw.1 (d.1 (aqv _ hm))with e|e
   ·subst e;have:=a.1 z hm;rw[ax.irrefl]at this;cases this
   ·exact e
  ·intro hm;rcases aqw.1 (d.2 (aqv _ hm))with e|e
   ·subst e;have:=b.1 z hm;rw[ax.irrefl]at this;cases this
   ·exact e
theorem ajt[Inhabited α](ax:Sort.SWO lt)(k:∀a b,lt a b=false->lt b a=false->a=b){l:List α}(n:l.Nodup):y2 lt (Sort.sort lt l.toArray).toList/\∀x,x∈(Sort.sort lt l.toArray).toList↔x∈l:=by
 obtain⟨ar,d⟩:=Sort.sort_sorts lt ax l.toArray;obtain⟨m,hm⟩:=toA (Sort.sort lt l.toArray);rw[hm]at ar d ⊢;have f:m.length=l.length:=by simpa using ar.1
 have c:m.Perm l:=by
  have:=ar.2.2;rw[aPP,<-f]at this;have e:∀x:List α,(x.toArray.extract 0 x.length).toList=x:=λx=>by simp
  rw[e m,f,e l]at this;exact this
 have o:m.Nodup:=c.nodup_iff.2 n;refine⟨?_,λx=>c.mem_iff⟩;refine List.pairwise_iff_getElem.2 λi j al g p=>?_;have r:j<m.length:=g;have h:=d i j (Nat.zero_le _) p (by rw[aPP];omega);rw[ajh,ajh,getElem!_pos m i al,getElem!_pos m j g]at h;cases q:lt m[i] m[j]with
 |true=>rfl|false =>
  have:=k _ _ q h;have:=(List.getElem_inj o).1 this;omega
def nO[DecidableEq α](lt:α->α->Bool)(x:α):List α->List α
 |[]=>[x]|t::r=>if x=t then t::r else if lt x t then x::t::r else t::nO lt x r
variable {x:α}
theorem Sp[DecidableEq α]{y:α}:∀{l:List α},y∈nO lt x l↔y=x\/y∈l
 |[]=>by simp[nO]|t::r=>by
  rw[nO];split
  ·simp_all
  ·split
   ·simp
   ·simp only[aqw,Sp (l:=r)];constructor
    ·rintro(h|h|h)<;>simp[h]
    grind
theorem ajv[DecidableEq α](ax:Sort.SWO lt)(f:∀a b,lt a b=false->lt b a=false->a=b) :∀{l:List α},y2 lt l->y2 lt (nO lt x l)
 |[],_=>by simp[nO,y2]|t::r,h=>by
  have p:=aLO.1 h;rw[nO];split
  ·exact h
  ·rename_i cG;split
   ·rename_i c;refine aLO.2 ⟨λy d=>?_,h⟩;rcases aqw.1 d with e|e
    ·rw[e];exact c
    ·exact ax.trans _ _ _ c (p.1 y e)
   ·rename_i c;refine aLO.2 ⟨λy d=>?_,ajv ax f p.2⟩;rcases Sp.1 d with e|e
    ·grind
    ·exact p.1 y e
theorem GS[DecidableEq α](ax:Sort.SWO lt)(c:∀a b,lt a b=false->lt b a=false->a=b):∀(xs acc:List α),y2 lt acc->y2 lt (xs.foldl (λa x=>nO lt x a) acc)/\∀y,y∈xs.foldl (λa x=>nO lt x a) acc↔y∈xs\/y∈acc
 |[],acc,h=>⟨h,λy=>be⟩|x::xs,acc,h=>by
  obtain⟨d,e⟩:=GS ax c xs (nO lt x acc) (ajv ax c h);refine⟨d,λy=>?_⟩;rw[aLY,e y,Sp,aqw];constructor
  ·rintro(h|h|h)<;>simp[h]
  ·rintro((h|h)|h)<;>simp[h]
end
theorem Sq(a b:ak)(c:ng a b=false)(d:ng b a=false):a=b:=by
 rw[ajj]at c d;have:=CY a b;simp only[decide_eq_false_iff_not]at c d;exact mY.1 am
theorem Sr(a b:bR)(c:p3 a b=false)(d:p3 b a=false):a=b:=by
 have:=Sf a b;simp only[decide_eq_false_iff_not]at c d;exact La am
theorem Ss(s:ak):∀l,xf s l=nO ng s l
 |[]=>rfl|t::r=>by rw[xf,nO,Ss s r]
instance:DecidableEq bR:=λa b=>decidable_of_iff (lP a b=0) ⟨La,λh=>by rw[h];exact ajl b⟩
theorem St(x:bR):∀l,xg x l=nO p3 x l
 |[]=>rfl|t::r=>by
  rw[xg,nO,St x r];by_cases h:x=t
  ·subst h;rw[if_pos (ajl x),if_pos rfl]
  ·rw[if_neg (λe=>h (La e)),if_neg h];simp
variable {l:List aU}
theorem aH0{ks:List ak}(b:ks.Nodup)(hm:∀x,x∈ks↔x∈uc l):(Sort.sort ng ks.toArray).toList=il l:=by
 obtain⟨c,d⟩:=ajt GQ Sq b;have e:il l=(uc l).foldl (λa x=>nO ng x a) []:=by
  simp[il,Ss]
 obtain⟨f,g⟩:=GS GQ Sq (uc l) [] List.Pairwise.nil;rw[e];exact Sn GQ c f λx=>by rw[d,g,hm];simp
theorem aH1{ks:List bR}(b:ks.Nodup)(hm:∀x,x∈ks↔x∈lp l):(Sort.sort p3 ks.toArray).toList=mv l:=by
 obtain⟨c,d⟩:=ajt A2 Sr b;have e:mv l=(lp l).foldl (λa x=>nO p3 x a) []:=by
  simp[mv,St]
 obtain⟨f,g⟩:=GS A2 Sr (lp l) [] List.Pairwise.nil;rw[e];exact Sn A2 c f λx=>by rw[d,g,hm];simp
def iq(l:List bR):List (AV×AV):=l.map λx=>(qQ x,.bool true)
def xm(x:bR):List bR->List bR
 |[]=>[x]|y::r=>if LO (qQ x) (qQ y)then x::y::r else y::xm x r
def uf(l:List bR)(x:bR):List bR:=if x∈l then l else xm x l
def GU(n:Nat)(l:List bR)(x:bR):Nat:=if x∈l then n else n+1
theorem Su(x y:bR):dS (qQ x) (qQ y)=decide (x=y):=by
 obtain⟨a,b,c⟩:=x;obtain⟨d,e,f⟩:=y;simp only[qQ,dS,eqs,q7,bR.mk.injEq];by_cases g:a=d<;>by_cases h:b=e<;>by_cases i:c=f<;>simp[g,h,i]
theorem ajw:∀(l:List bR)(x:bR),hl (iq l) (qQ x)=if x∈l then some (.bool true)else none
 |[],_=>rfl|y::r,x=>by
  have ih:=ajw r x;simp only[iq]at ih;simp only[iq,aqt,hl,Su,ih,decide_eq_true_eq,aqw];by_cases h:x=y<;>simp[h]
theorem ajx:∀{l:List bR}{x:bR},x∈l->jv (iq l) (qQ x) (.bool true)=iq l
 |y::r,x,h=>by
  by_cases e:x=y
  ·simp_all[iq,jv,Su]
  ·have ih:=ajx (l:=r) (x:=x) (by simpa[e]using h);simp only[iq]at ih;simp only[iq,aqt,jv,Su,e,decide_false,aqV,if_false,ih]
theorem ajy:∀(l:List bR)(x:bR),uv (iq l) (qQ x) (.bool true)=iq (xm x l)
 |[],_=>rfl|y::r,x=>by
  have ih:=ajy r x;simp only[iq]at ih;simp only[iq,aqt,uv,xm];split
  ·rfl
  simp_all
theorem aH2(n:Nat)(l:List bR)(x:bR):pr n (iq l) (qQ x) (.bool true)=.map (GU n l x) (iq (uf l x)):=by
 rw[pr,ajw,GU,uf];by_cases h:x∈l
 ·simp only[h,if_true,ajx h]
 ·simp only[h,if_false,ajy]
theorem aH3(l:List bR):lr [1,1,2] (iq l)=true:=by cases l<;>rfl
variable {id n:Nat}{H:List ay}{l:List bR}
theorem aH4{a b:ak}{c:Bool} :va [1,1,2] (.agg [.str a,.str b,.bool c]) (.bool true) id H (some (.map n (iq l)))=some (H.set id (.map (GU n l ⟨a,b,c⟩) (iq (uf l ⟨a,b,c⟩)))):=by
 have h:fE [1,1,2] (.agg [.str a,.str b,.bool c])=true:=rfl;have e:pr n (iq l) (.agg [.str a,.str b,.bool c]) (AV.a1 (.bool true))=.map (GU n l ⟨a,b,c⟩) (iq (uf l ⟨a,b,c⟩)):=aH2 n l ⟨a,b,c⟩;simp only[va,aH3,h,Bool.and_self,if_true,e]
variable {x y:bR}
theorem ajz :∀{l:List bR},y∈xm x l↔y=x\/y∈l
 |[]=>by simp[xm]|t::r=>by
  rw[xm];split
  ·simp
  ·simp only[aqw,ajz (l:=r)];constructor
   ·rintro(h|h|h)<;>simp[h]
   grind
theorem Sv :∀{l:List bR},(xm x l).Perm (x::l)
 |[]=>.refl _|t::r=>by
  rw[xm];split
  ·exact .refl _
  ·exact(Sv.cons t).trans (.swap x t r)
theorem aH5 :y∈uf l x↔y=x\/y∈l:=by
 unfold uf;split
 ·grind
 ·exact ajz
theorem aH6(h:l.Nodup)(x:bR):(uf l x).Nodup:=by
 unfold uf;split
 ·exact h
 ·rename_i ah;exact(Sv.nodup_iff).2 (List.nodup_cons.2 ⟨ah,h⟩)
theorem aH7(l:List bR)(x:bR):(uf l x).length<=l.length+1:=by
 unfold uf;split
 ·omega
 ·rw[Sv.length_eq];simp
def sK(l:List bR):List bR:=l
theorem ajA:∀l:List ak,chunk 1 l.length (im l)=l.map AV.str
 |[]=>rfl|t::r=>by
  simp only[aqx,chunk,im,aqt,if_true,List.headD_cons,aLZ,aL0,ajA r]
theorem ajB:∀l:List ak,(im l).map AV.a1=im l
 |[]=>rfl|t::r=>by simp only[im,aqt,ajB r];rfl
theorem ajC:∀l:List ak,(im l).all AV.eH=true
 |[]=>rfl|t::r=>by simp only[im,List.all_cons,ajC r];rfl
variable {t e:Nat}
theorem aH8{l:Env}{m:List ak}(h:m.length=n/\n<=M):pU l H t e 1 id n 1 (some (.buf e (im m)))=some ⟨N ((t,.v (.list (some e) 1 (m.map AV.str)))::l),H.set id .dead⟩:=by
 obtain⟨h,a⟩:=h;subst h;have b:(im m).take m.length=im m:=aL1 (by rw[GP];omega);simp only[pU,Nat.mul_one,b,ajB,ajC,GP,true_and,Nat.le_refl,a,if_true,ajA];simp only[b7,List.foldr_cons]
theorem ajD:∀l:List bR,chunk 3 l.length (fW l)=l.map bR.enc
 |[]=>rfl|t::r=>by
  simp only[aqx,chunk,fW,aqt,bR.enc];simp[ajD]
theorem ajE:∀l:List bR,(fW l).map AV.a1=fW l
 |[]=>rfl|t::r=>by simp only[fW,aqt,ajE r];rfl
theorem ajF:∀l:List bR,(fW l).all AV.eH=true
 |[]=>rfl|t::r=>by simp only[fW,List.all_cons,ajF r];rfl
theorem aH9{l:Env}{m:List bR}(h:m.length=n/\n<=M):pU l H t e 3 id n 3 (some (.buf e (fW m)))=some ⟨N ((t,.v (.list (some e) 3 (m.map bR.enc)))::l),H.set id .dead⟩:=by
 obtain⟨h,a⟩:=h;have b:(fW m).take (n*3)=fW m:=aL1 (by rw[Dx,h];omega);simp only[pU,b,ajE,ajF,Dx,h,true_and,Nat.le_refl,a,if_true];rw[<-h,ajD];simp only[b7,List.foldr_cons]
attribute [go_sem 3000] aH8 aH9 aH4
open Go Go.Proofs Go.Sort Go.Shelf
def A4(x:bR):List Value:=[.string ⟨x.src.toArray⟩,.string ⟨x.dst.toArray⟩,.bool x.neg]
def vk:AV->Value|.str s=>.string ⟨s.toArray⟩|.bool b=>.bool b|_=>.bool false
theorem GV:∀(l:List bR)c,c∈fW l->(∃s,c=.str s/\∃x∈l,s=x.src\/s=x.dst)\/∃b,c=.bool b
 |[],c,h=>by cases h|x::r,c,h=>by
  simp only[fW,aqw]at h;rcases h with rfl|rfl|rfl|h
  ·exact .inl ⟨_,rfl,x,be,.inl rfl⟩
  ·exact .inl ⟨_,rfl,x,be,.inr rfl⟩
  ·exact .inr ⟨_,rfl⟩
  ·rcases GV r c h with⟨s,e,y,a,ax⟩|h
   ·exact .inl ⟨s,e,y,aqv _ a,ax⟩
   ·exact .inr h
theorem ajH:∀(l:List bR)(t:Nat),t<l.length*3->((fW l).map vk)[t]! = (A4 l[t / 3]!)[t % 3]!
 |[],t,h=>by simp at h|x::r,0,_=>rfl|x::r,1,_=>rfl|x::r,2,_=>rfl|x::r,t+3,h=>by
  have:=ajH r t (by simp only[aqx]at h;omega);rw[show(t+3) / 3=t / 3+1 by omega,show(t+3) % 3=t % 3 by omega];simpa[fW]using this
theorem ajI(l:List bR):flatK A4 3 l.toArray=((fW l).map vk).toArray:=by
 refine ext_get! (by simp[Dx]) λt b=>?_;have a:t<l.length*3:=by simpa using b
 rw[get_flatK _ _ _ t (by simpa using a)];have:=ajH l t a;have al:t / 3<l.length:=by omega
 simp only[List.getElem!_toArray]at this ⊢;rw[this]
section
variable {α:Type}[Inhabited α]{w:World}{g n:Nat}{os:Array Obj}{cur:Array Value}{e:TypeId}{dP:Nat×Nat}(enc:α->Value)(d:Array α)
theorem aId(ae:w.heap[g]?=some (.cells cur e dP)):(grow (putRow enc (Sort.ahead w n) g 0 d) os).heap[g]?=some (.cells (putCells enc 0 d cur) e dP):=by
 have a:g<w.heap.size:=(Array.getElem?_eq_some_iff.1 ae).1;rw[heap_grow_old _ _ (by simp_all)];simp[putRow,mapBlock,Sort.ahead,Array.getElem?_modify,ae,onCells]
theorem aIe:w.grownBy (grow (putRow enc (Sort.ahead w n) g 0 d) os) (some g):=by
 refine⟨rfl,rfl,rfl,be,λk hk cG=>?_⟩;rw[heap_grow_old _ _ (by simp_all)];have:g≠k:=λe=>cG (by rw[e]);simp[putRow,mapBlock,Sort.ahead,Array.getElem?_modify,this]
end
variable {P:Program}{gl:cQ}{cg:Ren}{f:Nat}
theorem aIf(L:SlLaysF0.n6 P cg)(z:∀w,(isAgg (cg.t 24)).run P w=.ok true w)(A:∀w,(Go.sizeOf (cg.t 24)).run P w=.ok 3 w)(B:∀args w,(callFunc f args).run P w=.ok (.enter f args) w)
  (C:∀(x y:bR)(W:World),Calls P f #[.agg (A4 x).toArray,.agg (A4 y).toArray] W λe w'=>e=.returned (.int .i64 (lP x y))/\∃q V,w'=grow (W.drewN q) V)
  (Y:kR P (cg.f 6)=true)(J:H[id]?=some (.buf e (fW l)))(bw:l.length<=M) :
  bB P gl (cg.f 6) [.bI id 0 l.length 3,.fn f []] H λr H'=>r=.bg []/\H'=H.set id (.buf e (fW (Sort.sort p3 l.toArray).toList)):=by
 have cP:M=1099511627776:=rfl;refine⟨Y,λg w vs d D _=>?_⟩;cases D with
 |cons _ _ v ws u D =>
  cases D with
  |cons _ _ v2 ws Z ob =>
   cases ob;obtain⟨b,k,cap,K,av,aQ,bG,rfl⟩:=u.ti;have GW:v2=.func (.func f) #[] #[]:=by
    cases Z with
    |pure _ _ h=>cases h|fn _ _ ws h=>cases h;rfl
   subst GW;obtain⟨E,k',bT,b8,⟨arr,ty,p,z2,z3,z4,z5⟩,⟨sh,O,eN⟩,_⟩:=d.heap id _ J;obtain rfl:E=b:=Option.some.inj (bT.symm.trans K);obtain⟨rfl,rfl,_⟩:arr=sh/\ty=e/\True:=by rw[p]at O;simp only[Option.some.injEq,Obj.cells.injEq]at O;omega
   have j1:=Dx l;have F:∀(j:Nat)c,(fW l)[j]?=some c->arr[j]?=some (vk c)/\∀s,c=.str s->s.length<=M:=λj c o=>by
    obtain⟨v,G,aV,Q,c5⟩:=z5 j c o;rcases GV l c (aPQ o)with⟨s,rfl,_⟩|⟨x,rfl⟩
    ·obtain⟨rfl,aC⟩:=Q.mG;exact⟨G,λs' h=>by cases h;exact aC⟩
    ·rw[Q.oO]at G;exact⟨G,λs h=>d7⟩
   have bJ:=(Array.getElem?_eq_some_iff.1 p).1;have hH:HoldsK A4 3 w E 0 l.toArray:=λj o=>by
    rw[ajI]at o ⊢;have R:j<(fW l).length:=by simpa using o
    have hd:((fW l).map vk).toArray[j]! = vk (fW l)[j]:=by simp[getElem!_pos,R]
    have a:=(F j _ (avR R)).1;rw[hd,Nat.zero_add];have ab:arr.toList.take (fW l).length=(fW l).map vk:=by
     apply List.ext_getElem?;intro i;by_cases al:i<(fW l).length
     ·rw[List.getElem?_take_of_lt al,Array.getElem?_toList,(F i _ (avR al)).1,List.getElem?_map,avR al];rfl
     ·rw[List.getElem?_take_eq_none am,aPW dl]
    unfold World.cell? World.frozen?;rw[p];simp only[a];exact⟨rfl,rfl⟩
   have hO:SWO (ltOf lP):=A2;refine(AnyQ.slices_SortFunc_eq L 3 z A A4 (λ_=>rfl) (λx v u=>by simp only[A4,aqw,List.not_mem_nil,or_false]at u;rcases u with rfl|rfl|rfl<;>rfl) lP hO f #[] E 0 cap l.toArray w B (λm os aO4 _ x y=>C x y _) hH bJ dl).mono ?_;rintro cB w' ⟨rfl,n,os,rfl⟩;obtain⟨X,bA⟩:∃X,X=(Sort.sort p3 l.toArray).toList:=⟨_,rfl⟩;have Sl:pdq (ltOf lP) l.toArray 0 l.toArray.size (Lib.bitLen l.toArray.size) true true=X.toArray:=by
    rw[bA,bitLen_eq _ (by simp only[aPP];omega)];rfl
   have S:X.Perm l:=by
    obtain⟨ar,_⟩:=Sort.sort_sorts p3 A2 l.toArray;obtain⟨m,hm⟩:=toA (Sort.sort p3 l.toArray);rw[hm]at ar;rw[bA,hm];have T:m.length=l.length:=by simpa using ar.1
    have:=ar.2.2;rw[aPP,<-T]at this;have e:∀x:List bR,(x.toArray.extract 0 x.length).toList=x:=λx=>by simp
    rw[e m,T,e l]at this;exact this
   rw[Sl];have y1:X.length=l.length:=S.length_eq;have aO5:=Dx X;unfold sortWorldK putRowK;rw[ajI];obtain⟨g1,g2⟩:=d.ajn (cs':=fW X) J K p (aId _root_.id ((fW X).map vk).toArray p) (by simp[putCells]) (aIe _ _) am (λi c a=>by
    have al:i<(fW X).length:=(List.getElem?_eq_some_iff.1 a).1;have yS:i<arr.size:=by omega
    refine⟨vk c,?_,?_,?_,?_⟩
    ·have By:((fW X).map vk).toArray[i]! = vk c:=by
      rw[avR al]at a;simp only[Option.some.injEq]at a;simp[getElem!_pos,al,a]
     rw[avR al]at a;simp only[Option.some.injEq]at a;simp[putCells,yS,al,a]
    ·rcases GV X c (aPQ a)with⟨s,rfl,_⟩|⟨x,rfl⟩<;>rfl
    ·rcases GV X c (aPQ a)with⟨s,rfl,x,ah,ax⟩|⟨x,rfl⟩
     ·refine .pure _ _ (.str _ ?_);have hm:x∈l:=S.mem_iff.1 ah;have Ld:∀(l:List bR),x∈l->AV.str s∈fW l:=λl=>by
       induction l with
       |nil=>intro h;cases h|cons y r ih =>
        intro h;simp only[fW,aqw];rcases aqw.1 h with rfl|h
        ·rcases ax with rfl|rfl<;>simp
        ·exact .inr (.inr (.inr (ih h)))
      obtain⟨j,o⟩:=List.getElem?_of_mem (Ld l hm);exact(F j _ o).2 s rfl
     ·exact .pure _ _ (.bool _)
    ·rcases GV X c (aPQ a)with⟨s,rfl,_⟩|⟨x,rfl⟩
     ·exact zp _
     ·exact λ_ _ _ h=>d7)
   exact⟨_,.bg [],_,g,rfl,⟨rfl,by rw[<-bA];rfl⟩,g1,g2,.bg [] [] .nil,fC.mE be⟩
theorem aIk(L:SlLaysF0.n6 P cg)(c:kR P (cg.f 6)=true)(H:List ay):bB P gl (cg.f 6) [.aS 3,.fn f []] H λr H'=>r=.bg []/\H'=H:=by
 refine⟨c,λg w vs a b _=>?_⟩;cases b with
 |cons _ _ v ws d b =>
  cases b with
  |cons _ _ v2 ws j i =>
   cases i;cases d with
   |pure _ _ h =>
    cases h;refine(AnyF.slices_SortFunc_none L none 0 v2 w).mono ?_;rintro e w' ⟨rfl,rfl⟩;exact⟨_,.bg [],_,g,rfl,⟨rfl,rfl⟩,eL.refl _ _,a,.bg [] [] .nil,fC.mE be⟩
def vl(x y:List UInt8):Int:=if Op.bytesLess x y=true then -1 else if(Op.bytesLess x y||x==y)=false then 1 else 0
def Dz(c d:Int):Int:=if c≠0 then c else d
structure ajJ(p:Prop):Prop where
 h:p
theorem Sx(W:World)(A:Array Value)(e:TypeId)(i:Nat):(W.alloc (.cells A e (0,0))).cell? ⟨W.heap.size,i,none⟩=A[i]?:=by
 unfold World.cell? World.alloc;simp only[Array.getElem?_push_size];rfl
theorem ajK(W:World)(o:Obj){a:Addr}{v:Value}(h:W.cell? a=some v):(W.alloc o).cell? a=some v:=by
 have b:a.block<W.heap.size:=World.block_lt_of_cell? W a h;rw[World.cell?_of_block (w:=W) (by simp only[World.alloc];exact Array.getElem?_push_lt b▸(Array.getElem?_eq_getElem b).symm)];exact h
theorem DA(W:World)(d:Nat)(a:Addr):({ W with drawn:=d }:World).cell? a=W.cell? a:=rfl
theorem aIl(W:World)(A B:Array Value)(e:TypeId)(i:Nat):((W.alloc (.cells A e (0,0))).alloc (.cells B e (0,0))).cell? ⟨W.heap.size,i,none⟩=A[i]?/\((W.alloc (.cells A e (0,0))).alloc (.cells B e (0,0))).cell? ⟨W.heap.size+1,i,none⟩=B[i]?:=by
 constructor
 ·unfold World.cell? World.alloc;simp only[Array.getElem?_push,Array.size_push];rw[if_neg am,if_pos trivial];rfl
 ·have:=Sx (W.alloc (.cells A e (0,0))) B e i;rwa[show(W.alloc (.cells A e (0,0))).heap.size=W.heap.size+1 from Array.size_push _]at this
theorem ajL(x y:ak):vl x y=du x y:=by
 rw[vl,CN];cases a:Op.bytesLess x y with
 |true=>rfl|false =>
  simp only[aqV,if_false,Bool.false_or];cases b:Op.bytesLess y x with
  |true =>
   have cG:(x==y)=false:=by
    rw[beq_eq_false_iff_ne];grind
   rw[cG];rfl
  |false =>
   have c:du x y=0:=by rw[CN,a,b];rfl
   have:x=y:=mY.1 c;rw[this];simp
theorem aIm(x y:bR):lP x y=Dz (Dz (vl x.src y.src) (vl x.dst y.dst)) (if x.neg=y.neg then 0 else if y.neg=true then -1 else 1):=by
 rw[ajL,ajL,lP];unfold Dz;by_cases a:du x.src y.src=0
 ·by_cases b:du x.dst y.dst=0
  ·simp[a,b]
  ·simp[a,b]
 ·simp[a]
open Enc (enc)
theorem ajT(lev:List (ak×Int))(s:ak)(v:Int)(t:ak):mw (fV lev s v) t=if t=s then v else mw lev t:=by
 unfold mw;rw[w5];split<;>rfl
def qS(ns:List ak)(lev:List (ak×Int)):Nat:=(ns.map λs=>(mw lev s).toNat).sum
variable {ns:List ak}{lev:List (ak×Int)}
theorem aIK{b:Nat}(h:∀s,mw lev s<=b):qS ns lev<=ns.length*b:=by
 induction ns with
 |nil=>simp[qS]|cons x r ih =>
  have:=h x;simp only[qS,aqt,avX,aqx]at ih ⊢;rw[Nat.succ_mul];omega
variable {s:ak}{v:Int}
theorem ajU(a:0<=mw lev s)(b:mw lev s<v):∀{ns:List ak},qS ns lev<=qS ns (fV lev s v)/\(s∈ns->qS ns lev<qS ns (fV lev s v))
 |[]=>by simp[qS]|x::r=>by
  obtain⟨c,d⟩:=ajU a b (ns:=r);simp only[qS,aqt,avX,ajT]at c d ⊢;by_cases ah:x=s
  ·grind
  ·grind
def xp(b:Int)(lev:List (ak×Int)):Prop:=∀s,0<=mw lev s/\mw lev s<=b
variable {b:Int}
theorem ajV(h:xp b lev)(e:bR):0<=AY lev e/\AY lev e<=b+1:=by
 have:=h e.dst;unfold AY;split<;>omega
theorem ajW(h:xp b lev)(a:0<=v)(c:v<=b):xp b (fV lev s v):=λt=>by
 rw[ajT];split
 ·exact⟨a,c⟩
 ·exact h t
theorem SF{n:Int} :∀{es:List bR}{lev a:List (ak×Int)}{ch d:Bool},(∀e∈es,e.src∈ns)->xp n lev->p0 n es lev ch=some (a,d) ->
  xp n a/\qS ns lev<=qS ns a/\(d=true->ch=true\/qS ns lev<qS ns a)
 |[],lev,a,ch,d,_,c,h=>by
  simp only[p0,Option.some.injEq,Prod.mk.injEq]at h;obtain⟨rfl,rfl⟩:=h;simp_all
 |e::r,lev,a,ch,d,ax,c,h=>by
  rw[p0]at h;split at h
  ·rename_i g;split at h
   ·cases h
   ·rename_i m;have i:=ajV c e;obtain⟨j,o,_⟩:=SF (λe he=>ax e (aqv _ he)) (ajW c i.1 am) h;obtain⟨p,k⟩:=ajU (ns:=ns) (c e.src).1 g;have:=k (ax e be);exact⟨j,am,λ_=>.inr am⟩
  ·exact SF (λe he=>ax e (aqv _ he)) c h
theorem ajX(c:ns.length=n){es:List bR}(ax:∀e∈es,e.src∈ns):∀(f:Nat){lev:List (ak×Int)},xp n lev->n*n+1<f+qS ns lev->ud n es f lev≠none
 |0,lev,a,h=>by
  have:=aIK (ns:=ns) (b:=n) λs=>(a s).2;rw[c]at this;omega
 |f+1,lev,a,h=>by
  rw[ud];split
  ·simp
  ·rename_i ar;obtain⟨d,i,g⟩:=SF ax a ar;have:=(g rfl).resolve_left be;exact ajX c ax f d am
  ·simp
theorem ajY(n:Nat):xp n []:=λs=>by simp[mw,getM]
variable {l:List aU}
theorem ajZ{x:ak}:x∈il l↔x∈uc l:=by
 have e:il l=(uc l).foldl (λa x=>nO ng x a) []:=by
  simp[il,Ss]
 rw[e,(GS GQ Sq (uc l) [] List.Pairwise.nil).2 x];simp
theorem aIL :x∈mv l↔x∈lp l:=by
 have e:mv l=(lp l).foldl (λa x=>nO p3 x a) []:=by
  simp[mv,St]
 rw[e,(GS A2 Sr (lp l) [] List.Pairwise.nil).2 x];simp
theorem aIM{e:bR}(h:e∈mv l):e.src∈il l/\e.dst∈il l:=by
 rw[aIL]at h;rw[ajZ,ajZ];simp only[lp,avY,aqH,aqE]at h;obtain⟨r,⟨a,c⟩,x,⟨ah,d⟩,rfl⟩:=h;simp only[uc,aqH,avY,aqw,aqE];exact⟨⟨⟨r,a,.inl rfl⟩,c⟩,⟨⟨r,a,.inr ⟨x,ah,rfl⟩⟩,d⟩⟩
theorem aIN(l:List aU):∃R,ud (il l).length (mv l) ((il l).length*(il l).length+2) []=some R:=by
 have:=ajX (n:=(il l).length) (ns:=il l) rfl (λe he=>(aIM he).1) ((il l).length*(il l).length+2) (ajY _) am;exact aPX.1 this
theorem Le(lev:List (ak×Int))(s:ak):w6 (.int .i64 0) false ((getM lev s).map (AV.int .i64))=.int .i64 (mw lev s):=by
 unfold mw;cases getM lev s<;>rfl
def sL(l:List aU):AV:=match AZ l with
 |none=>.bg [.list none 2 [],.int .i64 10]|some lev=>.bg [.list none 2 (lev.map λp=>(e2.mk p.1 p.2).enc),.int .i64 0]
theorem aj0(s:ak):∀(ls:List e2)(i:Nat),(j7 (λx:e2=>x.name==s) ls i = -1/\p1 (ls.map λx=>(x.name,x.level)) s = -1) \/
  ∃k,k<ls.length/\j7 (λx:e2=>x.name==s) ls i=((i+k:Nat):Int)/\p1 (ls.map λx=>(x.name,x.level)) s=ls[k]!.level
 |[],i=>.inl ⟨rfl,rfl⟩|x::r,i=>by
  rw[j7];by_cases h:x.name=s
  ·have a:(x.name==s)=true:=by simpa using h
   refine .inr ⟨0,be,?_,?_⟩
   ·simp only[a,if_true];rfl
   ·simp[p1,getM,h]
  ·have a:(x.name==s)=false:=by simpa using h
   have g:p1 ((x::r).map λx=>(x.name,x.level)) s=p1 (r.map λx=>(x.name,x.level)) s:=by
    simp only[p1,aqt,getM,Ne.symm h,if_false]
   rw[g];simp only[a,aqV,if_false];rcases aj0 s r (i+1)with⟨d,c⟩|⟨k,d,c,j⟩
   ·exact .inl ⟨d,c⟩
   ·exact .inr ⟨k+1,by simp only[aqx];omega,by rw[c];congr 1;omega,by rw[j];simp⟩
def vm(e:Nat):List Nat->AV
 |[]=>.aS 1|x::r=>.list (some e) 1 ((x::r).map qO)
def nP(lv:Nat->Int)(k n:Nat):List Nat:=(ax6 k).filter λi=>lv i==(n:Int)
def k1(e:Nat)(lv:Nat->Int)(S k:Nat):List AV:=(ax6 S).map λn=>vm e (nP lv k n)
theorem aj1(lv:Nat->Int)(k n:Nat):nP lv (k+1) n=if lv k=(n:Int)then nP lv k n++[k]else nP lv k n:=by
 rw[nP,List.range_succ,List.filter_append];split
 ·rename_i h;simp[nP,h]
 ·rename_i h;simp[nP,h]
theorem G0(e:Nat)(lv:Nat->Int)(S k:Nat):(k1 e lv S k).length=S:=by simp[k1]
variable {lv:Nat->Int}{S k w:Nat}
theorem SG(h:w<S):(k1 e lv S k)[w]?=some (vm e (nP lv k w)):=by
 simp[k1,h]
theorem aIO(h:lv k<0):k1 e lv S (k+1)=k1 e lv S k:=by
 unfold k1;refine avS λn _=>?_;rw[aj1,if_neg am]
theorem aIP(d:lv k=(w:Int))(h:w<S):k1 e lv S (k+1)=(k1 e lv S k).set w (.list (some e) 1 ((nP lv k w).map qO++[qO k])):=by
 apply List.ext_getElem?;intro n;rw[List.getElem?_set,G0];by_cases a:n<S
 ·rw[SG a,aj1,d];by_cases c:w=n
  ·subst c;rw[if_pos rfl,if_pos rfl,if_pos h];cases nP lv k w with
   |nil=>rfl|cons x r=>simp[vm]
  ·rw[if_neg am,if_neg c,SG a]
 ·have g:(k1 e lv S (k+1))[n]?=none:=aPW (by rw[G0];omega);have i:(k1 e lv S k)[n]?=none:=aPW (by rw[G0];omega);rw[g,if_neg am,i]
theorem aIQ(e:Nat)(lv:Nat->Int)(S:Nat):k1 e lv S 0=List.replicate S (.aS 1):=by
 unfold k1;have:(λn=>vm e (nP lv 0 n))=λ_=>AV.aS 1:=rfl;rw[this,List.map_const',List.length_range]
theorem aIR(e:Nat)(r:List Nat):(vm e r).a1.can=ue r:=by
 cases r with
 |nil=>rfl|cons x r =>
  simp only[vm,AV.a1,Ao,ue,List.map_map];rw[show(x::r).map (AV.can∘qO)=(x::r).map qO from avS λa _=>by rfl]
theorem aIS(e:Nat)(o:Option Nat)(lv:Nat->Int)(S k:Nat):bx (.list o 1 ((k1 e lv S k).map AV.a1)) (.list none 1 ((ax6 S).map λn=>ue (nP lv k n))):=by
 refine Qb ?_;rw[Ao];congr 1
 simp only[k1,List.map_map];exact avS λn _=>aIR e _
theorem aIT{cs:List AV}{x:AV}(h:cs[w]?=some x):wV 1 w (some (.buf e cs))=some [x]:=by
 obtain⟨a,c⟩:=List.getElem?_eq_some_iff.1 h;rw[CR,if_pos am,List.drop_eq_getElem_cons a,c];rfl
theorem aj2(x:AV):∀(cs:List AV)(w:Nat),w<cs.length->setCells cs w [x]=cs.set w x
 |[],w,h=>by simp at h|t::r,0,_=>by simp[setCells]|t::r,w+1,h=>by
  have:=aj2 x r w el;rfl
theorem aj3{E:Env}{x:AV}{cs:List AV}(h:w<cs.length):tP E H id w [x] (some (.buf e cs))=some ⟨E,H.set id (.buf e (cs.set w x))⟩:=by
 rw[FU,if_pos (by simp only[aqx,avT];omega),aj2 x cs w h]
theorem aj4:∀cs:List AV,chunk 1 cs.length cs=cs
 |[]=>rfl|t::r=>by simp only[aqx,chunk,if_true,List.headD_cons,aLZ,aL0,aj4 r]
theorem aIU{l:Env}{cs:List AV}(h:cs.length=n/\n<=M)(ar:(cs.map AV.a1).all AV.eH=true) :
  pU l H t e 1 id n 1 (some (.buf e cs))=some ⟨N ((t,.v (.list (some e) 1 (cs.map AV.a1)))::l),H.set id .dead⟩:=by
 obtain⟨rfl,a⟩:=h;simp only[pU,Nat.mul_one,List.take_length,ar,true_and,Nat.le_refl,a,if_true];have:=aj4 (cs.map AV.a1);rw[aPR]at this;rw[this];simp only[b7,List.foldr_cons]
theorem aIV(e:Nat)(lv:Nat->Int)(S k:Nat):((k1 e lv S k).map AV.a1).all AV.eH=true:=by
 rw[avP];intro x ah;simp only[k1,List.map_map,aqE,Function.comp]at ah;obtain⟨n,_,rfl⟩:=ah;cases nP lv k n<;>rfl
theorem aIW(e:Nat)(r:List Nat):(vm e r=.aS 1/\r.map qO=[])\/vm e r=.list (some e) 1 (r.map qO):=by
 cases r with
 |nil=>exact .inl ⟨rfl,rfl⟩|cons x r=>exact .inr rfl
theorem SH:∀(ls:List (ak×Int))(m:Int),m<=ls.foldl (λm p=>max m p.2) m/\∀p∈ls,p.2<=ls.foldl (λm p=>max m p.2) m
 |[],m=>⟨Int.le_refl _,λp h=>d7⟩|q::r,m=>by
  obtain⟨c,a⟩:=SH r (max m q.2);rw[aLY];refine⟨am,λp ar=>?_⟩;rcases aqw.1 ar with rfl|ar
  ·omega
  ·exact a p ar
variable {α:Type}
theorem aj5{v:α}:∀{l:List (ak×α)},getM l s=some v->∃p∈l,p.2=v
 |[],h=>by cases h|(k,u)::r,h=>by
  rw[getM]at h;split at h
  ·simp_all
  ·obtain⟨p,a,c⟩:=aj5 h;exact⟨p,aqv _ a,c⟩
theorem aIX(ls:List (ak×Int))(s:ak):p1 ls s<=xh ls:=by
 unfold p1 xh;obtain⟨a,c⟩:=SH ls (-1);cases h:getM ls s with
 |none=>exact a|some v =>
  obtain⟨p,d,g⟩:=aj5 h;rw[<-g];exact c p d
theorem aj6(x:α):∀n:Nat,(List.replicate n [x]).flatten=List.replicate n x
 |0=>rfl|n+1=>by simp
theorem aIY(lv:Nat->Int)(k n:Nat):(nP lv k n).length<=k:=by
 have:=aPS (λi=>lv i==(n:Int)) (ax6 k);rw[List.length_range]at this;exact this
mutual
def fy:I->ak|.mk n l=>n++[40]++iA l++[41]
def iA:List I->ak|[]=>[]|t::r=>(fy t++[44])++iA r
end
def xt:ak->Bool|[]=>false|c::_=>decide (65<=c.toNat)&&decide (c.toNat<=90)
def mx(t:I):Bool:=decide (t.args.length=0)&&xt t.name
def jr(s:List aY)(n:ak):Option I:=(s.find? λb=>b.var==n).map (·.term)
mutual
def fk:I->I->List aY->List aY×Bool
 |.mk n l,t,s=>if mx (.mk n l)then(match jr s n with|some u=>(s,hi u t)|none=>(s++[⟨n,t⟩],true))
  else if n != t.name||decide (l.length≠t.args.length)then([],false)else j9 l t.args s
def j9:List I->List I->List aY->List aY×Bool
 |p::ps,t::bE,s=>if(fk p t s).2 then j9 ps bE (fk p t s).1 else((fk p t s).1,false)|[],_,s=>(s,true)|_::_,[],s=>(s,true)
end
mutual
def hv:I->List aY->Option I
 |.mk n l,s=>if mx (.mk n l)then jr s n else(kN l s).map (I.mk n)
def kN:List I->List aY->Option (List I)
 |[],_=>some []|t::r,s=>match hv t s with
  |none=>none|some u=>(kN r s).map (u::·)
end
theorem SV:∀(l:List I)(t:I),iA (l++[t])=iA l++(fy t++[44])
 |[],t=>by simp[iA]|u::r,t=>by simp only[avO,iA,SV r t,avQ]
variable {l:List I}{i:Nat}
theorem aJm(h:i<l.length):iA (l.take (i+1))=iA (l.take i)++(fy l[i]!++[44]):=by rw[bL h,SV]
theorem SX:∀(l:List I)(i:Nat),(iA (l.take i)).length<=(iA l).length
 |[],i=>by simp[iA]|t::r,0=>by simp[iA]|t::r,i+1=>by
  have:=SX r i;simp only[aPT,iA,aqT]at this ⊢;omega
theorem akm:∀{l:List I}{s:List aY}{m:List I},kN l s=some m->m.length=l.length
 |[],s,m,h=>by simp_all[kN]|t::r,s,m,h=>by
  rw[kN]at h;split at h
  ·cases h
  ·cases a:kN r s with
   |none=>rw[a]at h;cases h|some q =>
    rw[a]at h;simp only[Option.map_some,Option.some.injEq]at h;subst h;simp[akm a]
def k2(a:I)(s:List aY):List I->List (List aY)->Int->Option (List (List aY)×Int)
 |[],dz,left=>some (dz,left)|t::bE,dz,left=>if t.name != a.name||decide (t.args.length≠a.args.length)then k2 a s bE dz left
  else if decide (left-1<0)||decide ((if(fk a t s).2 then dz++[(fk a t s).1]else dz).length>5000)then none
  else k2 a s bE (if(fk a t s).2 then dz++[(fk a t s).1]else dz) (left-1)
def my(a:I)(atoms:List I):List (List aY)->List (List aY)->Int->Option (List (List aY)×Int)
 |[],dz,left=>some (dz,left)|s::r,dz,left=>match k2 a s atoms dz left with
  |none=>none|some (jT,h8)=>my a atoms r jT h8
def js(atoms:List I):List Lit->List (List aY)->Int->Option (List (List aY)×Int)
 |[],out,left=>some (out,left)|x::r,out,left=>if x.neg||x.atom.name==eG then js atoms r out left else match my x.atom atoms out [] left with
  |none=>none|some (xu,h8)=>js atoms r xu h8
def qU(n:Nat)(l:List (List aY)):Prop:=∀s∈l,s.length<=n
theorem SY:∀{l:List I}{i:Nat},i<l.length->((c3 l).drop (i*2)).take 1=[.str l[i]!.name]/\((c3 l).drop (i*2+1)).take 1=[.list none 2 (l[i]!.args.map I.enc)]
 |[],i,h=>by simp at h|t::r,0,_=>by simp[c3]|t::r,i+1,h=>by
  have:=SY (l:=r) (i:=i) el;rw[show(i+1)*2=i*2+2 by omega,show i*2+2+1=i*2+1+2 by omega];simpa[c3]using this
theorem aJn(h:i<l.length):wV 1 (i*2) (some (.buf e (c3 l)))=some [.str l[i]!.name]:=by
 rw[CR,(SY h).1,ll,if_pos am]
theorem aJo(h:i<l.length):wV 1 (i*2+1) (some (.buf e (c3 l)))=some [.list none 2 (l[i]!.args.map I.enc)]:=by
 rw[CR,(SY h).2,ll,if_pos am]
attribute [go_sem 3000] aJn aJo
variable {d:Nat}{K:au->Prop}{t:aN K}
theorem aJp{s:au} :o7 s d e 2 K t (.aS 2) (some (2,[.agg [.str [],.aS 2]]))=di { s with heap:=s.heap++[ay.buf e [.str [],.aS 2],.dead] } d (.bI s.heap.length 0 1 2) K ⟨⟩:=by
 rfl
theorem akn:∀l:List I,(c3 l).map AV.a1=c3 l
 |[]=>rfl|t::r=>by simp only[c3,aqt,akn r];rfl
variable {S:List I}
theorem aJq{e0:Env}(h:H[id]?=some (.buf e (c3 S))/\n=S.length/\n+1<=M) :
  o7 ⟨e0,H⟩ d e 2 K t (.bI id 0 n 2) (some (2,[.agg [.str [],.aS 2]]))=di ⟨e0,H.set id .dead++[ay.buf e (c3 S++[.str [],.aS 2]),.dead]⟩ d (.bI H.length 0 (n+1) 2) K ⟨⟩:=by
 obtain⟨a,rfl,c⟩:=h;have g:(c3 S).take (S.length*2)=c3 S:=aL1 (by rw[ll];omega);simp only[o7,a];rw[if_pos ⟨trivial,trivial,trivial,by rw[ll];omega,ni⟩,g,akn];rfl
theorem ako(x y:AV):∀(S:List I)(a b:AV),setCells (c3 S++[a,b]) (S.length*2) [x,y]=c3 S++[x,y]
 |[],a,b=>rfl|t::r,a,b=>by
  have:=ako x y r a b;rw[aqx,show(r.length+1)*2=r.length*2+2 by omega];simp only[c3,avO,setCells]at this ⊢;rw[show r.length*2+2+1=r.length*2+1+2 by omega];simp only[List.set_cons_succ];rw[this]
theorem akp:∀(S:List I)(t:I),c3 (S++[t])=c3 S++[.str t.name,.list none 2 (t.args.map I.enc)]
 |[],t=>rfl|u::r,t=>by simp only[avO,c3,akp r t]
theorem akq{P:Program}{gl:cQ}{D:bj}{b:Bool}{x v:aL}{s:au} :b4 P gl D s K t (.lW b n x v)=cC (aJ gl s (.lW b n x v)) K ⟨⟩:=_root_.id rfl
variable {t:I}
theorem akr(h:H[id]?=some (.buf e (c3 S++[.str [],.aS 2]))):qe true 2 H (some (.ptr id (S.length*2))) (some t.enc)=some (H.set id (.buf e (c3 (S++[t])))):=by
 have c:(c3 S++[AV.str [],AV.aS 2]).length=S.length*2+2:=by rw[aqT,ll];rfl
 have a:t.enc.cells=[.str t.name,.list none 2 (t.args.map I.enc)]:=by rw[t.qC];rfl
 simp only[qe,h];rw[if_pos ⟨trivial,by rw[a];rfl,by rw[a];rfl,by rw[c];omega⟩,a];simp only[aqt,List.map_nil,AV.a1];rw[ako,akp]
theorem aks{o z:Nat}{c:AV}(h:H[id]?=some (.cells [c])):qe false 1 H (some (.ptr id 0)) (some (.bI i o n z))=some (H.set id (.cells [.bI i o n z])):=by
 simp only[qe,h];rfl
def kP(t:I):Option I:=if decide (t.args.length=1)&&(t.name==[105,110,105,116]||t.name==[110,101,120,116])then some (.mk [116,114,117,101] t.args)
 else if decide (t.args.length=2)&&t.name==[108,101,103,97,108]then some (.mk [100,111,101,115] t.args)else none
def rS(S:List I):List aU->List I->Int->Option (List I×Int)
 |[],more,left=>some (more,left)|r::rs,more,left=>match js S r.body [[]] left with
  |none=>none|some (all,h8)=>rS S rs (more++all.filterMap (hv r.head)) h8
def gZ(p:List (ak×Bool)×List I)(t:I):List (ak×Bool)×List I:=if !((getM p.1 (fy t)).getD false)&&decide (cc t<=4)then(fV p.1 (fy t) true,p.2++[t])else p
def qX(t:I):Bool:=decide ((fy t).length<=M)&&decide (cc t<=1000000)
def y8(l:List aU):Nat->List (ak×Bool)×List I->Int->Int->Option Bool
 |0,_,_,_=>none|f+1,p,n,left=>if decide (n<(p.2.length:Int))&&decide (p.2.length<=1000)then(match rS p.2 l [] left with
   |none=>some false|some (more,h8)=>if !((more++p.2.filterMap kP).all qX)then none else y8 l f ((more++p.2.filterMap kP).foldl gZ p) p.2.length h8)
  else some (decide (p.2.length<=1000))
def kb(l:List aU)(given:List I):Option Bool:=if !(given.all qX)then none else y8 l 1003 (given.foldl gZ ([],[])) (-1) 1000000
theorem aky(p:List (ak×Bool)×List I)(t:I):p.2.length<=(gZ p t).2.length/\(gZ p t).2.length<=p.2.length+1:=by
 unfold gZ;split<;>simp
theorem G7(h:eg s=true):xt s=true:=by
 unfold eg nE at h;cases s with
 |nil=>simp at h|cons c r=>simp_all[xt,hs]
theorem G8(h:dM s=true):xt s=false:=by
 unfold dM nE at h;cases s with
 |nil=>rfl|cons c r =>
  simp_all[xt,hs];omega
theorem akO(h:(fw s).isSome=true):xt s=false:=by
 unfold fw at h;cases s with
 |nil=>rfl|cons c r =>
  simp only at h;split at h
  ·rename_i a;have:=avP.1 a.2.2 c be;simp only[eZ,aqB,decide_eq_true_eq]at this;simp only[xt,Bool.and_eq_false_iff,decide_eq_false_iff_not];omega
  ·cases h
theorem Ln{v:Bool}(h:cD n t v=true):mx t=eJ t:=by
 unfold mx eJ;by_cases a:t.args.length=0
 ·rw[decide_eq_true a,Bool.true_and,Bool.true_and];cases n with
  |zero=>cases h|succ n =>
   rw[cD,if_pos a]at h;simp only[aqB,Bool.or_eq_true]at h;obtain⟨_,(h|h)|h⟩:=h
   ·rw[G8 h];cases c:eg t.name with
    |false=>rfl|true=>have:=G7 c;rw[G8 h]at this;cases this
   ·rw[akO h];cases c:eg t.name with
    |false=>rfl|true=>have:=G7 c;rw[akO h]at this;cases this
   ·rw[h.2,G7 h.2]
 ·rw[decide_eq_false a];rfl
def dn(s:List aY):Sub:=s.map λb=>(b.var,b.term)
theorem DG(n:ak):∀s:List aY,jr s n=getM (dn s) n
 |[]=>rfl|b::r=>by
  have ih:=DG n r;unfold jr at ih ⊢;rw[List.find?_cons];simp only[dn,aqt,getM]at ih ⊢;by_cases h:n=b.var
  ·subst h;simp
  ·grind
theorem Tq(u t:I):hi u t=(b6 u t==0):=by
 rw[Bool.eq_iff_iff,JT,beq_iff_eq];exact⟨λh=>by rw[h];exact CZ t,u5 u t⟩
theorem akP:∀(n:Nat)(p g:I)(s:List aY),cD n p true=true->(fk p g s).2=(eA p g (dn s)).1/\((fk p g s).2=true->dn (fk p g s).1=(eA p g (dn s)).2)
 |0,p,g,s,h=>by cases h|n+1,.mk c l,g,s,h=>by
  have j:=Ln h;have o:=tZ h;rw[fk,eA,j];cases C:eJ (.mk c l)with
  |true =>
   simp only[if_true,mn,DG];cases getM (dn s) c with
   |none=>simp[dn]|some u=>simp[Tq]
  |false =>
   simp only[aqV,if_false];by_cases a:c≠g.name\/l.length≠g.args.length
   ·grind
   ·have z:(c != g.name||decide (l.length≠g.args.length))=false:=by
     simp only[not_or,Decidable.not_not]at a;simp[a.1,a.2]
    rw[z,if_neg be,if_neg a];have key:∀(l m:List I)(s:List aY),(∀u∈l,cD n u true=true)->l.length=m.length->(j9 l m s).2=(gj l m (dn s)).1/\((j9 l m s).2=true->dn (j9 l m s).1=(gj l m (dn s)).2):=λl=>by
     induction l with
     |nil=>intro m s _ _;rw[j9,gj];exact⟨rfl,λ_=>rfl⟩;all_goals simp|cons x r ih =>
      intro m s A hm;cases m with
      |nil=>simp at hm|cons y q =>
       obtain⟨B,D⟩:=akP n x y s (A x be);rw[j9,gj,<-B];cases ah:(fk x y s).2 with
       |false=>simp|true=>grind
    simp only[not_or,Decidable.not_not]at a;exact key l g.args s o.2.2.1 a.2
theorem Tr:∀(n:Nat)(t:I)(s:List aY)(u:I),cD n t true=true->hv t s=some u->eD (dn s) t=u
 |0,t,s,u,h,_=>by cases h|n+1,.mk g l,s,u,h,al=>by
  have z:=Ln h;have A:=tZ h;rw[hv,z]at al;rw[C7];cases o:eJ (.mk g l)with
  |true =>
   rw[o]at al;simp only[if_true,DG]at al;show(getM (dn s) g).getD _=u;rw[al];rfl
  |false =>
   rw[o]at al;simp only[aqV,if_false]at al ⊢;have key:∀(l:List I)(m:List I),(∀x∈l,cD n x true=true)->kN l s=some m->l.map (eD (dn s))=m:=λl=>by
    induction l with
    |nil=>simp[kN]|cons x r ih =>
     intro m p h;rw[kN]at h;cases ah:hv x s with
     |none=>rw[ah]at h;cases h|some y =>
      rw[ah]at h;cases c:kN r s with
      |none=>rw[c]at h;cases h|some q =>
       rw[c]at h;simp only[Option.map_some,Option.some.injEq]at h;rw[<-h,aqt,Tr n x s y (p x be) ah,ih q (λu B=>p u (aqv _ B)) c]
   cases c:kN l s with
   |none=>rw[c]at al;cases al|some m =>
    rw[c]at al;simp only[Option.map_some,Option.some.injEq]at al;show(if l.length=0 then I.mk g l else .mk g (l.map _))=u;by_cases j:l.length=0
    ·rw[if_pos j,<-al];cases l with
     |nil=>simp only[kN,Option.some.injEq]at c;rw[<-c]|cons a b=>simp at j
    ·rw[if_neg j,key l m A.2.2.1 c,al]
theorem akQ:∀(n:Nat)(t:I)(s:List aY),cD n t true=true->(∀x∈ck t,eg x=true->(getM (dn s) x).isSome=true)->(hv t s).isSome=true
 |0,t,s,h,_=>by cases h|n+1,.mk g l,s,h,ae=>by
  have p:=Ln h;have q:=tZ h;rw[hv,p];cases j:eJ (.mk g l)with
  |true =>
   rw[if_pos rfl,DG];simp only[eJ,aqB,decide_eq_true_eq]at j;exact ae g (by rw[nJ,if_pos j.1];simp[I.name]) j.2
  |false =>
   rw[if_neg be,Option.isSome_map];have key:∀(l:List I),(∀x∈l,cD n x true=true)->(∀u∈l,∀x∈ck u,eg x=true->(getM (dn s) x).isSome=true)->(kN l s).isSome=true:=λl=>by
    induction l with
    |nil=>intro _ _;rfl|cons x r ih =>
     intro m o;obtain⟨y,z⟩:=Option.isSome_iff_exists.1 (akQ n x s (m x be) (o x be));rw[kN,z];simp only[Option.isSome_map];exact ih (λu a=>m u (aqv _ a)) λu a=>o u (aqv _ a)
   refine key l q.2.2.1 λu a x ah A=>ae x ?_ A;rw[nJ];by_cases c:(I.mk g l).args.length=0
   ·exfalso;simp only[I.args]at c;rw[aPU]at c;rw[c]at a;cases a
   ·rw[if_neg c];exact AT.2 ⟨u,a,ah⟩
mutual
theorem key_inj:∀(t u:I){r r':ak},nd t->nd u->fy t++r=fy u++r'->t=u/\r=r'
 |.mk n l,.mk m k,r,r',h1,a,h=>by
  simp only[nd]at h1 a;simp only[fy,avQ,avO,aKc]at h;obtain⟨rfl,e⟩:=Df h1.1 a.1 (Dg _) (Dg _) h;simp only[List.cons.injEq,true_and]at e;obtain⟨rfl,c⟩:=akR l k h1.2 a.2 e;exact⟨rfl,c⟩
theorem akR:∀(l m:List I){r r':ak},qK l->qK m->iA l++41::r=iA m++41::r'->l=m/\r=r'
 |[],[],r,r',_,_,h=>by simpa[iA]using h|[],.mk n k::m,r,r',_,a,h=>by
  simp only[qK,nd]at a;simp only[iA,fy,aKc,avQ,avO]at h;cases n with
  |nil=>simp at h|cons c n=>simp at h;exact absurd h.1.symm (a.1.1 c be).2.1
 |.mk n k::l,[],r,r',h1,_,h=>by
  simp only[qK,nd]at h1;simp only[iA,fy,aKc,avQ,avO]at h;cases n with
  |nil=>simp at h|cons c n=>simp at h;exact absurd h.1 (h1.1.1 c be).2.1
 |t::l,u::m,r,r',h1,a,h=>by
  simp only[qK]at h1 a;simp only[iA,avQ,avO,aKc]at h;obtain⟨rfl,e⟩:=key_inj t u h1.1 a.1 h;simp only[List.cons.injEq,true_and]at e;obtain⟨rfl,g⟩:=akR l m h1.2 a.2 e;exact⟨rfl,g⟩
end
variable {u:I}
theorem akS(a:nd t)(c:nd u)(h:fy t=fy u):t=u:=(key_inj t u (r:=[]) (r':=[]) a c (by rw[h])).1
def xx(A:List I)(p:I)(σ:Sub):List Sub:=(jc A p.name).flatMap λa=>if(eA p a σ).1=true then[(eA p a σ).2]else[]
def exts(A:List I):List Lit->Sub->List Sub
 |[],σ=>[σ]|l::gW,σ=>(jc A l.atom.name).flatMap λa=>if(eA l.atom a σ).1=true then exts A gW (eA l.atom a σ).2 else[]
theorem akT(A:List I)(l:Lit)(c:List Lit)(σ:Sub):exts A (l::c) σ=(xx A l.atom σ).flatMap (exts A c):=by
 rw[exts,xx,List.flatMap_assoc];congr 1;funext a
 by_cases h:(eA l.atom a σ).1=true<;>simp[h]
theorem Ts(S:List I)(c:List Lit)(hd:I):∀(g:List Lit)(σ:Sub),h5 S c hd g σ=((exts S g σ).filter λj=>c.all (o9 S j)).map λj=>eD j hd
 |[],σ=>by
  rw[h5,exts];by_cases h:c.all (o9 S σ)=true<;>simp[h]
 |l::g,σ=>by
  rw[h5,exts,List.filter_flatMap,List.map_flatMap];congr 1;funext a
  by_cases h:(eA l.atom a σ).1=true
  ·rw[if_pos h,if_pos h,Ts S c hd g]
  ·rw[if_neg h,if_neg h];rfl
theorem akU(t:I)(bE:List I)(p:I)(σ:Sub):xx (t::bE) p σ=(if t.name=p.name then(if(eA p t σ).1=true then[(eA p t σ).2]else[])else[])++xx bE p σ:=by
 unfold xx jc;by_cases h:t.name=p.name
 ·grind
 ·grind
def sQ(a:I)(s:List aY)(t:I):Option (List aY):=if(t.name != a.name||decide (t.args.length≠a.args.length))=true then none else if(fk a t s).2=true then some (fk a t s).1 else none
theorem akV{p:I}{s:List aY}(h:cD 4 p true=true)(c:dM p.name=true):∀bE:List I,(bE.filterMap (sQ p s)).map dn=xx bE p (dn s)
 |[]=>rfl|t::bE=>by
  have ih:=akV (s:=s) h c bE;have g:eJ p=false:=by
   rw[<-Ln h,mx,G8 c];simp
  obtain⟨j,o⟩:=akP 4 p t s h;rw[List.filterMap_cons,akU];by_cases a:t.name=p.name
  ·rw[if_pos a];by_cases aG:t.args.length=p.args.length
   ·have e:sQ p s t=if(fk p t s).2=true then some (fk p t s).1 else none:=by unfold sQ;rw[if_neg (by simp[a,aG])]
    rw[e,<-j];cases hm:(fk p t s).2 with
    |true=>grind|false=>grind
   ·have e:sQ p s t=none:=by unfold sQ;rw[if_pos (by simp[aG])]
    have m:(eA p t (dn s)).1=false:=by
     rw[Rg,if_neg (by rw[g];simp),if_pos (.inr λe=>aG e.symm)]
    rw[e,m];simp only[aqV,if_false];rw[ih];rfl
  ·have e:sQ p s t=none:=by unfold sQ;rw[if_pos (by simp[a])]
   rw[e,if_neg a];exact ih
variable {a:I}
theorem Tt{s:List aY}:∀{bE:List I}{c g:List (List aY)}{left m:Int},k2 a s bE c left=some (g,m) ->
  g=c++bE.filterMap (sQ a s)/\(c.length<=5000->g.length<=5000)
 |[],c,g,left,m,h=>by
  simp only[k2,Option.some.injEq,Prod.mk.injEq]at h;simp_all
 |t::bE,c,g,left,m,h=>by
  rw[k2]at h;rw[List.filterMap_cons];by_cases j:(t.name != a.name||decide (t.args.length≠a.args.length))=true
  ·have e:sQ a s t=none:=by unfold sQ;rw[if_pos j]
   rw[if_pos j]at h;rw[e];exact Tt h
  ·have p:sQ a s t=if(fk a t s).2=true then some (fk a t s).1 else none:=by unfold sQ;rw[if_neg j]
   rw[if_neg j]at h;rw[p];by_cases o:(decide (left-1<0)||decide ((if(fk a t s).2 then c++[(fk a t s).1]else c).length>5000))=true
   ·rw[if_pos o]at h;cases h
   ·rw[if_neg o]at h;simp only[Bool.or_eq_true,decide_eq_true_eq,not_or]at o;obtain⟨e,ae⟩:=Tt h;cases hm:(fk a t s).2 with
    |true=>grind|false=>grind
variable {A:List I}
theorem akW(m:cD 4 a true=true)(o:dM a.name=true) :∀{out c g:List (List aY)}{left j:Int},my a A out c left=some (g,j) ->
  g.map dn=c.map dn++(out.map dn).flatMap (xx A a)/\(c.length<=5000->g.length<=5000)
 |[],c,g,left,j,h=>by
  simp only[my,Option.some.injEq,Prod.mk.injEq]at h;obtain⟨rfl,_⟩:=h;simp
 |s::out,c,g,left,j,h=>by
  rw[my]at h;split at h
  ·cases h
  ·rename_i B C p;obtain⟨q,r⟩:=Tt p;obtain⟨z,en⟩:=akW m o h;refine⟨?_,λae=>en (r ae)⟩;rw[z,q,List.map_append,akV m o,aqt,List.flatMap_cons,avQ]
theorem Lo :∀{body:List Lit}{out all:List (List aY)}{left g:Int},(∀l∈body,cD 4 l.atom true=true/\dM l.atom.name=true)->js A body out left=some (all,g) ->
  all.map dn=(out.map dn).flatMap (exts A (body.filter dB))/\(out.length<=5000->all.length<=5000)
 |[],out,all,left,g,_,h=>by
  simp only[js,Option.some.injEq,Prod.mk.injEq]at h;obtain⟨rfl,_⟩:=h;refine⟨?_,id⟩;show _=(out.map dn).flatMap λσ=>[σ];rw[List.flatMap_singleton']
 |x::r,out,all,left,g,j,h=>by
  have o:=λl(m:l∈r)=>j l (aqv _ m);rw[js]at h;rw[List.filter_cons];by_cases c:(x.neg||x.atom.name==eG)=true
  ·rw[if_pos c]at h;have:dB x=false:=by rw[dB,<-Bool.not_or,c];rfl
   rw[this];exact Lo o h
  ·rw[if_neg c]at h;have p:(x.neg||x.atom.name==eG)=false:=by simpa using c
   have:dB x=true:=by rw[dB,<-Bool.not_or,p];rfl
   rw[this,if_pos rfl];split at h
   ·cases h
   ·rename_i C D m;obtain⟨q,z⟩:=akW (j x be).1 (j x be).2 m;obtain⟨B,en⟩:=Lo o h;refine⟨?_,λ_=>en (z be)⟩;rw[B,q,List.map_nil,aKc,List.flatMap_assoc];congr 1;funext σ
    rw[akT]
theorem Tu :∀{b c:List Lit}{out:List (List aY)}{left:Int}{q:List (List aY)×Int},js A (b++c) out left=some q->∃j,js A b out left=some j
 |[],_,out,left,_,_=>⟨(out,left),rfl⟩|x::b,c,out,left,q,h=>by
  rw[avO,js]at h;rw[js];split at h
  ·rename_i g;rw[if_pos g];exact Tu h
  ·rename_i g;rw[if_neg g];split at h
   ·cases h
   ·exact Tu h
theorem akX{f:I->Nat}:∀{S A:List I},S.Nodup->(∀a∈S,a∈A)->(S.map f).sum<=(A.map f).sum
 |[],A,_,_=>by simp|s::S,A,c,h=>by
  rw[List.nodup_cons]at c;obtain⟨u,v,rfl⟩:=List.append_of_mem (h s be);have:=akX (f:=f) (S:=S) (A:=u++v) c.2 λa aG=>by
   have:=h a (aqv _ aG);simp only[aqI,aqw]at this ⊢;rcases this with h|rfl|h
   ·exact .inl h
   ·exact absurd aG c.1
   ·exact .inr h
  simp only[aqt,avX,List.map_append,List.sum_append]at this ⊢;omega
theorem akY{f g:I->Nat}(h:∀a,f a<=g a):∀l:List I,(l.map f).sum<=(l.map g).sum
 |[]=>by simp|a::l=>by have:=akY h l;have:=h a;simp only[aqt,avX];omega
theorem Tv(g:S.Nodup)(h:∀a∈S,a∈A):∀(c:List Lit)(σ:Sub),(exts S c σ).length<=(exts A c σ).length
 |[],σ=>by simp[exts]|l::c,σ=>by
  rw[exts,exts,List.length_flatMap,List.length_flatMap];refine aqU (m:=((jc S l.atom.name).map λa=>(if(eA l.atom a σ).1=true then exts A c (eA l.atom a σ).2 else[]).length).sum) ?_ (akX (g.filter _) λa aG=>?_)
  ·refine akY (λa=>?_) _;by_cases hm:(eA l.atom a σ).1=true
   ·rw[if_pos hm,if_pos hm];exact Tv g h c _
   ·rw[if_neg hm,if_neg hm];exact Nat.le_refl _
  ·obtain⟨j,o⟩:=aqH.1 aG;exact aqH.2 ⟨h a j,o⟩
theorem Fu(h:∀a∈S,a∈A):∀(g:List Lit)(σ:Sub),∀j∈exts S g σ,j∈exts A g σ
 |[],σ,j,c=>c|l::g,σ,j,c=>by
  rw[exts,avY]at c ⊢;obtain⟨a,aG,c⟩:=c;obtain⟨m,o⟩:=aqH.1 aG;refine⟨a,aqH.2 ⟨h a m,o⟩,?_⟩;split at c
  ·rename_i hm;rw[if_pos hm];exact Fu h g _ j c
  ·cases c
theorem Tw(cE:gX A):∀(j:List Lit)(σ:Sub),pY σ->∀g∈exts A j σ,pY g/\∀x,eg x=true->((getM σ x).isSome=true\/∃l∈j,x∈ck l.atom)->(getM g x).isSome=true
 |[],σ,o,g,c=>by
  rw[exts,List.mem_singleton]at c;simp_all
 |l::j,σ,o,g,c=>by
  rw[exts,avY]at c;obtain⟨a,aG,c⟩:=c;split at c
  ·rename_i hm;obtain⟨q,r⟩:=Tw cE j _ (KW _ _ o (cE a (KB aG))) g c;refine⟨q,λx ah h=>r x ah ?_⟩;rcases h with h|⟨z,m,p⟩
   ·exact .inl (aiI h)
   ·rcases aqw.1 m with rfl|m
    ·exact .inl (RM _ _ _ hm x p ah)
    ·exact .inr ⟨z,m,p⟩
  ·cases c
structure rU(p:List (ak×Bool)×List I):Prop where
 k:∀s,(getM p.1 s).getD false=true↔∃a∈p.2,fy a=s
 d:∀a∈p.2,cc a<=4
theorem rU.nil:rU ([],[]):=⟨λs=>by simp[getM],λa h=>d7⟩
theorem rU.add{p:List (ak×Bool)×List I}(h:rU p)(t:I):rU (gZ p t)/\(cc t<=4->∃a∈(gZ p t).2,fy a=fy t)/\∃x,(gZ p t).2=p.2++x/\∀a∈x,a=t:=by
 unfold gZ;by_cases c:(!((getM p.1 (fy t)).getD false)&&decide (cc t<=4))=true
 ·rw[if_pos c];simp only[aqB,decide_eq_true_eq,Bool.not_eq_true']at c;refine⟨⟨λs=>?_,λa aG=>?_⟩,λ_=>⟨t,be,rfl⟩,[t],rfl,be⟩
  ·simp only[w5];by_cases ax:s=fy t
   ·grind
   ·rw[if_neg ax,h.k];constructor
    ·grind
    ·grind
  ·rcases aqI.1 aG with aG|aG
   ·exact h.d a aG
   ·grind
 ·rw[if_neg c];refine⟨h,λhd=>?_,[],be,be⟩;rw[decide_eq_true hd,Bool.and_true]at c;simp only[Bool.not_eq_true',Bool.not_eq_false]at c;exact(h.k _).1 c
theorem rU.Tx:∀(l:List I){p:List (ak×Bool)×List I},rU p->rU (l.foldl gZ p)/\(∀t∈l,cc t<=4->∃a∈(l.foldl gZ p).2,fy a=fy t)/\∃x,(l.foldl gZ p).2=p.2++x/\∀a∈x,a∈l
 |[],p,h=>⟨h,be,[],be,be⟩|t::l,p,h=>by
  obtain⟨c,o,x,g,q⟩:=h.add t;obtain⟨j,r,y,m,z⟩:=rU.Tx l c;refine⟨j,λu B hd=>?_,x++y,by rw[aLY,m,g,avQ],λa aG=>?_⟩
  ·grind
  ·grind
theorem akZ :∀{l:List aU}{more c:List I}{left g:Int},rS S l more left=some (c,g)->(∀t∈more,t∈c) /\
  (∀r∈l,∃j all m,js S r.body [[]] j=some (all,m)/\∀s∈all,∀h,hv r.head s=some h->h∈c)/\(∀t∈c,t∈more\/∃r∈l,∃j all m,js S r.body [[]] j=some (all,m)/\∃s∈all,hv r.head s=some t)
 |[],more,c,left,g,h=>by
  simp only[rS,Option.some.injEq,Prod.mk.injEq]at h;obtain⟨rfl,_⟩:=h;exact⟨λ_ h=>h,be,λt h=>.inl h⟩
 |r::l,more,c,left,g,h=>by
  rw[rS]at h;split at h
  ·cases h
  ·rename_i all z B;obtain⟨p,C,D⟩:=akZ h;refine⟨λt o=>p t (aPY _ o),λq E=>?_,λt o=>?_⟩
   ·grind
   ·grind
theorem TA(cE:gX A){r:aU}(q:RV1 r){left F:Int}{all:List (List aY)}(h:js A r.body [[]] left=some (all,F)) :
  (∀s∈all,∀t,hv r.head s=some t->cD 8 t false=true)/\(∀g∈exts A (r.body.filter dB) [],∃s∈all,hv r.head s=some (eD g r.head))/\∀b c,r.body=b++c->(exts A (b.filter dB) []).length<=5000:=by
 have ae:∀l∈r.body,cD 4 l.atom true=true/\dM l.atom.name=true:=λl z=>q.a _ (by simp only[dx,aqw,aqE];exact .inr ⟨l,z,rfl⟩);have o:=(q.a r.head (by simp[dx])).1;obtain⟨e,b⟩:=Lo ae h;have B:all.map dn=exts A (r.body.filter dB) []:=by rw[e];simp[dn]
 have ah:=Tw cE (r.body.filter dB) [] (λ_ h=>d7);have D:∀g∈exts A (r.body.filter dB) [],∀x∈ck r.head,eg x=true->(getM g x).isSome=true:=λg j x C p=>(ah g j).2 x p (.inr (q.safe C p));refine⟨λs ax t j=>?_,λg j=>?_,λG Q m=>by
  obtain⟨⟨J,R⟩,L⟩:=Tu (by rw[m]at h;exact h);obtain⟨O,en⟩:=Lo (λl z=>ae l (by rw[m];simp[z])) L;rw[show exts A (G.filter dB) []=J.map dn by rw[O];simp[dn],aPR];exact en be⟩
 ·have hm:dn s∈exts A (r.body.filter dB) []:=by rw[<-B];exact aqE.2 ⟨s,ax,rfl⟩
  rw[<-Tr 4 _ _ _ o j];exact Di (n:=4) (ah _ hm).1 o λ_ x C p=>D _ hm x C p
 ·rw[<-B]at j;obtain⟨s,ax,rfl⟩:=aqE.1 j;obtain⟨u,E⟩:=Option.isSome_iff_exists.1 (akQ 4 r.head s o (D _ (by rw[<-B];omega)));exact⟨s,ax,by rw[E,Tr 4 _ _ _ o E]⟩
structure sR(l:List aU)(A:List I):Prop where
 n:A.length<=1000
 v:gX A
 c:∀r∈l,∀iM∈exts A (r.body.filter dB) [],cc (eD iM r.head)<=4->eD iM r.head∈A
 p:∀r∈l,∀b c,r.body=b++c->(exts A (b.filter dB) []).length<=5000
theorem aJY(h:cD 4 t false=true)(c:kP t=some u):cD 4 u false=true:=by
 have key:∀n:ak,dM n=true->t.args.length≠0->cD 4 (.mk n t.args) false=true:=λn m j=>by
  rw[xb]at h ⊢;rw[if_neg j]at h;rw[if_neg (by simpa[I.args]using j)];simp only[aqB,I.args,I.name]at h ⊢;exact⟨h.1,h.2.1,m⟩
 unfold kP at c;split at c
 ·rename_i g;simp only[aqB,decide_eq_true_eq]at g;cases c;exact key _ dw am
 ·split at c
  ·rename_i g;simp only[aqB,decide_eq_true_eq]at g;cases c;exact key _ dw am
  ·cases c
theorem ak1{l:List aU}(z:∀r∈l,RV1 r):∀(f:Nat)(p:List (ak×Bool)×List I)(n left:Int),rU p->gX p.2->(n>=p.2.length->p.2.length<=1000->sR l p.2)->y8 l f p n left=some true->∃A,sR l A/\∀a∈p.2,a∈A
 |0,p,n,left,_,_,_,h=>by cases h|f+1,p,n,left,gq,c,W,h=>by
  rw[y8]at h;split at h
  ·rename_i J;simp only[aqB,decide_eq_true_eq]at J;split at h
   ·cases h
   ·rename_i more X hm;split at h
    ·cases h
    ·obtain⟨Y,C,L⟩:=akZ hm;have o:∀t∈more++p.2.filterMap kP,cD 8 t false=true:=λt g=>by
      rcases aqI.1 g with g|g
      ·rcases L t g with h|⟨r,j,_,all,_,q,s,ax,e⟩
       ·cases h
       ·exact(TA c (z r j) q).1 s ax t e
      ·obtain⟨u,O,e⟩:=List.mem_filterMap.1 g;exact yV (aJY (c u O) e) am
     obtain⟨D,Q,x,m,R⟩:=rU.Tx (more++p.2.filterMap kP) gq;have B:gX ((more++p.2.filterMap kP).foldl gZ p).2:=λa aG=>by
      have hd:=D.d a aG;rw[m]at aG;rcases aqI.1 aG with aG|aG
      ·exact c a aG
      ·exact RJ (o a (R a aG)) hd
     obtain⟨A,cE,ax⟩:=ak1 z f _ _ _ D B (λT E=>by
      have ah:x=[]:=by
       rw[m,aqT]at T;exact aPU.1 am
      rw[ah,List.append_nil]at m;rw[m]at E ⊢;refine⟨E,c,λr j V g hd=>?_,λr j=>?_⟩
      ·obtain⟨_,all,_,q,F⟩:=C r j;obtain⟨s,ax,e⟩:=(TA c (z r j) q).2.1 V g;have G:=aPY (p.2.filterMap kP) (F s ax _ e);obtain⟨a,aG,hk⟩:=Q _ G hd;rw[m]at aG;rw[<-akS (ua (c a aG)) (ua (o _ G)) hk];exact aG
      ·obtain⟨_,all,_,q,F⟩:=C r j;exact(TA c (z r j) q).2.2) h
     exact⟨A,cE,λa aG=>ax a (by rw[m];exact aPY _ aG)⟩
  ·grind
theorem aJ0{l:List aU}{g:List I}(o:∀r∈l,RV1 r)(c:∀a∈g,cD 4 a false=true)(h:kb l g=some true):∃A,sR l A/\∀a∈g,a∈A:=by
 unfold kb at h;split at h
 ·cases h
 ·obtain⟨p,q,x,j,z⟩:=rU.Tx g rU.nil;simp only[aKc]at j;have m:gX (g.foldl gZ ([],[])).2:=λa aG=>c a (z a (by rw[<-j];exact aG));obtain⟨A,cE,ax⟩:=ak1 o _ _ _ _ p m (λB _=>am) h;refine⟨A,cE,λa aG=>ax a ?_⟩;obtain⟨b,ae,e⟩:=q a aG (GH (c a aG));rw[<-akS (ua (m b ae)) (ua (c a aG)) e];exact ae
mutual
def fH(k:Nat):I->Prop|.mk n l=>n.length<=1048576/\l.length<=k/\G9 k l
def G9(k:Nat):List I->Prop|[]=>True|t::r=>fH k t/\G9 k r
end
theorem DI :∀{l:List I},G9 k l↔∀t∈l,fH k t
 |[]=>by simp[G9]|t::r=>by simp only[G9,DI (l:=r),aqw,forall_eq_or_imp]
theorem Ha :fH k t↔t.name.length<=1048576/\t.args.length<=k/\∀u∈t.args,fH k u:=by
 obtain⟨n,l⟩:=t;simp only[fH,DI,I.name,I.args]
def DJ(r:aU):Prop:=fH 1048576 r.head/\∀x∈r.body,fH 1048576 x.atom
structure Lp(P:Program)(T L S B X A9 R DK:TypeId):Prop where
 Lq:Jd P T L S
 bA:∃f0 f1:Field,P.underlying X=some (.struct #[f0,f1])/\f0.type=B/\f0.offset=0/\f1.type=T/\f1.offset=1
 aJ1:P.underlying A9=some (.slice X)
 de:∃f0 f1:Field,P.underlying R=some (.struct #[f0,f1])/\f0.type=T/\f0.offset=0/\f1.type=A9/\f1.offset=2
 aJ2:P.underlying DK=some (.slice R)
 fN:P.underlying B=some .bool
 Lr:P.cellsOf B=1
 ak3:P.cellsOf X=3
 aJ3:P.cellsOf A9=1
 Hb:P.cellsOf R=3
section
variable {H:Type}{enc:TypeId×Value->H}{P:Program}{w:World}{base:Nat}{spare:Nat->Bool}{held:Bool}{γ:fA}{kz:DataW H->Nat}
theorem fX.cat{a b:List AV}{x y:List Value}(c:fX γ a x)(g:fX γ b y):fX γ (a++b) (x++y):=by
 cases c with
 |nil=>exact g
 |cons c cs v ws p q r=>exact .cons _ _ _ _ p q (fX.cat r g)
variable {z:Nat}
theorem ak4{f:α->List AV}{b:Nat}:∀(n off:Nat){Q:α->Prop},(∀i,i<n->∃x:α,(f x).length=z/\fB γ b (off+i*z) (f x)/\Q x)->∃xs:List α,xs.length=n/\fa γ b off z (xs.map λx=>.agg (f x))/\∀x∈xs,Q x
 |0,_,_,_=>⟨[],rfl,.nil _ _ _,λ_ h=>d7⟩|n+1,off,Q,h=>by
  obtain⟨t,c,g,o⟩:=h 0 am;obtain⟨bE,j,m,p⟩:=ak4 n (off+z) (Q:=Q) λi al=>by
   have:=h (i+1) am;rwa[show off+(i+1)*z=off+z+i*z by rw[Nat.add_mul];omega]at this
  refine⟨t::bE,by simp[j],?_,λx ah=>?_⟩
  ·rw[aqt];exact .cons _ _ _ _ _ c (by simpa[AV.cells]using g) m
  ·grind
variable {d:DataW H}{ps:List MemPlace}
theorem Ls(f:α->List AV)(Q:α->Prop){E L:TypeId}(hk:k<=M)(ae:Ac kz)(cf:P.underlying L=some (.slice E))(G:P.cellsOf E=z+1)(J:∀b o v,w.cell? ⟨b,o,none⟩=some v->γ b o=some v) 
  (ih:∀cs d ps,DataW.trod enc P w base spare held n E cs=some (d,ps)->kz d<=k->∃x:α,fX γ (f x) cs/\Q x){cs:List Value}(h:DataW.trod enc P w base spare held (n+1) L cs=some (d,ps))(hd:kz d<=k) :
  ∃(xs:List α)(v:Value),cs=[v]/\dr γ (.list none (z+1) (xs.map λx=>.agg (f x))) v/\xs.length<=k/\∀x∈xs,Q x:=by
 rcases DataW.trod_slice cf h with⟨rfl,ah⟩|⟨a,len,cap,elems,q,m,hm,rfl,ah,Z,dX,tk,F,O,_⟩
 ·exact⟨[],_,rfl,.kn _ _ _ be,Nat.zero_le _,λ_ h=>d7⟩
 ·simp at hm;subst hm;simp only[Prod.mk.injEq]at ah;obtain⟨rfl,_⟩:=ah;have tV:len<=k:=by have:=ae.len (elems.map (·.1)) (q.map (·.1));simp at this;omega
  by_cases R:len=0
  ·subst R;exact⟨[],_,rfl,.kn _ _ _ be,Nat.zero_le _,λ_ h=>d7⟩
  ·have g:∀i,i<len->∃c x,fX γ (f x) c/\Q x/\c.length=z+1/\∀k v,c[k]?=some v->w.cell? ((a.add (i*(z+1))).add k)=some v:=λi al=>by
    have j:=O i al;rw[avR am,Option.bind_eq_some_iff]at j;obtain⟨c,p,r⟩:=j;rw[G]at p;obtain⟨t,T,D⟩:=ih c _ _ (by rw[r]) (aqU (ae.slice _ _ _ (aqE.2 ⟨elems[i],List.getElem_mem _,rfl⟩)) hd);obtain⟨V,W⟩:=asR p;exact⟨c,t,T,D,V,W⟩
   have B:a.spot=none:=by
    obtain⟨c,t,_,_,j,p⟩:=g 0 am;have r:=asS (p 0 _ (avR am));simpa[Addr.add]using r
   obtain⟨tz,C,sp⟩:=a;simp only at B;subst B;obtain⟨bE,j,p,r⟩:=ak4 (γ:=γ) (f:=f) (b:=tz) (z:=z+1) len C (Q:=Q) λi al=>by
    obtain⟨c,t,j,D,X,p⟩:=g i al;refine⟨t,by rw[<-j.len,X],Xk j λk v Y=>J _ _ _ ?_,D⟩;have:=p k v Y;rwa[n0,n0]at this
   refine⟨bE,_,rfl,?_,am,r⟩;have:=dr.list (γ:=γ) tz C cap (z+1) (bE.map λx=>.agg (f x)) dl dl p;rw[aPR,j]at this;exact this
variable {T L S B X A9 R DK:TypeId}
theorem ak7{s:Nat}{l:List AV}{v:Value}(h:dr γ (.list none s l) v):v.oneCell'=true:=by cases h<;>rfl
theorem Lt(ae:Ac kz)(qv:Jd P T L S)(p:∀b o v,w.cell? ⟨b,o,none⟩=some v->γ b o=some v):∀(n:Nat)(cs:List Value)(d:DataW H)(ps:List MemPlace),
  DataW.trod enc P w base spare held n T cs=some (d,ps)->kz d<=1048576->∃t:I,fX γ t.cells cs/\fH 1048576 t
 |0,cs,d,ps,h,_=>by simp[DataW.trod]at h|n+1,cs,d,ps,h,hd=>by
  have Z:M=1099511627776:=rfl;obtain⟨D,E,ej,F,G,J,O⟩:=qv.ej;obtain⟨xs,m,hm,ah,q,Q,r⟩:=DataW.trod_struct ej h;simp at hm;subst hm;rw[qv.Fm]at q
  match cs,q,xs,Q with
  |[j3,c1],_,[aM,x1],_ =>
   have j:=r 0 D rfl;have g:=r 1 E rfl;rw[F,G,qv.OM]at j;rw[J,O,qv.asQ]at g;simp only[aL0,aPT,List.take_zero,aLZ,aPZ,aP0]at j g;simp only[Prod.mk.injEq]at ah;obtain⟨rfl,_⟩:=ah;obtain⟨s,ax,rfl,_⟩:=DataW.trod_string qv.ds j;have V:kz x1.1<=1048576:=aqU (ae.agg _ _ be) hd;have W:∃(xs:List I)(v:Value),[c1]=[v]/\dr γ (.list none 2 (xs.map λx:I=>.agg x.cells)) v/\xs.length<=1048576/\∀x∈xs,fH 1048576 x:=by
    cases n with
    |zero=>simp[DataW.trod]at g|succ n=>exact Ls (z:=1) I.cells (fH 1048576) am ae qv.cf qv.Fm p (λcs d ps h hd=>Lt ae qv p n cs d ps h hd) g V
   obtain⟨bE,v,C,ar,c,Y⟩:=W;simp only[List.cons.injEq,and_true]at ax C;subst ax C;have c:s.data.toList.length<=1048576:=aqU (ae.str _) (aqU (ae.agg [.lit (.string s.data.toList),x1.1] _ be) hd);refine⟨.mk s.data.toList bE,?_,Ha.2 ⟨c,mt,Y⟩⟩;simp only[I.cells,I.name,I.args];have e:dH bE=bE.map λx:I=>.agg x.cells:=by rw[oj];exact avS λt _=>t.yl
   rw[e];refine .cons _ _ _ _ rfl ?_ (.cons _ _ _ _ (ak7 ar) ar .nil);have:=dr.str (γ:=γ) s.data.toList am;simpa using this
theorem aJ4(ae:Ac kz)(qv:Jd P T L S)(c:∀b o v,w.cell? ⟨b,o,none⟩=some v->γ b o=some v){cs:List Value} 
  (h:DataW.trod enc P w base spare held n L cs=some (d,ps))(hd:kz d<=1048576):∃(bE:List I)(v:Value),cs=[v]/\dr γ (Enc.enc bE) v/\bE.length<=1048576/\∀t∈bE,fH 1048576 t:=by
 have p:M=1099511627776:=rfl;cases n with
 |zero=>simp[DataW.trod]at h|succ n =>
  obtain⟨bE,v,j,g,m⟩:=Ls (z:=1) I.cells (fH 1048576) am ae qv.cf qv.Fm c (λcs d ps h hd=>Lt ae qv c n cs d ps h hd) h hd;refine⟨bE,v,j,?_,m⟩;have e:(bE.map λx:I=>AV.agg x.cells)=bE.map I.enc:=avS λt _=>t.yl.symm;rw[e]at g;exact g
def Lit.cs(x:Lit):List AV:=.bool x.neg::x.atom.cells
theorem aJ5(ae:Ac kz)(c:Lp P T L S B X A9 R DK)(C:∀b o v,w.cell? ⟨b,o,none⟩=some v->γ b o=some v){cs:List Value} 
  (h:DataW.trod enc P w base spare held n X cs=some (d,ps))(hd:kz d<=1048576):∃x:Lit,fX γ x.cs cs/\fH 1048576 x.atom:=by
 cases n with
 |zero=>simp[DataW.trod]at h|succ n =>
  obtain⟨D,E,bA,F,G,J,O⟩:=c.bA;obtain⟨xs,m,hm,ah,p,Q,q⟩:=DataW.trod_struct bA h;simp at hm;subst hm;rw[c.ak3]at p
  match cs,p,xs,Q with
  |[Y,c1,c2],_,[Z,x1],_ =>
   have g:=q 0 D rfl;have j:=q 1 E rfl;rw[F,G,c.Lr]at g;rw[J,O,c.Lq.Fm]at j;simp only[aL0,aPT,List.take_zero,aLZ,aPZ,aP0]at g j;simp only[Prod.mk.injEq]at ah;obtain⟨rfl,_⟩:=ah;obtain⟨b,r,z2⟩:=DataW.trod_bool c.fN g;simp only[List.cons.injEq,and_true]at r;subst r;obtain⟨t,V,W⟩:=Lt ae c.Lq C n _ _ _ j (aqU (ae.agg _ _ be) hd);exact⟨⟨b,t⟩,.cons _ _ _ _ rfl (.bool b) V,W⟩
def aU.cs(r:aU):List AV:=r.head.cells++[.list none 3 (r.body.map λx=>.agg x.cs)]
theorem aJ6(ae:Ac kz)(c:Lp P T L S B X A9 R DK)(j:∀b o v,w.cell? ⟨b,o,none⟩=some v->γ b o=some v){cs:List Value} 
  (h:DataW.trod enc P w base spare held n R cs=some (d,ps))(hd:kz d<=1048576):∃r:aU,fX γ r.cs cs/\DJ r:=by
 have bw:M=1099511627776:=rfl;cases n with
 |zero=>simp[DataW.trod]at h|succ n =>
  obtain⟨E,F,de,G,J,O,Q⟩:=c.de;obtain⟨xs,m,hm,ah,q,V,C⟩:=DataW.trod_struct de h;simp at hm;subst hm;rw[c.Hb]at q
  match cs,q,xs,V with
  |[j3,c1,c2],_,[aM,x1],_ =>
   have p:=C 0 E rfl;have g:=C 1 F rfl;rw[G,J,c.Lq.Fm]at p;rw[O,Q,c.aJ3]at g;simp only[aL0,aPT,List.take_zero,aLZ,aPZ,aP0]at p g;simp only[Prod.mk.injEq]at ah;obtain⟨rfl,_⟩:=ah;obtain⟨t,W,Y⟩:=Lt ae c.Lq j n _ _ _ p (aqU (ae.agg _ _ be) hd);have Z:kz x1.1<=1048576:=aqU (ae.agg _ _ be) hd;have TB:∃(xs:List Lit)(v:Value),[c2]=[v]/\dr γ (.list none 3 (xs.map λx:Lit=>.agg x.cs)) v/\xs.length<=1048576/\∀x∈xs,fH 1048576 x.atom:=by
    cases n with
    |zero=>simp[DataW.trod]at g|succ n=>exact Ls (z:=2) Lit.cs (λx=>fH 1048576 x.atom) am ae c.aJ1 c.ak3 j (λcs d ps h hd=>aJ5 ae c j h hd) g Z
   obtain⟨ls,v,D,ar,_,uN⟩:=TB;simp only[List.cons.injEq,and_true]at D;subst D;exact⟨⟨t,ls⟩,fX.cat W (.cons _ _ _ _ (ak7 ar) ar .nil),Y,uN⟩
theorem aJ7(ae:Ac kz)(c:Lp P T L S B X A9 R DK)(g:∀b o v,w.cell? ⟨b,o,none⟩=some v->γ b o=some v){cs:List Value} 
  (h:DataW.trod enc P w base spare held n DK cs=some (d,ps))(hd:kz d<=1048576):∃(rs:List aU)(v:Value),cs=[v]/\dr γ (Enc.enc rs) v/\rs.length<=1048576/\∀r∈rs,DJ r:=by
 have D:M=1099511627776:=rfl;cases n with
 |zero=>simp[DataW.trod]at h|succ n =>
  obtain⟨bE,v,p,j,q⟩:=Ls (z:=2) aU.cs DJ am ae c.aJ2 c.Hb g (λcs d ps h hd=>aJ6 ae c g h hd) h hd;refine⟨bE,v,p,?_,q⟩;have m:∀t:I,t.cells=[.str t.name,.list none 2 (t.args.map I.enc)]:=λt=>by rw[I.cells,oj]
  have C:∀x:Lit,AV.agg x.cs=x.enc:=λx=>by rw[Lit.cs,m];rfl
  have e:(bE.map λx:aU=>AV.agg x.cs)=bE.map aU.enc:=avS λt _=>by
   rw[aU.cs,m,avS λx _=>C x];rfl
  rw[e]at j;exact j
end
mutual
def jt:I->Nat|.mk _ l=>1+oE l
def oE:List I->Nat|[]=>0|t::r=>jt t+oE r
end
theorem TC:∀{l:List I}{t:I},t∈l->jt t<=oE l
 |u::l,t,h=>by
  simp only[oE];rcases aqw.1 h with rfl|h
  ·omega
  ·have:=TC h;omega
theorem DL(t:I):1<=jt t:=by cases t;simp only[jt];omega
theorem ak8:∀l:List I,l.length<=oE l
 |[]=>by simp|t::r=>by have:=ak8 r;have:=DL t;simp only[aqx,oE];omega
theorem TD :∀(n:Nat)(t:I),jt t<=n->n<=60->fH k t->fH 59 t
 |0,t,h,_,_=>by have:=DL t;omega|n+1,.mk g l,h,j,aE=>by
  simp only[jt]at h;simp only[fH,DI]at aE ⊢;have:=ak8 l;exact⟨aE.1,am,λu c=>TD n u (by have:=TC c;omega) am (aE.2.2 u c)⟩
theorem Lu:∀(n:Nat)(t:I),jt t<=n->cc t<=n
 |0,t,h=>by have:=DL t;omega|n+1,.mk g l,h=>by
  simp only[jt]at h;have key:∀l:List I,oE l<=n->ja l<=n:=λl=>by
   induction l with
   |nil=>intro _;simp[ja]|cons u r ih =>
    intro c;simp only[oE]at c;have j:=Lu n u am;have m:=ih am;simp only[ja];omega
  have:=key l am;simp only[cc];omega
theorem TE(h:cc t<=d+1):∀u∈t.args,cc u<=d:=λu c=>by
 have:=Av c;rw[u4]at h;omega
variable {m:Int}
theorem ak9{f:I->Int} :∀(l:List I)(n:Int),(∀t∈l,1<=f t)->ki f m l n<=m->n+(l.map f).sum=ki f m l n
 |[],n,_,_=>by simp[ki]|t::r,n,h,hm=>by
  have j:=h t be;by_cases c:n>m
  ·simp only[ki,if_pos c]at hm;omega
  ·simp only[ki,if_neg c]at hm ⊢;have:=ak9 r (n+f t) (λu g=>h u (aqv _ g)) hm;simp only[aqt,avX];omega
theorem ala(hm:0<=m/\m<=1000):∀(d:Nat)(t:I),j6 m d t<=m->(jt t:Int)<=j6 m d t
 |0,t,h=>by
  simp only[j6]at h;omega
 |d+1,.mk p l,h=>by
  rw[ahl]at h ⊢;simp only[I.args]at h ⊢;have ae:=λu(c:u∈l)=>(Kl hm d u).1;have ax:=ak9 l 1 ae h;have j:=QT l 1 ae am h;have key:∀l:List I,(∀u∈l,(jt u:Int)<=j6 m d u)->(oE l:Int)<=(l.map (j6 m d)).sum:=λl=>by
   induction l with
   |nil=>intro _;simp[oE]|cons u r ih =>
    intro g;have q:=g u be;have z:=ih λw o=>g w (aqv _ o);simp only[oE,aqt,avX];omega
  have B:=key l λu c=>ala hm d u (j.2 u c);simp only[jt];omega
theorem TF{m:Nat}(hm:m<=1000)(h:lM m t=true):jt t<=m:=by
 simp only[lM,decide_eq_true_eq]at h;have:=ala (m:=m) ⟨am,am⟩ _ t h;omega
def pn:Nat->Nat|0=>0|d+1=>1048579+59*pn d
theorem TG:∀(d:Nat)(t:I),fH 59 t->cc t<=d->(fy t).length+1<=pn d
 |0,t,_,h=>by rw[u4]at h;omega|d+1,.mk q l,aE,h=>by
  have hd:=TE h;simp only[fH,DI]at aE;have key:∀l:List I,(∀u∈l,(fy u).length+1<=pn d)->(iA l).length<=l.length*pn d:=λl=>by
   induction l with
   |nil=>intro _;simp[iA]|cons u r ih =>
    intro c;have o:=c u be;have g:=ih λw p=>c w (aqv _ p);simp only[iA,aqT,aqx,avT,Nat.add_mul,Nat.one_mul]at g ⊢;omega
  have o:=key l λu j=>TG d u (aE.2.2 u j) (hd u j);have g:l.length*pn d<=59*pn d:=aP1 _ aE.2.1;simp only[fy,pn,aqT,aqx,avT];omega
theorem aJ8:pn 4<=M/\pn 3=3713018239:=by
 have:M=1099511627776:=rfl;rw[this];decide
theorem alb :∀(n:Nat)(t:I),fH k t->jt t<=n->(fy t).length+1<=jt t*1048579
 |0,t,_,h=>by have:=DL t;omega|n+1,.mk q l,aE,h=>by
  simp only[fH,DI]at aE;simp only[jt]at h ⊢;have key:∀l:List I,(∀u∈l,(fy u).length+1<=jt u*1048579)->(iA l).length<=oE l*1048579:=λl=>by
   induction l with
   |nil=>intro _;simp[iA]|cons u r ih =>
    intro c;have j:=c u be;have o:=ih λw p=>c w (aqv _ p);simp only[iA,oE,aqT,aqx,avT]at o ⊢;omega
  have j:=key l λu g=>alb n u (aE.2.2 u g) (by have:=TC g;omega);simp only[fy,aqT,aqx,avT];omega
theorem TH(c:(fy t).length<=1000000000000)(g:cc t<=1000000):qX t=true:=by
 have:M=1099511627776:=rfl;simp only[qX,aqB,decide_eq_true_eq];omega
def nj(s:List aY):Prop:=∀b∈s,fH 59 b.term/\cc b.term<=3
variable {s:List aY}
theorem aJ9{n:ak}(h:jr s n=some u):∃b∈s,b.term=u:=by
 unfold jr at h;rw[aP2]at h;obtain⟨b,c,g⟩:=h;exact⟨b,List.mem_of_find?_eq_some c,g⟩
theorem TI:∀(p t:I)(s:List aY),fH 59 t->cc t<=3->nj s->nj (fk p t s).1
 |.mk o l,t,s,aE,hd,ax=>by
  rw[fk];split
  ·split
   ·exact ax
   ·intro b ae;rw[aqI]at ae;rcases ae with ae|ae
    ·exact ax b ae
    ·grind
  ·split
   ·intro b ae;cases ae
   ·have key:∀(l m:List I)(s:List aY),(∀p∈l,∀(t:I)(s:List aY),fH 59 t->cc t<=3->nj s->nj (fk p t s).1)->(∀u∈m,fH 59 u/\cc u<=3)->nj s->nj (j9 l m s).1:=λl=>by
     induction l with
     |nil=>intro m s _ _ h;rw[j9];exact h;all_goals simp|cons x r ih =>
      intro m s g hm h;cases m with
      |nil=>rw[j9];exact h|cons y q =>
       have j:=g x be y s (hm y be).1 (hm y be).2 h;rw[j9];split
       ·simp_all
       ·exact j
    refine key l t.args s (λp ar t s=>TI p t s) (λu c=>⟨(Ha.1 aE).2.2 u c,?_⟩) ax;have:=TE (d:=2) hd u c;omega
theorem aKa(p t:I)(s:List aY)(o:t.args.length=p.args.length)(aE:fH 59 t)(hd:cc t<=4)(ax:nj s):nj (fk p t s).1:=by
 obtain⟨c,l⟩:=p;by_cases g:l.length=0
 ·refine TI (.mk c l) t s aE ?_ ax;rw[u4,aPU.1 (o.trans g)];simp[ja]
 ·have z:mx (.mk c l)=false:=by(unfold mx;rw[show(I.mk c l).args.length=l.length from rfl,decide_eq_false g];rfl)
  rw[fk,z,if_neg be];split
  ·intro b ae;cases ae
  ·have key:∀(l m:List I)(s:List aY),(∀u∈m,fH 59 u/\cc u<=3)->nj s->nj (j9 l m s).1:=λl=>by
    induction l with
    |nil=>simp[j9]|cons x r ih =>
     intro m s hm h;cases m with
     |nil=>rw[j9];exact h|cons y q =>
      have B:=TI x y s (hm y be).1 (hm y be).2 h;rw[j9];split
      ·grind
      ·exact B
   exact key l t.args s (λu j=>⟨(Ha.1 aE).2.2 u j,TE (d:=3) hd u j⟩) ax
def Ba(A:List I):Prop:=∀a∈A,fH 59 a/\cc a<=4
theorem TJ(a:I)(s:List aY)(ax:nj s):∀(l:List I)(c:List (List aY))(left:Int)(q:List (List aY)×Int),Ba l->(∀s∈c,nj s)->k2 a s l c left=some q->∀s∈q.1,nj s
 |[],c,left,q,_,j,h=>by
  simp only[k2,Option.some.injEq]at h;subst h;exact j
 |t::bE,c,left,q,cE,j,h=>by
  rw[k2]at h;split at h
  ·exact TJ a s ax bE c left q (λu g=>cE u (aqv _ g)) j h
  ·rename_i r;by_cases o:(decide (left-1<0)||decide ((if(fk a t s).2 then c++[(fk a t s).1]else c).length>5000))=true
   ·rw[if_pos o]at h;cases h
   ·rw[if_neg o]at h;refine TJ a s ax bE _ _ q (λu g=>cE u (aqv _ g)) ?_ h;have p:t.args.length=a.args.length:=by grind
    have z:=aKa a t s p (cE t be).1 (cE t be).2 ax;intro u g;split at g
    ·grind
    ·exact j u g
theorem alc(a:I)(A:List I)(cE:Ba A):∀(l c:List (List aY))(left:Int)(q:List (List aY)×Int),(∀s∈l,nj s)->(∀s∈c,nj s)->my a A l c left=some q->∀s∈q.1,nj s
 |[],c,left,q,_,g,h=>by
  simp only[my,Option.some.injEq]at h;subst h;exact g
 |s::r,c,left,q,j,g,h=>by
  rw[my]at h;split at h
  ·cases h
  ·rename_i o p he;exact alc a A cE r o p q (λu z=>j u (aqv _ z)) (TJ a s (j s be) A c left _ cE g he) h
theorem TK(A:List I)(cE:Ba A):∀(body:List Lit)(out:List (List aY))(left:Int)(q:List (List aY)×Int),(∀s∈out,nj s)->js A body out left=some q->∀s∈q.1,nj s
 |[],out,left,q,aE,h=>by
  simp only[js,Option.some.injEq]at h;subst h;exact aE
 |x::r,out,left,q,aE,h=>by
  rw[js]at h;split at h
  ·exact TK A cE r out left q aE h
  ·split at h
   ·cases h
   ·rename_i c g he;exact TK A cE r c g q (alc x.atom A cE out [] left _ aE (λ_ h=>d7) he) h
theorem ald(ax:nj s):∀(n:Nat)(h u:I),jt h<=n->fH 59 h->hv h s=some u->fH 59 u/\(fy u).length+1<=jt h*(1048579+pn 3)/\cc u<=n+3
 |0,h,u,c,_,_=>by have:=DL h;omega|n+1,.mk o l,u,c,aE,al=>by
  rw[hv]at al;split at al
  ·obtain⟨b,ae,rfl⟩:=aJ9 al;obtain⟨g,p⟩:=ax b ae;refine⟨g,?_,am⟩;have G:=TG 3 b.term g p;have J:1*(1048579+pn 3)<=jt (.mk o l)*(1048579+pn 3):=aP1 _ (DL _);omega
  ·rw[aP2]at al;obtain⟨m,hm,rfl⟩:=al;simp only[fH,DI]at aE ⊢;simp only[jt]at c ⊢;have key:∀(l m:List I),oE l<=n->(∀u∈l,fH 59 u)->kN l s=some m->(∀u∈m,fH 59 u)/\(iA m).length<=oE l*(1048579+pn 3)/\ja m<=n+3:=λl=>by
    induction l with
    |nil=>intro m _ _ h;simp only[kN,Option.some.injEq]at h;subst h;simp[iA,ja]|cons x r ih =>
     intro m z aE h;simp only[oE]at z;rw[kN]at h;split at h
     ·cases h
     ·rename_i y B;rw[aP2]at h;obtain⟨q,C,rfl⟩:=h;obtain⟨L,D,a3⟩:=ald ax n x y am (aE x be) B;obtain⟨O,en,lD⟩:=ih q am (λu j=>aE u (aqv _ j)) C;refine⟨λu j=>?_,?_,?_⟩
      ·grind
      ·simp only[iA,oE,aqT,aqx,avT,Nat.add_mul]at D en ⊢;omega
      ·simp only[ja];omega
   obtain⟨E,F,Q⟩:=key l m am aE.2.2 hm;refine⟨⟨aE.1,by rw[akm hm];exact aE.2.1,E⟩,?_,by simp only[cc];omega⟩;simp only[fy,aqT,aqx,avT,Nat.add_mul]at F ⊢;omega
theorem ale(ds:Ba S):∀(l:List aU)(more:List I)(left:Int)(q:List I×Int),(∀r∈l,fH 59 r.head/\jt r.head<=20)->(∀t∈more,fH 59 t/\qX t=true)->rS S l more left=some q->∀t∈q.1,fH 59 t/\qX t=true
 |[],more,left,q,_,hm,h=>by
  simp only[rS,Option.some.injEq]at h;subst h;exact hm
 |r::l,more,left,q,g,hm,h=>by
  rw[rS]at h;split at h
  ·cases h
  ·rename_i all o he;refine ale ds l _ o q (λr p=>g r (aqv _ p)) ?_ h;intro t c;rw[aqI]at c;rcases c with c|c
   ·exact hm t c
   ·obtain⟨s,ax,al⟩:=List.mem_filterMap.1 c;obtain⟨z,j⟩:=g r be;obtain⟨B,C,a3⟩:=ald (TK S ds r.body [[]] left _ (λs ax=>by rw[List.mem_singleton]at ax;subst ax;intro b ae;cases ae) he s ax) 20 _ _ j z al;have D:jt r.head*(1048579+pn 3)<=20*(1048579+pn 3):=aP1 _ j;rw[aJ8.2]at C D;exact⟨B,TH am am⟩
theorem aKb(h:fH 59 t/\cc t<=4)(c:kP t=some u):fH 59 u/\qX u=true:=by
 have key:∀n:ak,n.length<=4->fH 59 (.mk n t.args)/\qX (.mk n t.args)=true:=λn o=>by
  have g:fH 59 (.mk n t.args):=Ha.2 ⟨by simp only[I.name];omega,(Ha.1 h.1).2⟩;have j:cc (.mk n t.args)<=4:=by have:=h.2;rw[u4]at this ⊢;exact this
  have p:=TG 4 _ g j;have q:pn 4=219069124680:=by decide
  exact⟨g,TH am am⟩
 unfold kP at c;split at c
 ·cases c;exact key _ dw
 ·grind
theorem TL:∀(l:List I)(p:List (ak×Bool)×List I),(∀t∈l,fH 59 t)->Ba p.2->Ba (l.foldl gZ p).2
 |[],p,_,h=>h|t::l,p,c,h=>by
  rw[aLY];refine TL l _ (λu j=>c u (aqv _ j)) ?_;unfold gZ;split
  ·rename_i g;simp only[aqB,decide_eq_true_eq]at g;intro a aG;simp only[aqI,List.mem_singleton]at aG;rcases aG with aG|rfl
   ·exact h a aG
   ·exact⟨c _ be,g.2⟩
  ·exact h
variable {l:List aU}
theorem alf(g:∀r∈l,fH 59 r.head/\jt r.head<=20):∀(f:Nat)(p:List (ak×Bool)×List I)(n left:Int),Ba p.2->n<=1000->1002<=f+n->(y8 l f p n left).isSome=true
 |0,p,n,left,_,h1,o=>by omega|f+1,p,n,left,ar,h1,o=>by
  rw[y8];split
  ·rename_i z;simp only[aqB,decide_eq_true_eq]at z;cases hm:rS p.2 l [] left with
   |none=>rfl|some q =>
    obtain⟨more,E⟩:=q;have B:=ale ar l [] left _ g (λ_ h=>d7) hm;have j:∀t∈more++p.2.filterMap kP,fH 59 t/\qX t=true:=λt c=>by
     rw[aqI]at c;rcases c with c|c
     ·exact B t c
     ·obtain⟨u,C,D⟩:=List.mem_filterMap.1 c;exact aKb (ar u C) D
    simp only;rw[if_neg (by
     rw[avP.2 λt c=>(j t c).2];simp)]
    exact alf g f _ _ _ (TL _ _ (λt c=>(j t c).1) ar) am am
  ·rfl
variable {g:List I}
theorem alg(h:∀r∈l,fH k r.head/\jt r.head<=20)(c:∀a∈g,fH k a/\jt a<=60):(kb l g).isSome=true:=by
 have o:∀a∈g,fH 59 a:=λa aG=>TD 60 a (c a aG).2 am (c a aG).1;unfold kb;rw[if_neg (by
  rw[avP.2 λa aG=>TH (t:=a) (by have p:=alb 60 a (c a aG).1 (c a aG).2;have:=(c a aG).2;omega) (by have:=Lu 60 a (c a aG).2;omega)];simp)]
 exact alf (λr j=>⟨TD 20 _ (h r j).2 am (h r j).1,(h r j).2⟩) _ _ _ _ (TL _ _ o (by intro a aG;cases aG)) am am
variable {L:List aU}{r:aU}
theorem sR.We(C:sR L A)(o:r∈L)(ds:∀a∈S,a∈A){h:I}(c:h∈nc S r)(hd:cc h<=4):h∈A:=by
 rw[nc,Ts]at c;obtain⟨j,p,rfl⟩:=aqE.1 c;exact C.c r o j (Fu ds _ _ j (aqH.1 p).1) hd
theorem sR.round(C:sR L A)(j:∀r∈l,r∈L)(ds:∀a∈S,a∈A)(hd:jR (eB l S)=false):∀h∈eB l S,h∈A:=λh c=>by
 have o:=c;rw[eB,avY]at c;obtain⟨r,p,c⟩:=c;rw[jR,List.any_eq_false]at hd;have:=hd h o;exact C.We (j r p) ds c (by simpa using this)
theorem sR.Fv(C:sR L A)(B:∀r∈l,r∈L):∀(f:Nat)(S:List I),jo S->(∀a∈S,a∈A)->514<=f+S.length->1<=f->∃e c,xe f l S=some (e,c)/\jo c/\(∀a∈c,a∈A)/\∀a∈S,a∈c
 |0,S,_,_,_,h=>by omega|f+1,S,cE,ds,T,_=>by
  rw[xe];have o:gX S:=λa aG=>C.v a (ds a aG);cases hd:jR (eB l S)with
  |true=>exact⟨3,S,if_pos rfl,cE,ds,λ_ h=>h⟩|false =>
   rw[if_neg be];have D:=C.round B ds hd;by_cases p:kZ l S=[]
   ·exact⟨0,S,if_pos p,cE,ds,λ_ h=>h⟩
   ·rw[if_neg p];have q:∀a∈fx (S++kZ l S),a∈A:=λa aG=>by
     rw[rI,aqI]at aG;rcases aG with aG|aG
     ·exact ds a aG
     ·exact D a (ub.1 aG).1
    have z:=wZ (S++kZ l S);have E:(fx (S++kZ l S)).length<=A.length:=List.Nodup.length_le_of_subset (K1 z) q;have V:=C.n;rw[if_neg am];obtain⟨x,ah⟩:=List.exists_mem_of_ne_nil _ p;have J:x∉S:=λhm=>by
     have j:=(ub.1 ah).2;rw[(KY o (C.v x (D x (ub.1 ah).1))).2 hm]at j;cases j
    have W:S.length+1<=(fx (S++kZ l S)).length:=by
     have:=List.Nodup.length_le_of_subset (l₁:=x::S) (l₂:=fx (S++kZ l S)) (List.nodup_cons.2 ⟨J,K1 cE⟩) λa aG=>by
      rw[rI,aqI];rcases aqw.1 aG with rfl|aG
      ·exact .inr ah
      ·exact .inl aG
     simpa using this
    have F:∀a∈S,a∈fx (S++kZ l S):=λa aG=>by rw[rI,aqI];exact .inl aG
    by_cases G:512<(fx (S++kZ l S)).length
    ·rw[if_pos G];exact⟨11,_,rfl,z,q,F⟩
    ·rw[if_neg G];obtain⟨e,c,j,O,Q,R⟩:=C.Fv B f _ z q am am;exact⟨e,c,j,O,Q,λa aG=>R a (F a aG)⟩
theorem sR.Fx(C:sR L A)(j:∀r∈l,r∈L):∀(rows:List (List Nat))(S:List I),(∀row∈rows,∀k∈row,k<l.length)->jo S->(∀a∈S,a∈A)->∃e c,GJ l rows S=some (c,e)/\jo c/\(∀a∈c,a∈A)
 |[],S,_,cE,ds=>⟨0,S,rfl,cE,ds⟩|row::rows,S,hk,cE,ds=>by
  obtain⟨e,c,o,p,q,_⟩:=C.Fv (l:=row.map (l[·]!)) (λr h=>by
   obtain⟨k,z,rfl⟩:=aqE.1 h;exact j _ (ek (hk row be k z))) 600 S cE ds am am
  rw[GJ,o];by_cases he:e=0
  ·simp only[he,if_true];exact C.Fx j rows c (λr h=>hk r (aqv _ h)) p q
  ·simp only[he,if_false];exact⟨e,[],rfl,List.Pairwise.nil,be⟩
theorem Wf(C:sR L A)(c:∀r∈l,r∈L)(j:∀a∈g,a∈A):∃S e,iz l g=some (S,e)/\jo S/\∀a∈S,a∈A:=by
 unfold iz;split
 ·exact⟨_,_,rfl,List.Pairwise.nil,be⟩
 ·split
  ·exact⟨_,_,rfl,List.Pairwise.nil,be⟩
  ·split
   ·exact⟨_,_,rfl,List.Pairwise.nil,be⟩
   ·obtain⟨e,S,h⟩:=C.Fx c (oC l).1 (fx g) (λrow o k hk=>aG7 o hk) (wZ g) (λa aG=>j a ((rI _ _).1 aG));exact⟨S,e,h⟩
theorem Wg{m:List aU}{g':List I}(cf:kb l g=some true)(hm:∀r,r∈m↔r∈l)(p:∀a,a∈g'↔a∈g):∃S e,iz m g'=some (S,e)/\S.length<=1000/\jo S/\(e=0->∃A,sR l A/\gX A/\(∀a∈S,a∈A)/\∀a∈g,a∈A):=by
 by_cases c:hG m=0
 ·cases j:rO g' with
  |true =>
   simp only[rO,aqB,avP]at j;obtain⟨A,C,cE⟩:=aJ0 (λr B=>(xi c).2 r ((hm r).2 B)) (λa aG=>aG9 (j.2 a ((p a).2 aG))) cf;obtain⟨S,e,D,q,z⟩:=Wf C (λr o=>(hm r).1 o) (g:=g') (λa aG=>cE a ((p a).1 aG));exact⟨S,e,D,aqU (List.Nodup.length_le_of_subset (K1 q) z) C.n,q,λ_=>⟨A,C,C.v,z,cE⟩⟩
  |false =>
   unfold iz;rw[if_neg ni,j];by_cases ax:(oC m).2≠0
   ·rw[if_pos ax];exact⟨_,_,rfl,be,List.Pairwise.nil,λh=>absurd h ax⟩
   ·rw[if_neg ax];exact⟨_,_,rfl,be,List.Pairwise.nil,λh=>d7⟩
 ·unfold iz;rw[if_pos ni];exact⟨_,_,rfl,be,List.Pairwise.nil,λh=>absurd h c⟩
theorem aKp{σ:Sub}{p:I}(h:dM p.name=true):(eD σ p).name=p.name/\(eD σ p).args.length=p.args.length:=by
 have c:¬eJ p=true:=λc=>by
  have:=G7 (show eg p.name=true by simp_all[eJ]);rw[G8 h]at this;cases this
 rw[C7,if_neg c];split
 ·exact⟨rfl,rfl⟩
 ·exact⟨rfl,by simp[I.args]⟩
structure Hf(r:aU):Prop extends RV1 r where
 hd:r.head.name≠eG
 hz:∀l∈r.body,l.atom.name=eG->l.atom.args.length=2
theorem als:∀{l:List I}{h:Bool},kG l h=0->(∀a∈l.head?,kj a h=0)/\∀a∈l.drop 1,kj a false=0
 |[],_,_=>by simp|t::r,h,he=>by
  rw[kG]at he;split at he
  ·rename_i c;obtain⟨j,o⟩:=als he;refine⟨ni,λa aG=>?_⟩;cases r with
   |nil=>cases aG|cons u r =>
    rcases aqw.1 (by simpa using aG)with rfl|aG
    ·exact j _ rfl
    ·exact o a (by simpa using aG)
  omega
theorem aKq(h:fK r=0):Hf r:=by
 refine⟨aiF h,?_,?_⟩;all_goals
  unfold fK at h;split at h
  ·cases h
  split at h
  ·rename_i c;exact absurd h c
  rename_i c;obtain⟨p,q⟩:=als ni
 ·intro o;have j:=p r.head rfl;have hk:ln r.head.name=some ⟨eG,2,false,true⟩:=by rw[o];rfl
  unfold kj at j;rw[hk]at j;grind
 ·intro l z o;have j:=q l.atom (aqE.2 ⟨l,z,rfl⟩);have hk:ln l.atom.name=some ⟨eG,2,false,true⟩:=by rw[o];rfl
  unfold kj at j;rw[hk]at j;by_cases c:l.atom.args.length=2
  ·exact c
  ·grind
theorem alu(h:hG l=0):∀r∈l,Hf r:=by
 unfold hG at h;split at h
 ·cases h
 ·intro r c;refine aKq ?_;cases j:l.find? λr=>!(fK r==0)with
  |none=>grind|some s=>grind
structure aPl(l:List aU)(lv:ak->Int)(n:Nat):Prop where
 o:oC l=((ax6 n).map λk:Nat=>(ax6 l.length).filter λi=>lv l[i]!.head.name==(k:Int),0)
 h:∀r∈l,r.head.name≠eG->0<=lv r.head.name/\lv r.head.name<n
 b:∀r∈l,r.head.name≠eG->∀x∈r.body,x.atom.name≠eG->lv x.atom.name+(if x.neg then 1 else 0)<=lv r.head.name
structure aPm(l:List aU)(lv:ak->Int)(g:List I)(k:Nat)(A:List I):Prop where
 v:gX A
 i:∀a∈g,a∈A
 s:∀x∈A,x∈g\/∃r∈l,lv r.head.name<k/\x∈nc A r
 c:∀r∈l,lv r.head.name<k->∀x∈nc A r,x∈A
mutual
def hx:I->I->List aY->List aY×Bool
 |.mk n l,t,s=>if eJ (.mk n l)then(match jr s n with|some u=>(s,hi u t)|none=>(s++[⟨n,t⟩],true))
  else if n != t.name||decide (l.length≠t.args.length)then([],false)else nk l t.args s
def nk:List I->List I->List aY->List aY×Bool
 |p::ps,t::bE,s=>if(hx p t s).2 then nk ps bE (hx p t s).1 else((hx p t s).1,false)|[],_,s=>(s,true)|_::_,[],s=>(s,true)
end
theorem aKr(s:List aY)(n:ak)(t:I):dn (s++[⟨n,t⟩])=dn s++[(n,t)]:=by simp[dn]
mutual
theorem alv:∀(p t:I)(s:List aY),(hx p t s).2=(eA p t (dn s)).1/\((hx p t s).2=true->dn (hx p t s).1=(eA p t (dn s)).2)
 |.mk n l,t,s=>by
  rw[hx,eA];by_cases j:eJ (.mk n l)=true
  ·rw[if_pos j,if_pos j,mn,<-DG];cases jr s n with
   |some u=>simp[Tq]|none=>simp[aKr]
  ·rw[if_neg j,if_neg j];by_cases c:n≠t.name\/l.length≠t.args.length
   ·rw[if_pos c,if_pos (by rcases c with h|h<;>simp[h])];simp
   ·have o:n=t.name:=Classical.byContradiction λh=>c (.inl h);have q:l.length=t.args.length:=Classical.byContradiction λh=>c (.inr h);rw[if_neg c,if_neg (by simp[o,q])];exact alw l t.args s
theorem alw:∀(l m:List I)(s:List aY),(nk l m s).2=(gj l m (dn s)).1/\((nk l m s).2=true->dn (nk l m s).1=(gj l m (dn s)).2)
 |p::ps,t::bE,s=>by
  obtain⟨h,j⟩:=alv p t s;rw[nk,gj];cases c:(hx p t s).2 with
  |true =>
   rw[if_pos rfl,if_pos (h▸c),<-j c];exact alw ps bE _
  |false =>
   rw[if_neg be,if_neg (by rw[<-h,c];simp)];simp
 |[],m,s=>by rw[nk,gj];exact⟨rfl,λ_=>rfl⟩;simp|_::_,[],s=>by rw[nk,gj];exact⟨rfl,λ_=>rfl⟩;simp
end
def kl(a:I)(A:List I)(s:List aY):List (List aY):=(A.filter λt=>(hx a t s).2).map λt=>(hx a t s).1
def jU(A:List I):List Lit->List (List aY)->List (List aY)
 |[],out=>out|l::r,out=>jU A r (if dB l then out.flatMap (kl l.atom A)else out)
def rW(body:List Lit)(s:List aY):Bool:=body.all λl=>!(l.atom.name==eG)||(hi (eD (dn s) l.atom).args[0]! (eD (dn s) l.atom).args[1]! ==l.neg)
def vo(body:List Lit)(A:List I):List (List aY):=(jU A body [[]]).filter (rW body)
def DN(A:List I)(t:I):Bool:=A.any λb=>hi b t
theorem alx :DN A t=true↔t∈A:=by
 rw[DN,List.any_eq_true];simp[JT]
def Hg(body:List Lit)(A:List I)(s:List aY):Bool:=body.all λl=>!(l.neg&&!(l.atom.name==eG))||!DN A (eD (dn s) l.atom)
def mA(r:aU)(A:List I):List I:=((vo r.body A).filter (Hg r.body A)).map λs=>eD (dn s) r.head
theorem aKs(p:dM a.name=true)(A:List I)(s:List aY):(kl a A s).map dn=xx A a (dn s):=by
 have o:¬eJ a=true:=λo=>by
  have:=G7 (show eg a.name=true by simp_all[eJ]);rw[G8 p]at this;cases this
 induction A with
 |nil=>rfl|cons t r ih =>
  rw[akU,<-ih];obtain⟨c,q⟩:=alv a t s;unfold kl;cases j:(hx a t s).2 with
  |true =>
   rw[j]at c;have z:t.name=a.name:=Classical.byContradiction λh=>by
    rw[Rg,if_neg o,if_pos (.inl (Ne.symm h))]at c;cases c
   rw[List.filter_cons_of_pos nq,aqt,aqt,if_pos z,if_pos c.symm,q j];rfl
  |false =>
   rw[j]at c;rw[List.filter_cons_of_neg (by simp[j]),if_neg (show ¬(eA a t (dn s)).1=true by rw[<-c];simp)];split<;>rfl
theorem TS :∀(body:List Lit)(out:List (List aY)),(∀l∈body,dM l.atom.name=true)->(jU A body out).map dn=(out.map dn).flatMap (exts A (body.filter dB))
 |[],out,_=>by simp[jU,exts]|l::r,out,h=>by
  rw[jU,TS r _ λx ah=>h x (aqv _ ah)];cases ae:dB l with
  |true =>
   rw[List.filter_cons_of_pos ae,if_pos rfl];have e:(out.flatMap (kl l.atom A)).map dn=(out.map dn).flatMap (xx A l.atom):=by
    rw[List.map_flatMap,List.flatMap_map];congr 1;funext s
    exact aKs (h l be) A s
   rw[e,List.flatMap_assoc];congr 1;funext σ
   exact(akT A l _ σ).symm
  |false =>
   rw[List.filter_cons_of_neg (by simp[ae]),if_neg be]
theorem aKt(cE:gX A)(o:Hf r)(ax:pY (dn s)):(rW r.body s&&Hg r.body A s)=(r.body.filter λl=>!dB l).all (o9 A (dn s)):=by
 rw[Bool.eq_iff_iff,aqB,rW,Hg,avP,avP,avP];have key:∀l∈r.body,((!(l.atom.name==eG)||(hi (eD (dn s) l.atom).args[0]! (eD (dn s) l.atom).args[1]! ==l.neg))=true/\(!(l.neg&&!(l.atom.name==eG))||!DN A (eD (dn s) l.atom))=true)↔(dB l=false->o9 A (dn s) l=true):=λl j=>by
  have p:l.atom∈dx r:=by simp only[dx,aqw,aqE];exact .inr ⟨l,j,rfl⟩
  obtain⟨z,B⟩:=aKp (σ:=dn s) (o.a l.atom p).2;unfold o9;rw[z,B];by_cases hd:l.atom.name=eG
  ·have ae:dB l=false:=by simp[dB,hd]
   rw[o.hz l j hd,hd,ae,Tq];generalize b6 _ _=c;cases l.neg<;>cases J:(c==0)<;>simp_all
  ·have q:(l.atom.name==eG)=false:=by simpa using hd
   rw[q];have C:=Di (v:=true) (n:=4) ax (o.a l.atom p).1 (λh=>d7);have D:DN A (eD (dn s) l.atom)=kI A (eD (dn s) l.atom):=by rw[Bool.eq_iff_iff,KY cE C,alx]
   rw[D];cases E:l.neg<;>simp[dB,E,q]
 constructor
 ·rintro⟨F,G⟩ l j;rw[aqH]at j;exact(key l j.1).1 ⟨F l j.1,G l j.1⟩ (by simpa using j.2)
 ·intro h;refine⟨λl j=>((key l j).2 λae=>h l (aqH.2 ⟨j,by simp[ae]⟩)).1,λl j=>((key l j).2 λae=>h l (aqH.2 ⟨j,by simp[ae]⟩)).2⟩
theorem aKu(cE:gX A)(c:Hf r):mA r A=nc A r:=by
 have e:=TS (A:=A) r.body [[]] λl o=>(c.a l.atom (by simp only[dx,aqw,aqE];exact .inr ⟨l,o,rfl⟩)).2;have j:(jU A r.body [[]]).map dn=exts A (r.body.filter dB) []:=by rw[e];simp[dn]
 rw[nc,Ts,<-j,mA,vo,List.filter_filter,List.filter_map,List.map_map];have ax:∀s∈jU A r.body [[]],pY (dn s):=λs hm=>(Tw cE _ [] (λ_ h=>d7) (dn s) (by rw[<-j];exact aqE.2 ⟨s,hm,rfl⟩)).1;rw[List.filter_congr λs hm=>by rw[Bool.and_comm,aKt cE c (ax s hm)]];rfl
theorem alK(A:List I):∀(b:List Lit)(l:Lit)(out:List (List aY)),jU A (b++[l]) out=if dB l then(jU A b out).flatMap (kl l.atom A)else jU A b out
 |[],l,out=>by simp[jU]|x::b,l,out=>by rw[avO,jU,alK A b l,jU]
theorem alL(a:I)(A B:List I)(s:List aY):kl a (A++B) s=kl a A s++kl a B s:=by simp[kl]
theorem aLv(a t:I)(s:List aY):kl a [t] s=if(hx a t s).2 then[(hx a t s).1]else[]:=by
 cases h:(hx a t s).2<;>simp[kl,h]
def oG(a:I)(A:List I)(rows:List (List aY))(k j:Nat):List (List aY):=(rows.take k).flatMap (kl a A)++kl a (A.take j) rows[k]!
theorem aLw(a:I)(A:List I)(rows:List (List aY)):oG a A rows 0 0=[]:=by simp[oG,kl]
variable {rows:List (List aY)}{j:Nat}
theorem aLx(h:j<A.length):oG a A rows k (j+1)=oG a A rows k j++if(hx a A[j]! rows[k]!).2 then[(hx a A[j]! rows[k]!).1]else[]:=by
 rw[oG,bL h,alL,aLv,oG,avQ]
theorem aLy(hk:k<rows.length)(h:A.length<=j):oG a A rows k j=oG a A rows (k+1) 0:=by
 rw[oG,oG,aL1 h,bL hk,List.flatMap_append];simp[kl]
theorem aLz(hk:rows.length<=k):oG a A rows k 0=rows.flatMap (kl a A):=by
 rw[oG,aL1 hk];simp[kl]
theorem aLA(hk:k<rows.length):(oG a A rows k j).length<=(rows.flatMap (kl a A)).length:=by
 have e:rows.flatMap (kl a A)=(rows.take k).flatMap (kl a A)++(kl a A rows[k]!++(rows.drop (k+1)).flatMap (kl a A)):=by
  conv=>lhs;rw[<-aPw k rows,fi hk]
  rw[List.flatMap_append,List.flatMap_cons]
 have c:kl a A rows[k]! = kl a (A.take j) rows[k]!++kl a (A.drop j) rows[k]!:=by rw[<-alL,aPw]
 rw[e,c,oG];simp only[aqT];omega
theorem aLB(C:sR L A)(c:r∈L)(h:S.Nodup)(ds:∀a∈S,a∈A)(o:∀l∈r.body,dM l.atom.name=true)(i:Nat):(jU S (r.body.take i) [[]]).length<=5000:=by
 have e:=TS (A:=S) (r.body.take i) [[]] λl p=>o l (List.mem_of_mem_take p);have q:=Tv h ds ((r.body.take i).filter dB) [];have z:=C.p r c (r.body.take i) (r.body.drop i) (aPw ..).symm;have B:(jU S (r.body.take i) [[]]).length=(exts S ((r.body.take i).filter dB) []).length:=by rw[<-aPR (f:=dn),e];simp[dn]
 omega
def zd(s:List aY)(l:Lit):Bool:=!(l.atom.name==eG)||(hi (eD (dn s) l.atom).args[0]! (eD (dn s) l.atom).args[1]! ==l.neg)
theorem alM(body:List Lit)(s:List aY):rW body s=body.all (zd s):=rfl
open Enc (enc)
section
variable {α:Type}[Enc α]
def dg:Bool->List α->AV
 |true,[]=>.aS (Enc.sz α)|_,l=>.list none (Enc.sz α) (l.map enc)
theorem hr(l:List α):dg false l=.list none (Enc.sz α) (l.map enc):=by cases l<;>rfl
theorem Wj{P:AV->Prop}(h:P (.aS (Enc.sz α)))(c:∀xs,P (.list none (Enc.sz α) xs))(b:Bool)(s:List α):P (dg b s):=by
 cases b
 ·rw[hr];exact c _
 ·cases s
  ·exact h
  ·exact c _
theorem Wk(b:Bool)(s:List α):(dg b s=.aS (Enc.sz α)/\s=[])\/dg b s=.list none (Enc.sz α) (s.map enc):=by
 cases b
 ·exact .inr (hr s)
 ·cases s
  ·exact .inl ⟨rfl,rfl⟩
  ·exact .inr rfl
theorem Wl(b:Bool)(s:List α):(dg b s).a1=dg b s:=Wj (P:=λx=>x.a1=x) rfl (λ_=>rfl) b s
instance aT.dg(b:Bool)(s:List α):aT (dg b s) s:=by
 cases b
 ·rw[hr];exact aT.enc s
 ·cases s
  ·exact aT.aS
  ·exact aT.enc (_::_)
end
theorem Wm{l:List ak}{s:ak}(h:i<l.length)(he:xf s l=l.take i++xf s (l.drop i)) :
  (Op.bytesLess l[i]! s=true->xf s l=l.take (i+1)++xf s (l.drop (i+1))) /\
  (Op.bytesLess l[i]! s=false->xf s l=if(l[i]! ==s)=true then l else l.take i++([s]++l.drop i)):=by
 have hd:=fi h;rw[hd]at he;have q:=CN l[i]! s;have z:=CN s l[i]!;have B:=CY l[i]! s;have C:du l[i]! s=0↔l[i]! = s:=mY;constructor
 ·intro c;have cG:s≠l[i]!:=by grind
  have o:Op.bytesLess s l[i]! = false:=by grind
  rw[he,xf,if_neg cG,o,bL h];simp
 ·intro c;by_cases e:s=l[i]!
  ·rw[he,xf,if_pos e,if_pos (by rw[e];simp),<-hd,aPw]
  ·have p:Op.bytesLess s l[i]! = true:=by grind
   rw[he,xf,if_neg e,if_pos p,if_neg (by simpa using Ne.symm e),hd];rfl
def dR(s:ak):Bool:=!(s==eG)
def b2(xs acc:List ak):List ak:=xs.foldl (λa s=>if dR s then xf s a else a) acc
theorem lF(xs acc:List ak):b2 xs acc=(xs.filter dR).foldl (λa s=>xf s a) acc:=by
 rw[List.foldl_filter];rfl
theorem Fz(xs acc:List ak)(s:ak):b2 (xs++[s]) acc=if dR s then xf s (b2 xs acc)else b2 xs acc:=by
 simp[b2]
theorem h0(xs acc:List ak):(b2 xs acc).length<=acc.length+xs.length:=by
 rw[lF];exact aqU (ai2 _ _) (Nat.add_le_add_left (aPS _ _) _)
def dh(r:aU):List ak:=r.body.map λx=>x.atom.name
def bz(l:List aU):List ak:=b2 (l.map λr=>r.head.name) []
def mh(l:List aU):List ak:=b2 (l.flatMap dh) (bz l)
theorem fU(xs:List ak){acc:List ak}(h:y2 ng acc):y2 ng (b2 xs acc)/\∀y,y∈b2 xs acc↔y∈acc\/(y∈xs/\dR y=true):=by
 have:=GS GQ Sq (xs.filter dR) acc h;rw[show(λ(a:List ak)x=>nO ng x a)=λa x=>xf x a by funext a x;exact(Ss x a).symm,<-lF]at this;refine⟨this.1,λy=>?_⟩;rw[this.2,aqH];exact or_comm
theorem FA(l:List aU):mh l=il l:=by
 obtain⟨c,h⟩:=fU (l.map λr=>r.head.name) (acc:=[]) List.Pairwise.nil;obtain⟨o,p⟩:=fU (l.flatMap dh) c;have e:il l=b2 (l.flatMap λr=>r.head.name::dh r) []:=by rw[lF];rfl
 obtain⟨q,z⟩:=fU (l.flatMap λr=>r.head.name::dh r) (acc:=[]) List.Pairwise.nil;rw[e];refine Sn GQ o q λx=>?_;rw[mh,bz,z,p,h];simp only[List.not_mem_nil,false_or,aqE,avY,aqw];grind
theorem Wn{l:List bR}(h:i<l.length)(he:xg x l=l.take i++xg x (l.drop i)) :
  (p3 l[i]! x=true->xg x l=l.take (i+1)++xg x (l.drop (i+1))) /\
  (p3 l[i]! x=false->xg x l=if l[i]! = x then l else l.take i++([x]++l.drop i)):=by
 have hd:=fi h;rw[hd]at he;have q:=Sf l[i]! x;have p:=ajl x;constructor
 ·intro c;have o:lP l[i]! x<0:=of_decide_eq_true c;rw[he,xg,if_neg am,if_neg am,bL h];simp
 ·intro c;have o:¬lP l[i]! x<0:=of_decide_eq_false c;by_cases e:l[i]! = x
  ·rw[he,xg,if_pos e,if_pos (by rw[e];exact p),<-hd,aPw]
  ·have cG:lP x l[i]!≠0:=λh=>e (La h).symm;rw[he,xg,if_neg e,if_neg cG,if_pos am,hd];rfl
theorem Wo(a b:bR):p3 a b=if(!(a.src==b.src))=true then Op.bytesLess a.src b.src else if(!(a.dst==b.dst))=true then Op.bytesLess a.dst b.dst else !a.neg&&b.neg:=by
 have B:=CN a.src b.src;have C:=CN a.dst b.dst;have q:du a.src b.src=0↔a.src=b.src:=mY;have z:du a.dst b.dst=0↔a.dst=b.dst:=mY;show decide (lP a b<0)=_;unfold lP;by_cases c:a.src=b.src
 ·have p:(a.src==b.src)=true:=by simpa using c
  simp only[q.2 c,p,ne_eq,not_true_eq_false,if_false,Bool.not_true,aqV];by_cases o:a.dst=b.dst
  ·have en:(a.dst==b.dst)=true:=by simpa using o
   simp only[z.2 o,en,ne_eq,not_true_eq_false,if_false,Bool.not_true,aqV];cases a.neg<;>cases b.neg<;>rfl
  ·have en:(a.dst==b.dst)=false:=by simpa using o
   have D:¬du a.dst b.dst=0:=λh=>o (z.1 h);simp only[D,en,ne_eq,not_false_eq_true,if_true,Bool.not_false];rw[C];cases Op.bytesLess a.dst b.dst<;>cases Op.bytesLess b.dst a.dst<;>rfl
 ·have p:(a.src==b.src)=false:=by simpa using c
  have E:¬du a.src b.src=0:=λh=>c (q.1 h);simp only[E,p,ne_eq,not_false_eq_true,if_true,Bool.not_false];rw[B];cases Op.bytesLess a.src b.src<;>cases Op.bytesLess b.src a.src<;>rfl
def dt(xs:List bR):List bR:=xs.foldl (λa x=>xg x a) []
theorem Wp(xs:List bR)(x:bR):dt (xs++[x])=xg x (dt xs):=by simp[dt]
theorem FB(x:bR):∀l:List bR,(xg x l).length<=l.length+1
 |[]=>by simp[xg]|t::r=>by have:=FB x r;rw[xg];split<;>(try split)<;>simp only[aqx]<;>omega
theorem Wq(xs:List bR):(dt xs).length<=xs.length:=by
 have key:∀(m acc:List bR),(m.foldl (λacc x=>xg x acc) acc).length<=acc.length+m.length:=λm=>by
  induction m with
  |nil=>intro acc;simp|cons x r ih =>
   intro acc;have c:=ih (xg x acc);have h:=FB x acc;simp only[aLY,aqx];omega
 simpa[dt]using key xs []
def b3(s:ak)(B:List Lit):List bR:=(B.filter λx=>!(x.atom.name==eG)).map λx=>⟨s,x.atom.name,x.neg⟩
theorem Wr(s:ak){B:List Lit}(h:k<B.length):b3 s (B.take (k+1))=if(B[k]!.atom.name==eG)=true then b3 s (B.take k)else b3 s (B.take k)++[⟨s,B[k]!.atom.name,B[k]!.neg⟩]:=by
 unfold b3;rw[bL h,List.filter_append];split<;>simp_all
theorem Ws(h:i<l.length):lp (l.take (i+1))=lp (l.take i)++if(l[i]!.head.name==eG)=true then[]else b3 l[i]!.head.name l[i]!.body:=by
 unfold lp b3;rw[bL h,List.filter_append,List.flatMap_append];split<;>simp_all
theorem Jf(s:ak)(B:List Lit):(b3 s B).length<=B.length:=by
 simp[b3,aPS]
def bC(n:Int):List bR->List (ak×Int)->Bool->Option (List (ak×Int)×Bool)
 |[],lev,ch=>some (lev,ch)|e::r,lev,ch=>if AY lev e>n then none else if mw lev e.src<AY lev e then bC n r (fV lev e.src (AY lev e)) true else bC n r lev ch
def bX(n:Int)(es:List bR):Nat->List (ak×Int)->Option (Option (List (ak×Int)))
 |0,_=>none|f+1,lev=>match bC n es lev false with
  |none=>some none|some (kL,true)=>bX n es f kL|some (kL,false)=>some (some kL)
variable {n:Int}
theorem mi :∀{es:List bR}{lev c:List (ak×Int)}{ch p:Bool},(∀e∈es,e.src∈ns)->xp n lev->bC n es lev ch=some (c,p) ->
  xp n c/\qS ns lev<=qS ns c/\(p=true->ch=true\/qS ns lev<qS ns c)
 |[],lev,c,ch,p,_,o,h=>by
  simp only[bC,Option.some.injEq,Prod.mk.injEq]at h;obtain⟨rfl,rfl⟩:=h;simp_all
 |e::r,lev,c,ch,p,ax,o,h=>by
  rw[bC]at h;split at h
  ·cases h
  ·split at h
   ·rename_i D q;have z:=ajV o e;obtain⟨B,E,_⟩:=mi (λe he=>ax e (aqv _ he)) (ajW o z.1 am) h;obtain⟨F,C⟩:=ajU (ns:=ns) (o e.src).1 q;have:=C (ax e be);exact⟨B,am,λ_=>.inr am⟩
   ·exact mi (λe he=>ax e (aqv _ he)) o h
variable {es:List bR}
theorem mV{n:Nat}(o:ns.length=n)(ax:∀e∈es,e.src∈ns):∀(f:Nat){lev:List (ak×Int)},xp n lev->n*n+1<f+qS ns lev->bX n es f lev≠none
 |0,lev,c,h=>by
  have:=aIK (ns:=ns) (b:=n) λs=>(c s).2;rw[o]at this;omega
 |f+1,lev,c,h=>by
  rw[bX];split
  ·simp
  ·rename_i ar;obtain⟨p,z,q⟩:=mi ax c ar;have:=(q rfl).resolve_left be;exact mV o ax f p am
  ·simp
def eE(es:List bR)(L:ak->Int):Prop:=∀e∈es,L e.dst+(if e.neg then 1 else 0)<=L e.src
theorem mW :∀{es:List bR}{lev p:List (ak×Int)}{ch c:Bool},bC n es lev ch=some (p,c)->(ch=true->c=true)/\(c=false->p=lev/\eE es (mw lev))
 |[],lev,p,ch,c,h=>by
  simp only[bC,Option.some.injEq,Prod.mk.injEq]at h;obtain⟨rfl,rfl⟩:=h;exact⟨id,λ_=>⟨rfl,λe he=>by cases he⟩⟩
 |e::r,lev,p,ch,c,h=>by
  rw[bC]at h;split at h
  ·cases h
  ·split at h
   ·obtain⟨q,_⟩:=mW h;exact⟨λ_=>q rfl,λo=>by rw[q rfl]at o;cases o⟩
   ·rename_i C;obtain⟨q,B⟩:=mW h;refine⟨q,λo=>⟨(B o).1,λD z=>?_⟩⟩;rcases aqw.1 z with rfl|z
    ·unfold AY at C;omega
    ·exact(B o).2 D z
variable {L:ak->Int}
theorem Wt(ax:∀e∈es,e.src∈ns/\e.dst∈ns)(h:eE es L) :
  ∃p:ak->Int,eE es p/\(∀s,0<=p s)/\∀s∈ns,p s<ns.length:=by
 have mono:∀{x y:Int},x<=y->(ns.filter λt=>decide (L t<x)).length<=(ns.filter λt=>decide (L t<y)).length:=λD=>by
  rw[<-aPV,<-aPV];exact aP3 λt _ o=>by simp only[decide_eq_true_eq]at o ⊢;omega
 have c:∀{x y:Int}{s:ak},s∈ns->x<=L s->L s<y->(ns.filter λt=>decide (L t<x)).length<(ns.filter λt=>decide (L t<y)).length:=λ{x y s}hm ah B=>by
  obtain⟨a,b,rfl⟩:=List.append_of_mem hm;rw[<-aPV,<-aPV];simp only[List.countP_append,List.countP_cons];have q:a.countP (λt=>decide (L t<x))<=a.countP (λt=>decide (L t<y)):=aP3 λt _ o=>by simp only[decide_eq_true_eq]at o ⊢;omega
  have C:b.countP (λt=>decide (L t<x))<=b.countP (λt=>decide (L t<y)):=aP3 λt _ o=>by simp only[decide_eq_true_eq]at o ⊢;omega
  rw[if_neg (by simpa using ah),if_pos (by simpa using B)];omega
 refine⟨λs=>((ns.filter λt=>decide (L t<L s)).length:Nat),λe he=>?_,λs=>Int.natCast_nonneg _,λs hm=>?_⟩
 ·have q:=h e he;cases z:e.neg with
  |true =>
   rw[z,if_pos rfl]at q;have:=c (x:=L e.dst) (y:=L e.src) (ax e he).2 (Int.le_refl _) am;simp only[if_true];omega
  |false =>
   rw[z,if_neg be]at q;have:=mono (x:=L e.dst) (y:=L e.src) am;simp only[aqV,if_false];omega
 ·have:=c (x:=L s) (y:=L s+1) hm (Int.le_refl _) am;have C:=aPS (λt=>decide (L t<L s+1)) ns;show((ns.filter λt=>decide (L t<L s)).length:Int)<_;omega
theorem mX(cf:∀s∈ns,L s<n):∀{es:List bR}{lev:List (ak×Int)}{ch:Bool},(∀e∈es,e.src∈ns)->eE es L->(∀s,mw lev s<=L s) ->
  p0 n es lev ch=bC n es lev ch/\∃r,p0 n es lev ch=some r/\∀s,mw r.1 s<=L s
 |[],lev,ch,_,_,h=>⟨rfl,_,rfl,h⟩|e::r,lev,ch,ax,ds,h=>by
  have z:=ds e be;have B:=h e.dst;have C:=cf _ (ax e be);have p:AY lev e<=L e.src:=by unfold AY;omega
  have c:∀e∈r,e.src∈ns:=λe he=>ax e (aqv _ he);have o:eE r L:=λe he=>ds e (aqv _ he);rw[p0,bC,if_neg (by omega:¬AY lev e>n)];split
  ·rw[if_neg am];refine mX cf c o λs=>?_;rw[ajT];split
   ·rename_i q;rw[q];exact p
   ·exact h s
  ·exact mX cf c o h
theorem Jh(cf:∀s∈ns,L s<n)(ax:∀e∈es,e.src∈ns)(ds:eE es L):∀(f:Nat){lev:List (ak×Int)},(∀s,mw lev s<=L s) ->
  ud n es f lev=bX n es f lev/\ud n es f lev≠some none
 |0,lev,h=>⟨rfl,by simp[ud]⟩|f+1,lev,h=>by
  obtain⟨c,⟨z,o⟩,p,q⟩:=mX cf (ch:=false) ax ds h;rw[ud,bX,<-c,p];cases o with
  |true=>exact Jh cf ax ds f q|false=>simp
theorem ie :∀{es:List bR}{lev c:List (ak×Int)}{ch o:Bool},xp (n-1) lev->p0 n es lev ch=some (c,o)->bC n es lev ch=some (c,o)/\xp (n-1) c
 |[],lev,c,ch,o,h,e=>by
  simp only[p0,Option.some.injEq,Prod.mk.injEq]at e;obtain⟨rfl,rfl⟩:=e;exact⟨rfl,h⟩
 |e::r,lev,c,ch,o,h,he=>by
  have q:=ajV h e;rw[p0]at he;rw[bC,if_neg am];split at he
  ·split at he
   ·cases he
   ·rename_i p z;rw[if_pos p];exact ie (ajW h q.1 am) he
  ·rename_i p;rw[if_neg p];exact ie h he
theorem Ji :∀(f:Nat){lev c:List (ak×Int)},xp (n-1) lev->ud n es f lev=some (some c)->bX n es f lev=some (some c)
 |0,_,_,_,h=>by cases h|f+1,lev,c,o,h=>by
  rw[ud]at h;rw[bX];split at h
  ·cases h
  ·rename_i ar;obtain⟨p,q⟩:=ie o ar;rw[p];exact Ji f q h
  ·rename_i ar;rw[(ie o ar).1];exact h
theorem Jj :∀(f:Nat){lev c:List (ak×Int)},bX n es f lev=some (some c)->eE es (mw c)
 |0,_,_,h=>by cases h|f+1,lev,c,h=>by
  rw[bX]at h;split at h
  ·cases h
  ·exact Jj f h
  ·rename_i ar;obtain⟨o,p⟩:=(mW ar).2 rfl;simp_all
theorem Wu(l:List aU):bX (il l).length (mv l) ((il l).length*(il l).length+2) []=ud (il l).length (mv l) ((il l).length*(il l).length+2) []:=by
 obtain⟨n,c⟩:∃n,n=(il l).length:=⟨_,rfl⟩;rw[<-c];have h:∀e∈mv l,e.src∈il l/\e.dst∈il l:=λe he=>aIM he;obtain⟨R,de⟩:=aPX.1 (mV c.symm (λe he=>(h e he).1) (n*n+2) (ajY n) am);cases R with
 |some lev =>
  have ds:=Jj _ de;obtain⟨L,p,q,z⟩:=Wt h ds;exact((Jh (n:=n) (λs ax=>by rw[c];exact z s ax) (λe he=>(h e he).1) p (n*n+2) (lev:=[]) (λs=>q s)).1).symm
 |none =>
  rw[de];obtain⟨Q,o⟩:=aPX.1 (ajX c.symm (λe he=>(h e he).1) (n*n+2) (ajY n) am);cases Q with
  |none=>exact o.symm|some lev =>
   exfalso;cases n with
   |zero =>
    have B:mv l=[]:=List.eq_nil_iff_forall_not_mem.2 λe he=>by
     have:=(h e he).1;rw[aPU.1 c.symm]at this;cases this
    rw[B]at de;simp[bX,bC]at de
   |succ n =>
    have:=Ji _ (λs=>by simp[mw,getM]) o;rw[de]at this;cases this
end AM
